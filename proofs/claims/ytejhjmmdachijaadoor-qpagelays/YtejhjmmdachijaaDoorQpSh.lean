import Derived.Test.YtejhjmmdachijaaDoorQpM
namespace Go.Av
set_option linter.unusedVariables false
noncomputable section

/-! bytes.Cut -/

def bytes_Cut_ret (before4 : List UInt8) (after5 : List UInt8) (found6 : Bool) : Option AV := some (.tup [(.dat (.sl .byte) before4 none), (.dat (.sl .byte) after5 none), (.dat .bool found6 none)])
def bytes_Cut_sh (_n : Nat) (s0 : List UInt8) (sep1 : List UInt8) : Option AV :=
  bif ((bytes_Index_ok s0 sep1) && true) then
    bif (decide ((0 : Int) ≤ (bytes_Index s0 sep1))) then
      bif (((decide ((0 : Int) ≤ ((0 : Nat) : Int))) && (decide (((0 : Nat) : Int) ≤ (bytes_Index s0 sep1)))) && (decide ((bytes_Index s0 sep1) ≤ ((List.length s0 : Nat) : Int)))) then
        bif (((decide ((0 : Int) ≤ (IntKind.wrap .i64 ((bytes_Index s0 sep1) + ((List.length sep1 : Nat) : Int))))) && (decide ((IntKind.wrap .i64 ((bytes_Index s0 sep1) + ((List.length sep1 : Nat) : Int))) ≤ ((List.length s0 : Nat) : Int)))) && (decide (((List.length s0 : Nat) : Int) ≤ ((List.length s0 : Nat) : Int)))) then
          bytes_Cut_ret (List.drop (Int.toNat ((0 : Nat) : Int)) (List.take (Int.toNat (bytes_Index s0 sep1)) s0)) (List.drop (Int.toNat (IntKind.wrap .i64 ((bytes_Index s0 sep1) + ((List.length sep1 : Nat) : Int)))) (List.take (Int.toNat ((List.length s0 : Nat) : Int)) s0)) true
        else none
      else none
    else
      bytes_Cut_ret s0 ([] : List UInt8) false
  else none

/-! sheave/octet.plain -/

def octet_plain_ret (s2 : Int) : Option AV := some (.dat (.int .i64) s2 none)
def octet_plain_sh (_n : Nat) (c0 : UInt8) : Option AV :=
  bif (decide (c0 < (32 : UInt8))) then
    bif (c0 == (32 : UInt8)) then
      octet_plain_ret (bits .or .i64 (bits .or .i64 (0 : Int) (1 : Int)) (2 : Int))
    else
      bif (c0 == (9 : UInt8)) then
        octet_plain_ret (bits .or .i64 (bits .or .i64 (0 : Int) (1 : Int)) (2 : Int))
      else
        bif (decide ((48 : UInt8) ≤ c0)) then
          bif (decide (c0 ≤ (57 : UInt8))) then
            octet_plain_ret (bits .or .i64 (bits .or .i64 (0 : Int) (1 : Int)) (648 : Int))
          else
            bif (decide ((65 : UInt8) ≤ c0)) then
              bif (decide (c0 ≤ (90 : UInt8))) then
                bif (decide (c0 ≤ (90 : UInt8))) then
                  octet_plain_ret (bits .or .i64 (bits .or .i64 (0 : Int) (1 : Int)) (656 : Int))
                else
                  octet_plain_ret (bits .or .i64 (0 : Int) (1 : Int))
              else
                bif (decide ((97 : UInt8) ≤ c0)) then
                  bif (decide (c0 ≤ (122 : UInt8))) then
                    octet_plain_ret (bits .or .i64 (bits .or .i64 (0 : Int) (1 : Int)) (656 : Int))
                  else
                    octet_plain_ret (bits .or .i64 (0 : Int) (1 : Int))
                else
                  octet_plain_ret (bits .or .i64 (0 : Int) (1 : Int))
            else
              bif (decide ((97 : UInt8) ≤ c0)) then
                bif (decide (c0 ≤ (122 : UInt8))) then
                  octet_plain_ret (bits .or .i64 (bits .or .i64 (0 : Int) (1 : Int)) (656 : Int))
                else
                  octet_plain_ret (bits .or .i64 (0 : Int) (1 : Int))
              else
                octet_plain_ret (bits .or .i64 (0 : Int) (1 : Int))
        else
          bif (decide ((65 : UInt8) ≤ c0)) then
            bif (decide (c0 ≤ (90 : UInt8))) then
              bif (decide (c0 ≤ (90 : UInt8))) then
                octet_plain_ret (bits .or .i64 (bits .or .i64 (0 : Int) (1 : Int)) (656 : Int))
              else
                octet_plain_ret (bits .or .i64 (0 : Int) (1 : Int))
            else
              bif (decide ((97 : UInt8) ≤ c0)) then
                bif (decide (c0 ≤ (122 : UInt8))) then
                  octet_plain_ret (bits .or .i64 (bits .or .i64 (0 : Int) (1 : Int)) (656 : Int))
                else
                  octet_plain_ret (bits .or .i64 (0 : Int) (1 : Int))
              else
                octet_plain_ret (bits .or .i64 (0 : Int) (1 : Int))
          else
            bif (decide ((97 : UInt8) ≤ c0)) then
              bif (decide (c0 ≤ (122 : UInt8))) then
                octet_plain_ret (bits .or .i64 (bits .or .i64 (0 : Int) (1 : Int)) (656 : Int))
              else
                octet_plain_ret (bits .or .i64 (0 : Int) (1 : Int))
            else
              octet_plain_ret (bits .or .i64 (0 : Int) (1 : Int))
  else
    bif (c0 == (127 : UInt8)) then
      bif (c0 == (32 : UInt8)) then
        octet_plain_ret (bits .or .i64 (bits .or .i64 (0 : Int) (1 : Int)) (2 : Int))
      else
        bif (c0 == (9 : UInt8)) then
          octet_plain_ret (bits .or .i64 (bits .or .i64 (0 : Int) (1 : Int)) (2 : Int))
        else
          bif (decide ((48 : UInt8) ≤ c0)) then
            bif (decide (c0 ≤ (57 : UInt8))) then
              octet_plain_ret (bits .or .i64 (bits .or .i64 (0 : Int) (1 : Int)) (648 : Int))
            else
              bif (decide ((65 : UInt8) ≤ c0)) then
                bif (decide (c0 ≤ (90 : UInt8))) then
                  bif (decide (c0 ≤ (90 : UInt8))) then
                    octet_plain_ret (bits .or .i64 (bits .or .i64 (0 : Int) (1 : Int)) (656 : Int))
                  else
                    octet_plain_ret (bits .or .i64 (0 : Int) (1 : Int))
                else
                  bif (decide ((97 : UInt8) ≤ c0)) then
                    bif (decide (c0 ≤ (122 : UInt8))) then
                      octet_plain_ret (bits .or .i64 (bits .or .i64 (0 : Int) (1 : Int)) (656 : Int))
                    else
                      octet_plain_ret (bits .or .i64 (0 : Int) (1 : Int))
                  else
                    octet_plain_ret (bits .or .i64 (0 : Int) (1 : Int))
              else
                bif (decide ((97 : UInt8) ≤ c0)) then
                  bif (decide (c0 ≤ (122 : UInt8))) then
                    octet_plain_ret (bits .or .i64 (bits .or .i64 (0 : Int) (1 : Int)) (656 : Int))
                  else
                    octet_plain_ret (bits .or .i64 (0 : Int) (1 : Int))
                else
                  octet_plain_ret (bits .or .i64 (0 : Int) (1 : Int))
          else
            bif (decide ((65 : UInt8) ≤ c0)) then
              bif (decide (c0 ≤ (90 : UInt8))) then
                bif (decide (c0 ≤ (90 : UInt8))) then
                  octet_plain_ret (bits .or .i64 (bits .or .i64 (0 : Int) (1 : Int)) (656 : Int))
                else
                  octet_plain_ret (bits .or .i64 (0 : Int) (1 : Int))
              else
                bif (decide ((97 : UInt8) ≤ c0)) then
                  bif (decide (c0 ≤ (122 : UInt8))) then
                    octet_plain_ret (bits .or .i64 (bits .or .i64 (0 : Int) (1 : Int)) (656 : Int))
                  else
                    octet_plain_ret (bits .or .i64 (0 : Int) (1 : Int))
                else
                  octet_plain_ret (bits .or .i64 (0 : Int) (1 : Int))
            else
              bif (decide ((97 : UInt8) ≤ c0)) then
                bif (decide (c0 ≤ (122 : UInt8))) then
                  octet_plain_ret (bits .or .i64 (bits .or .i64 (0 : Int) (1 : Int)) (656 : Int))
                else
                  octet_plain_ret (bits .or .i64 (0 : Int) (1 : Int))
              else
                octet_plain_ret (bits .or .i64 (0 : Int) (1 : Int))
    else
      bif (c0 == (32 : UInt8)) then
        octet_plain_ret (bits .or .i64 (0 : Int) (2 : Int))
      else
        bif (c0 == (9 : UInt8)) then
          octet_plain_ret (bits .or .i64 (0 : Int) (2 : Int))
        else
          bif (decide ((48 : UInt8) ≤ c0)) then
            bif (decide (c0 ≤ (57 : UInt8))) then
              octet_plain_ret (bits .or .i64 (0 : Int) (648 : Int))
            else
              bif (decide ((65 : UInt8) ≤ c0)) then
                bif (decide (c0 ≤ (90 : UInt8))) then
                  bif (decide (c0 ≤ (90 : UInt8))) then
                    octet_plain_ret (bits .or .i64 (0 : Int) (656 : Int))
                  else
                    octet_plain_ret (0 : Int)
                else
                  bif (decide ((97 : UInt8) ≤ c0)) then
                    bif (decide (c0 ≤ (122 : UInt8))) then
                      octet_plain_ret (bits .or .i64 (0 : Int) (656 : Int))
                    else
                      octet_plain_ret (0 : Int)
                  else
                    octet_plain_ret (0 : Int)
              else
                bif (decide ((97 : UInt8) ≤ c0)) then
                  bif (decide (c0 ≤ (122 : UInt8))) then
                    octet_plain_ret (bits .or .i64 (0 : Int) (656 : Int))
                  else
                    octet_plain_ret (0 : Int)
                else
                  octet_plain_ret (0 : Int)
          else
            bif (decide ((65 : UInt8) ≤ c0)) then
              bif (decide (c0 ≤ (90 : UInt8))) then
                bif (decide (c0 ≤ (90 : UInt8))) then
                  octet_plain_ret (bits .or .i64 (0 : Int) (656 : Int))
                else
                  octet_plain_ret (0 : Int)
              else
                bif (decide ((97 : UInt8) ≤ c0)) then
                  bif (decide (c0 ≤ (122 : UInt8))) then
                    octet_plain_ret (bits .or .i64 (0 : Int) (656 : Int))
                  else
                    octet_plain_ret (0 : Int)
                else
                  octet_plain_ret (0 : Int)
            else
              bif (decide ((97 : UInt8) ≤ c0)) then
                bif (decide (c0 ≤ (122 : UInt8))) then
                  octet_plain_ret (bits .or .i64 (0 : Int) (656 : Int))
                else
                  octet_plain_ret (0 : Int)
              else
                octet_plain_ret (0 : Int)

/-! internal/stringslite.IndexByte -/

def internal_stringslite_IndexByte_ret (s4 : Int) : Option AV := some (.dat (.int .i64) s4 none)
def internal_stringslite_IndexByte_sh (_n : Nat) (s0 : List UInt8) (c1 : UInt8) : Option AV :=
  internal_stringslite_IndexByte_ret (internal_bytealg_IndexByteString s0 c1)

/-! strings.IndexByte -/

def strings_IndexByte_ret (s4 : Int) : Option AV := some (.dat (.int .i64) s4 none)
def strings_IndexByte_sh (_n : Nat) (s0 : List UInt8) (c1 : UInt8) : Option AV :=
  strings_IndexByte_ret (internal_stringslite_IndexByte s0 c1)

/-! sheave/octet.in -/

def octet_in_ret (s4 : Bool) : Option AV := some (.dat .bool s4 none)
def octet_in_sh (_n : Nat) (s0 : List UInt8) (c1 : UInt8) : Option AV :=
  octet_in_ret (decide ((0 : Int) ≤ (strings_IndexByte s0 c1)))

/-! sheave/octet.Kinds -/

def octet_Kinds_ret (s2 : Int) : Option AV := some (.dat (.int .i64) s2 none)
def octet_Kinds_sh (_n : Nat) (c0 : UInt8) : Option AV :=
  bif (decide (c0 < (33 : UInt8))) then
    octet_Kinds_ret (octet_plain c0)
  else
    bif (decide ((126 : UInt8) < c0)) then
      octet_Kinds_ret (octet_plain c0)
    else
      bif (octet_in ([33, 42, 43, 45, 47] : List UInt8) c0) then
        bif (octet_in ([43, 47] : List UInt8) c0) then
          bif (octet_in ([40, 41, 60, 62, 64, 44, 59, 58, 92, 34, 47, 91, 93, 63, 61] : List UInt8) c0) then
            octet_Kinds_ret (bits .or .i64 (bits .or .i64 (bits .or .i64 (bits .or .i64 (octet_plain c0) (4 : Int)) (128 : Int)) (512 : Int)) (32 : Int))
          else
            bif (!(octet_in ([42, 39, 37] : List UInt8) c0)) then
              octet_Kinds_ret (bits .or .i64 (bits .or .i64 (bits .or .i64 (bits .or .i64 (bits .or .i64 (octet_plain c0) (4 : Int)) (128 : Int)) (512 : Int)) (64 : Int)) (256 : Int))
            else
              octet_Kinds_ret (bits .or .i64 (bits .or .i64 (bits .or .i64 (bits .or .i64 (octet_plain c0) (4 : Int)) (128 : Int)) (512 : Int)) (64 : Int))
        else
          bif (octet_in ([40, 41, 60, 62, 64, 44, 59, 58, 92, 34, 47, 91, 93, 63, 61] : List UInt8) c0) then
            octet_Kinds_ret (bits .or .i64 (bits .or .i64 (bits .or .i64 (octet_plain c0) (4 : Int)) (128 : Int)) (32 : Int))
          else
            bif (!(octet_in ([42, 39, 37] : List UInt8) c0)) then
              octet_Kinds_ret (bits .or .i64 (bits .or .i64 (bits .or .i64 (bits .or .i64 (octet_plain c0) (4 : Int)) (128 : Int)) (64 : Int)) (256 : Int))
            else
              octet_Kinds_ret (bits .or .i64 (bits .or .i64 (bits .or .i64 (octet_plain c0) (4 : Int)) (128 : Int)) (64 : Int))
      else
        bif (octet_in ([43, 47] : List UInt8) c0) then
          bif (octet_in ([40, 41, 60, 62, 64, 44, 59, 58, 92, 34, 47, 91, 93, 63, 61] : List UInt8) c0) then
            octet_Kinds_ret (bits .or .i64 (bits .or .i64 (bits .or .i64 (octet_plain c0) (4 : Int)) (512 : Int)) (32 : Int))
          else
            bif (!(octet_in ([42, 39, 37] : List UInt8) c0)) then
              octet_Kinds_ret (bits .or .i64 (bits .or .i64 (bits .or .i64 (bits .or .i64 (octet_plain c0) (4 : Int)) (512 : Int)) (64 : Int)) (256 : Int))
            else
              octet_Kinds_ret (bits .or .i64 (bits .or .i64 (bits .or .i64 (octet_plain c0) (4 : Int)) (512 : Int)) (64 : Int))
        else
          bif (octet_in ([40, 41, 60, 62, 64, 44, 59, 58, 92, 34, 47, 91, 93, 63, 61] : List UInt8) c0) then
            octet_Kinds_ret (bits .or .i64 (bits .or .i64 (octet_plain c0) (4 : Int)) (32 : Int))
          else
            bif (!(octet_in ([42, 39, 37] : List UInt8) c0)) then
              octet_Kinds_ret (bits .or .i64 (bits .or .i64 (bits .or .i64 (octet_plain c0) (4 : Int)) (64 : Int)) (256 : Int))
            else
              octet_Kinds_ret (bits .or .i64 (bits .or .i64 (octet_plain c0) (4 : Int)) (64 : Int))

/-! sheave/octet.Is -/

def octet_Is_ret (s4 : Bool) : Option AV := some (.dat .bool s4 none)
def octet_Is_sh (_n : Nat) (c0 : UInt8) (kinds1 : Int) : Option AV :=
  octet_Is_ret ((bits .and .i64 (octet_Kinds c0) kinds1) != (0 : Int))

/-! sheave/octet.Lower -/

def octet_Lower_ret (s2 : UInt8) : Option AV := some (.dat .byte s2 none)
def octet_Lower_sh (_n : Nat) (c0 : UInt8) : Option AV :=
  bif (decide ((65 : UInt8) ≤ c0)) then
    bif (decide (c0 ≤ (90 : UInt8))) then
      octet_Lower_ret (c0 ||| (32 : UInt8))
    else
      octet_Lower_ret c0
  else
    octet_Lower_ret c0

/-! sheave/hexa.Value -/

def hexa_Value_ret (s2 : Int) (s3 : Bool) : Option AV := some (.tup [(.dat (.int .i64) s2 none), (.dat .bool s3 none)])
def hexa_Value_sh (_n : Nat) (c0 : UInt8) : Option AV :=
  bif (octet_Is (octet_Lower c0) (8 : Int)) then
    hexa_Value_ret (IntKind.wrap .i64 ((UInt8.toNat ((octet_Lower c0) - (48 : UInt8)) : Nat) : Int)) true
  else
    bif (decide ((97 : UInt8) ≤ (octet_Lower c0))) then
      bif (decide ((octet_Lower c0) ≤ (102 : UInt8))) then
        hexa_Value_ret (IntKind.wrap .i64 ((IntKind.wrap .i64 ((UInt8.toNat ((octet_Lower c0) - (97 : UInt8)) : Nat) : Int)) + (10 : Int))) true
      else
        hexa_Value_ret (0 : Int) false
    else
      hexa_Value_ret (0 : Int) false

/-! sheave/hexa.pair -/

def hexa_pair_ret (s4 : UInt8) (s5 : Bool) : Option AV := some (.tup [(.dat .byte s4 none), (.dat .bool s5 none)])
def hexa_pair_sh (_n : Nat) (a0 : UInt8) (b1 : UInt8) : Option AV :=
  bif (!((hexa_Value a0).2)) then
    hexa_pair_ret (0 : UInt8) false
  else
    bif (!((hexa_Value b1).2)) then
      hexa_pair_ret (0 : UInt8) false
    else
      hexa_pair_ret (UInt8.ofNat (Int.toNat (IntKind.wrap .u8 (bits .or .i64 (IntKind.wrap .i64 (((hexa_Value a0).1) * 2 ^ (min (Int.toNat (4 : Int)) (IntKind.bits .i64)))) ((hexa_Value b1).1))))) true

/-! sheave/hexa.Take -/

def hexa_Take_ret (s6 : UInt8) (s7 : Bool) : Option AV := some (.tup [(.dat .byte s6 none), (.dat .bool s7 none)])
def hexa_Take_sh (_n : Nat) (s0 : List UInt8) (at1 : Int) (sign2 : UInt8) : Option AV :=
  bif (decide (at1 < (0 : Int))) then
    hexa_Take_ret (0 : UInt8) false
  else
    bif (decide ((IntKind.wrap .i64 (((List.length s0 : Nat) : Int) - (3 : Int))) < at1)) then
      hexa_Take_ret (0 : UInt8) false
    else
      bif ((decide ((0 : Int) ≤ at1)) && (decide (at1 < (List.length s0 : Nat)))) then
        bif ((List.getD s0 (Int.toNat at1) (0 : UInt8)) != sign2) then
          hexa_Take_ret (0 : UInt8) false
        else
          bif ((decide ((0 : Int) ≤ (IntKind.wrap .i64 (at1 + (1 : Int))))) && (decide ((IntKind.wrap .i64 (at1 + (1 : Int))) < (List.length s0 : Nat)))) then
            bif ((decide ((0 : Int) ≤ (IntKind.wrap .i64 (at1 + (2 : Int))))) && (decide ((IntKind.wrap .i64 (at1 + (2 : Int))) < (List.length s0 : Nat)))) then
              hexa_Take_ret ((hexa_pair (List.getD s0 (Int.toNat (IntKind.wrap .i64 (at1 + (1 : Int)))) (0 : UInt8)) (List.getD s0 (Int.toNat (IntKind.wrap .i64 (at1 + (2 : Int)))) (0 : UInt8))).1) ((hexa_pair (List.getD s0 (Int.toNat (IntKind.wrap .i64 (at1 + (1 : Int)))) (0 : UInt8)) (List.getD s0 (Int.toNat (IntKind.wrap .i64 (at1 + (2 : Int)))) (0 : UInt8))).2)
            else none
          else none
      else none

/-! bytes.makeASCIISet -/

def bytes_makeASCIISet_ret (as2 : List Bool) (ok3 : Bool) : Option AV := some (.tup [(.dat (.arr 256 .bool) as2 none), (.dat .bool ok3 none)])
def bytes_makeASCIISet_l2_b (ret : List Bool → Bool → Option AV) (k0 : List Bool → Option AV) (next : List UInt8 → List Bool → Int → Option AV) (_n : Nat) (chars0 : List UInt8) (as2 : List Bool) (i4 : Int) : Option AV :=
  bif (decide (i4 < ((List.length chars0 : Nat) : Int))) then
    bif ((decide ((0 : Int) ≤ i4)) && (decide (i4 < (List.length chars0 : Nat)))) then
      bif (decide ((128 : UInt8) ≤ (List.getD chars0 (Int.toNat i4) (0 : UInt8)))) then
        ret as2 false
      else
        bif ((decide ((0 : Int) ≤ ((UInt8.toNat (List.getD chars0 (Int.toNat i4) (0 : UInt8)) : Nat) : Int))) && (decide (((UInt8.toNat (List.getD chars0 (Int.toNat i4) (0 : UInt8)) : Nat) : Int) < (256 : Nat)))) then
          next chars0 (List.set as2 (Int.toNat ((UInt8.toNat (List.getD chars0 (Int.toNat i4) (0 : UInt8)) : Nat) : Int)) true) (IntKind.wrap .i64 (i4 + (1 : Int)))
        else none
    else none
  else
    k0 as2
def bytes_makeASCIISet_l2 (ret : List Bool → Bool → Option AV) (k0 : List Bool → Option AV) : Nat → List UInt8 → List Bool → Int → Option AV
  | 0 => fun _ _ _ => none
  | n + 1 => bytes_makeASCIISet_l2_b ret k0 (bytes_makeASCIISet_l2 ret k0 n) n
def bytes_makeASCIISet_k2_0 (_n : Nat) (as2 : List Bool) : Option AV :=
  bytes_makeASCIISet_ret as2 true
def bytes_makeASCIISet_sh (n : Nat) (chars0 : List UInt8) : Option AV :=
  bytes_makeASCIISet_l2 bytes_makeASCIISet_ret (bytes_makeASCIISet_k2_0 n) n chars0 (List.replicate 256 false) (0 : Int)

/-! bytes.shouldUseASCIISet -/

def bytes_shouldUseASCIISet_ret (s2 : Bool) : Option AV := some (.dat .bool s2 none)
def bytes_shouldUseASCIISet_sh (_n : Nat) (bufLen0 : Int) : Option AV :=
  bytes_shouldUseASCIISet_ret (decide ((8 : Int) < bufLen0))

/-! (*bytes.asciiSet).contains -/

def __bytes_asciiSet__contains_ret (s4 : Bool) : Option AV := some (.dat .bool s4 none)
def __bytes_asciiSet__contains_sh (_n : Nat) (as0 : List Bool) (c1 : UInt8) : Option AV :=
  bif ((decide ((0 : Int) ≤ ((UInt8.toNat c1 : Nat) : Int))) && (decide (((UInt8.toNat c1 : Nat) : Int) < (256 : Nat)))) then
    __bytes_asciiSet__contains_ret (List.getD as0 (Int.toNat ((UInt8.toNat c1 : Nat) : Int)) false)
  else none

/-! bytes.IndexAny -/

def bytes_IndexAny_ret (s4 : Int) : Option AV := some (.dat (.int .i64) s4 none)
def bytes_IndexAny_l7_b (m0 : Int) (ret : Int → Option AV) (k0 : Option AV) (next : List UInt8 → Nat → Option AV) (_n : Nat) (s28 : List UInt8) (s28p : Nat) : Option AV :=
  bif (decide (s28p < List.length s28)) then
    bif (decide (s28p < List.length s28)) then
      bif ((decL s28 s28p).1 == (65533 : Int)) then
        ret (0 : Int)
      else
        next s28 (bif (decide (s28p < List.length s28)) then s28p + (decL s28 s28p).2 else s28p)
    else none
  else
    k0
def bytes_IndexAny_l7 (m0 : Int) (ret : Int → Option AV) (k0 : Option AV) : Nat → List UInt8 → Nat → Option AV
  | 0 => fun _ _ => none
  | n + 1 => (bytes_IndexAny_l7_b m0) ret k0 ((bytes_IndexAny_l7 m0) ret k0 n) n
def bytes_IndexAny_k7_0 (m0 : Int) (_n : Nat) : Option AV :=
  bytes_IndexAny_ret (-1 : Int)
def bytes_IndexAny_l24_b (m0 : Int) (ret : Int → Option AV) (k2 : Option AV) (next : List Bool → List UInt8 → Int → Int → Option AV) (_n : Nat) (as7 : List Bool) (s60 : List UInt8) (s61 : Int) (s62 : Int) : Option AV :=
  bif (decide (s62 < s61)) then
    bif ((decide ((0 : Int) ≤ s62)) && (decide (s62 < (List.length s60 : Nat)))) then
      bif (__bytes_asciiSet__contains as7 (List.getD s60 (Int.toNat s62) (0 : UInt8))) then
        ret s62
      else
        next as7 s60 s61 (IntKind.wrap .i64 (s62 + (1 : Int)))
    else none
  else
    k2
def bytes_IndexAny_l24 (m0 : Int) (ret : Int → Option AV) (k2 : Option AV) : Nat → List Bool → List UInt8 → Int → Int → Option AV
  | 0 => fun _ _ _ _ => none
  | n + 1 => (bytes_IndexAny_l24_b m0) ret k2 ((bytes_IndexAny_l24 m0) ret k2 n) n
def bytes_IndexAny_k24_2 (m0 : Int) (_n : Nat) : Option AV :=
  bytes_IndexAny_ret (-1 : Int)
def bytes_IndexAny_l48_b (m0 : Int) (ret : Int → Option AV) (k6 : List UInt8 → List UInt8 → Int → Int → Option AV) (next : List UInt8 → List UInt8 → Int → Int → Int → List UInt8 → Nat → Option AV) (_n : Nat) (s0 : List UInt8) (chars1 : List UInt8) (width11 : Int) (i12 : Int) (r13 : Int) (s121 : List UInt8) (s121p : Nat) : Option AV :=
  bif (decide (s121p < List.length s121)) then
    bif (decide (s121p < List.length s121)) then
      bif (r13 == (decL s121 s121p).1) then
        ret i12
      else
        next s0 chars1 width11 i12 r13 s121 (bif (decide (s121p < List.length s121)) then s121p + (decL s121 s121p).2 else s121p)
    else none
  else
    k6 s0 chars1 width11 i12
def bytes_IndexAny_l48 (m0 : Int) (ret : Int → Option AV) (k6 : List UInt8 → List UInt8 → Int → Int → Option AV) : Nat → List UInt8 → List UInt8 → Int → Int → Int → List UInt8 → Nat → Option AV
  | 0 => fun _ _ _ _ _ _ _ => none
  | n + 1 => (bytes_IndexAny_l48_b m0) ret k6 ((bytes_IndexAny_l48 m0) ret k6 n) n
def bytes_IndexAny_k48_6 (m0 : Int) (_ret : Int → Option AV) (_k4 : Option AV) (next : List UInt8 → List UInt8 → Int → Option AV) (_n : Nat) (s0 : List UInt8) (chars1 : List UInt8) (width11 : Int) (i12 : Int) : Option AV :=
  next s0 chars1 (IntKind.wrap .i64 (i12 + width11))
def bytes_IndexAny_l32_b (m0 : Int) (ret : Int → Option AV) (k4 : Option AV) (next : List UInt8 → List UInt8 → Int → Option AV) (n : Nat) (s0 : List UInt8) (chars1 : List UInt8) (i12 : Int) : Option AV :=
  bif (decide (i12 < ((List.length s0 : Nat) : Int))) then
    bif ((decide ((0 : Int) ≤ i12)) && (decide (i12 < (List.length s0 : Nat)))) then
      bif (decide ((IntKind.wrap .i32 ((UInt8.toNat (List.getD s0 (Int.toNat i12) (0 : UInt8)) : Nat) : Int)) < (128 : Int))) then
        bif ((decide ((0 : Int) ≤ i12)) && (decide (i12 < (List.length s0 : Nat)))) then
          bif (decide ((0 : Int) ≤ (internal_bytealg_IndexByteString chars1 (List.getD s0 (Int.toNat i12) (0 : UInt8))))) then
            ret i12
          else
            next s0 chars1 (IntKind.wrap .i64 (i12 + (1 : Int)))
        else none
      else
        bif (((decide ((0 : Int) ≤ i12)) && (decide (i12 ≤ ((List.length s0 : Nat) : Int)))) && (decide (((List.length s0 : Nat) : Int) ≤ ((List.length s0 : Nat) : Int)))) then
          bif ((unicode_utf8_DecodeRune_ok (List.drop (Int.toNat i12) (List.take (Int.toNat ((List.length s0 : Nat) : Int)) s0))) && true) then
            bif (((unicode_utf8_DecodeRune (List.drop (Int.toNat i12) (List.take (Int.toNat ((List.length s0 : Nat) : Int)) s0))).1) != (65533 : Int)) then
              bif (((List.length chars1 : Nat) : Int) == ((unicode_utf8_DecodeRune (List.drop (Int.toNat i12) (List.take (Int.toNat ((List.length s0 : Nat) : Int)) s0))).2)) then
                bif (chars1 == (Utf8.encode ((unicode_utf8_DecodeRune (List.drop (Int.toNat i12) (List.take (Int.toNat ((List.length s0 : Nat) : Int)) s0))).1)).data.toList) then
                  ret i12
                else
                  next s0 chars1 (IntKind.wrap .i64 (i12 + ((unicode_utf8_DecodeRune (List.drop (Int.toNat i12) (List.take (Int.toNat ((List.length s0 : Nat) : Int)) s0))).2)))
              else
                bif (decide (((unicode_utf8_DecodeRune (List.drop (Int.toNat i12) (List.take (Int.toNat ((List.length s0 : Nat) : Int)) s0))).2) ≤ m0)) then
                  bif ((internal_bytealg_IndexString_ok m0 chars1 (Utf8.encode ((unicode_utf8_DecodeRune (List.drop (Int.toNat i12) (List.take (Int.toNat ((List.length s0 : Nat) : Int)) s0))).1)).data.toList) && true) then
                    bif (decide ((0 : Int) ≤ (internal_bytealg_IndexString chars1 (Utf8.encode ((unicode_utf8_DecodeRune (List.drop (Int.toNat i12) (List.take (Int.toNat ((List.length s0 : Nat) : Int)) s0))).1)).data.toList))) then
                      ret i12
                    else
                      next s0 chars1 (IntKind.wrap .i64 (i12 + ((unicode_utf8_DecodeRune (List.drop (Int.toNat i12) (List.take (Int.toNat ((List.length s0 : Nat) : Int)) s0))).2)))
                  else none
                else
                  (bytes_IndexAny_l48 m0) ret ((bytes_IndexAny_k48_6 m0) ret k4 next n) n s0 chars1 ((unicode_utf8_DecodeRune (List.drop (Int.toNat i12) (List.take (Int.toNat ((List.length s0 : Nat) : Int)) s0))).2) i12 ((unicode_utf8_DecodeRune (List.drop (Int.toNat i12) (List.take (Int.toNat ((List.length s0 : Nat) : Int)) s0))).1) chars1 0
            else
              (bytes_IndexAny_l48 m0) ret ((bytes_IndexAny_k48_6 m0) ret k4 next n) n s0 chars1 ((unicode_utf8_DecodeRune (List.drop (Int.toNat i12) (List.take (Int.toNat ((List.length s0 : Nat) : Int)) s0))).2) i12 ((unicode_utf8_DecodeRune (List.drop (Int.toNat i12) (List.take (Int.toNat ((List.length s0 : Nat) : Int)) s0))).1) chars1 0
          else none
        else none
    else none
  else
    k4
def bytes_IndexAny_l32 (m0 : Int) (ret : Int → Option AV) (k4 : Option AV) : Nat → List UInt8 → List UInt8 → Int → Option AV
  | 0 => fun _ _ _ => none
  | n + 1 => (bytes_IndexAny_l32_b m0) ret k4 ((bytes_IndexAny_l32 m0) ret k4 n) n
def bytes_IndexAny_k32_4 (m0 : Int) (_n : Nat) : Option AV :=
  bytes_IndexAny_ret (-1 : Int)
def bytes_IndexAny_sh (m0 : Int) (n : Nat) (s0 : List UInt8) (chars1 : List UInt8) : Option AV :=
  bif (chars1 == ([] : List UInt8)) then
    bytes_IndexAny_ret (-1 : Int)
  else
    bif (((List.length s0 : Nat) : Int) == (1 : Int)) then
      bif ((decide ((0 : Int) ≤ (0 : Int))) && (decide ((0 : Int) < (List.length s0 : Nat)))) then
        bif (decide ((128 : Int) ≤ (IntKind.wrap .i32 ((UInt8.toNat (List.getD s0 (Int.toNat (0 : Int)) (0 : UInt8)) : Nat) : Int)))) then
          (bytes_IndexAny_l7 m0) bytes_IndexAny_ret ((bytes_IndexAny_k7_0 m0) n) n chars1 0
        else
          bif ((decide ((0 : Int) ≤ (0 : Int))) && (decide ((0 : Int) < (List.length s0 : Nat)))) then
            bif (decide ((0 : Int) ≤ (internal_bytealg_IndexByteString chars1 (List.getD s0 (Int.toNat (0 : Int)) (0 : UInt8))))) then
              bytes_IndexAny_ret (0 : Int)
            else
              bytes_IndexAny_ret (-1 : Int)
          else none
      else none
    else
      bif (((List.length chars1 : Nat) : Int) == (1 : Int)) then
        bif ((decide ((0 : Int) ≤ (0 : Int))) && (decide ((0 : Int) < (List.length chars1 : Nat)))) then
          bif (decide ((128 : Int) ≤ (IntKind.wrap .i32 ((UInt8.toNat (List.getD chars1 (Int.toNat (0 : Int)) (0 : UInt8)) : Nat) : Int)))) then
            bif ((bytes_IndexRune_ok s0 (65533 : Int)) && true) then
              bytes_IndexAny_ret (bytes_IndexRune s0 (65533 : Int))
            else none
          else
            bif ((bytes_IndexRune_ok s0 (IntKind.wrap .i32 ((UInt8.toNat (List.getD chars1 (Int.toNat (0 : Int)) (0 : UInt8)) : Nat) : Int))) && true) then
              bytes_IndexAny_ret (bytes_IndexRune s0 (IntKind.wrap .i32 ((UInt8.toNat (List.getD chars1 (Int.toNat (0 : Int)) (0 : UInt8)) : Nat) : Int)))
            else none
        else none
      else
        bif (bytes_shouldUseASCIISet ((List.length s0 : Nat) : Int)) then
          bif ((bytes_makeASCIISet_ok chars1) && true) then
            bif ((bytes_makeASCIISet chars1).2) then
              (bytes_IndexAny_l24 m0) bytes_IndexAny_ret ((bytes_IndexAny_k24_2 m0) n) n ((bytes_makeASCIISet chars1).1) s0 ((List.length s0 : Nat) : Int) (0 : Int)
            else
              (bytes_IndexAny_l32 m0) bytes_IndexAny_ret ((bytes_IndexAny_k32_4 m0) n) n s0 chars1 (0 : Int)
          else none
        else
          (bytes_IndexAny_l32 m0) bytes_IndexAny_ret ((bytes_IndexAny_k32_4 m0) n) n s0 chars1 (0 : Int)

/-! bytes.ContainsAny -/

def bytes_ContainsAny_ret (s4 : Bool) : Option AV := some (.dat .bool s4 none)
def bytes_ContainsAny_sh (_n : Nat) (b0 : List UInt8) (chars1 : List UInt8) : Option AV :=
  bif ((bytes_IndexAny_ok b0 chars1) && true) then
    bytes_ContainsAny_ret (decide ((0 : Int) ≤ (bytes_IndexAny b0 chars1)))
  else none

/-! sheave/hexa.Capital -/

def hexa_Capital_ret (s2 : Bool) : Option AV := some (.dat .bool s2 none)
def hexa_Capital_sh (_n : Nat) (s0 : List UInt8) : Option AV :=
  bif ((bytes_ContainsAny_ok s0 ([97, 98, 99, 100, 101, 102] : List UInt8)) && true) then
    hexa_Capital_ret (!(bytes_ContainsAny s0 ([97, 98, 99, 100, 101, 102] : List UInt8)))
  else none

/-! sheave/qpage.right -/

def qpage_right_ret (s2 : Bool) : Option AV := some (.dat .bool s2 none)
def qpage_right_l2_b (ret : Bool → Option AV) (k0 : List UInt8 → Option AV) (next : List UInt8 → List UInt8 → Int → Int → Option AV) (_n : Nat) (l0 : List UInt8) (s7 : List UInt8) (s8 : Int) (s9 : Int) : Option AV :=
  bif (decide (s9 < s8)) then
    bif ((decide ((0 : Int) ≤ s9)) && (decide (s9 < (List.length s7 : Nat)))) then
      bif (!(octet_Is (List.getD s7 (Int.toNat s9) (0 : UInt8)) (6 : Int))) then
        ret false
      else
        bif ((List.getD s7 (Int.toNat s9) (0 : UInt8)) != (61 : UInt8)) then
          next l0 s7 s8 (IntKind.wrap .i64 (s9 + (1 : Int)))
        else
          bif (s9 == (IntKind.wrap .i64 (((List.length l0 : Nat) : Int) - (1 : Int)))) then
            next l0 s7 s8 (IntKind.wrap .i64 (s9 + (1 : Int)))
          else
            bif ((hexa_Take_ok l0 s9 (61 : UInt8)) && true) then
              bif (!((hexa_Take l0 s9 (61 : UInt8)).2)) then
                ret false
              else
                bif (((decide ((0 : Int) ≤ (IntKind.wrap .i64 (s9 + (1 : Int))))) && (decide ((IntKind.wrap .i64 (s9 + (1 : Int))) ≤ (IntKind.wrap .i64 (s9 + (3 : Int)))))) && (decide ((IntKind.wrap .i64 (s9 + (3 : Int))) ≤ ((List.length l0 : Nat) : Int)))) then
                  bif ((hexa_Capital_ok (List.drop (Int.toNat (IntKind.wrap .i64 (s9 + (1 : Int)))) (List.take (Int.toNat (IntKind.wrap .i64 (s9 + (3 : Int)))) l0))) && true) then
                    bif (!(hexa_Capital (List.drop (Int.toNat (IntKind.wrap .i64 (s9 + (1 : Int)))) (List.take (Int.toNat (IntKind.wrap .i64 (s9 + (3 : Int)))) l0)))) then
                      ret false
                    else
                      next l0 s7 s8 (IntKind.wrap .i64 (s9 + (1 : Int)))
                  else none
                else none
            else none
    else none
  else
    k0 l0
def qpage_right_l2 (ret : Bool → Option AV) (k0 : List UInt8 → Option AV) : Nat → List UInt8 → List UInt8 → Int → Int → Option AV
  | 0 => fun _ _ _ _ => none
  | n + 1 => qpage_right_l2_b ret k0 (qpage_right_l2 ret k0 n) n
def qpage_right_k2_0 (_n : Nat) (l0 : List UInt8) : Option AV :=
  bif (((List.length l0 : Nat) : Int) == (0 : Int)) then
    qpage_right_ret true
  else
    bif ((decide ((0 : Int) ≤ (IntKind.wrap .i64 (((List.length l0 : Nat) : Int) - (1 : Int))))) && (decide ((IntKind.wrap .i64 (((List.length l0 : Nat) : Int) - (1 : Int))) < (List.length l0 : Nat)))) then
      qpage_right_ret (!(octet_Is (List.getD l0 (Int.toNat (IntKind.wrap .i64 (((List.length l0 : Nat) : Int) - (1 : Int)))) (0 : UInt8)) (2 : Int)))
    else none
def qpage_right_sh (n : Nat) (l0 : List UInt8) : Option AV :=
  qpage_right_l2 qpage_right_ret (qpage_right_k2_0 n) n l0 l0 ((List.length l0 : Nat) : Int) (0 : Int)

/-! sheave/qpage.Check -/

def qpage_Check_ret (s2 : Int) : Option AV := some (.dat (.int .i64) s2 none)
def qpage_Check_l1_b (ret : Int → Option AV) (k0 : Option AV) (next : List UInt8 → Option AV) (_n : Nat) (s0 : List UInt8) : Option AV :=
  bif (decide ((0 : Int) < ((List.length s0 : Nat) : Int))) then
    bif ((bytes_Cut_ok s0 ([(13 : UInt8), (10 : UInt8)] : List UInt8)) && true) then
      bif (decide ((76 : Int) < ((List.length ((bytes_Cut s0 ([(13 : UInt8), (10 : UInt8)] : List UInt8)).1) : Nat) : Int))) then
        ret (12 : Int)
      else
        bif (!((bytes_Cut s0 ([(13 : UInt8), (10 : UInt8)] : List UInt8)).2.2)) then
          ret (4 : Int)
        else
          bif ((qpage_right_ok ((bytes_Cut s0 ([(13 : UInt8), (10 : UInt8)] : List UInt8)).1)) && true) then
            bif (!(qpage_right ((bytes_Cut s0 ([(13 : UInt8), (10 : UInt8)] : List UInt8)).1))) then
              ret (3 : Int)
            else
              next ((bytes_Cut s0 ([(13 : UInt8), (10 : UInt8)] : List UInt8)).2.1)
          else none
    else none
  else
    k0
def qpage_Check_l1 (ret : Int → Option AV) (k0 : Option AV) : Nat → List UInt8 → Option AV
  | 0 => fun _ => none
  | n + 1 => qpage_Check_l1_b ret k0 (qpage_Check_l1 ret k0 n) n
def qpage_Check_k1_0 (_n : Nat) : Option AV :=
  qpage_Check_ret (0 : Int)
def qpage_Check_sh (n : Nat) (s0 : List UInt8) : Option AV :=
  qpage_Check_l1 qpage_Check_ret (qpage_Check_k1_0 n) n s0

/-! bytes.Count -/

def bytes_Count_ret (s4 : Int) : Option AV := some (.dat (.int .i64) s4 none)
def bytes_Count_l6_b (ret : Int → Option AV) (next : List UInt8 → List UInt8 → Int → Option AV) (_n : Nat) (s0 : List UInt8) (sep1 : List UInt8) (n5 : Int) : Option AV :=
  bif ((bytes_Index_ok s0 sep1) && true) then
    bif ((bytes_Index s0 sep1) == (-1 : Int)) then
      ret n5
    else
      bif (((decide ((0 : Int) ≤ (IntKind.wrap .i64 ((bytes_Index s0 sep1) + ((List.length sep1 : Nat) : Int))))) && (decide ((IntKind.wrap .i64 ((bytes_Index s0 sep1) + ((List.length sep1 : Nat) : Int))) ≤ ((List.length s0 : Nat) : Int)))) && (decide (((List.length s0 : Nat) : Int) ≤ ((List.length s0 : Nat) : Int)))) then
        next (List.drop (Int.toNat (IntKind.wrap .i64 ((bytes_Index s0 sep1) + ((List.length sep1 : Nat) : Int)))) (List.take (Int.toNat ((List.length s0 : Nat) : Int)) s0)) sep1 (IntKind.wrap .i64 (n5 + (1 : Int)))
      else none
  else none
def bytes_Count_l6 (ret : Int → Option AV) : Nat → List UInt8 → List UInt8 → Int → Option AV
  | 0 => fun _ _ _ => none
  | n + 1 => bytes_Count_l6_b ret (bytes_Count_l6 ret n) n
def bytes_Count_sh (n : Nat) (s0 : List UInt8) (sep1 : List UInt8) : Option AV :=
  bif (((List.length sep1 : Nat) : Int) == (0 : Int)) then
    bif ((unicode_utf8_RuneCount_ok s0) && true) then
      bytes_Count_ret (IntKind.wrap .i64 ((unicode_utf8_RuneCount s0) + (1 : Int)))
    else none
  else
    bif (((List.length sep1 : Nat) : Int) == (1 : Int)) then
      bif ((decide ((0 : Int) ≤ (0 : Int))) && (decide ((0 : Int) < (List.length sep1 : Nat)))) then
        bif ((internal_bytealg_Count_ok s0 (List.getD sep1 (Int.toNat (0 : Int)) (0 : UInt8))) && true) then
          bytes_Count_ret (internal_bytealg_Count s0 (List.getD sep1 (Int.toNat (0 : Int)) (0 : UInt8)))
        else none
      else none
    else
      bytes_Count_l6 bytes_Count_ret n s0 sep1 (0 : Int)

/-! sheave/qpage.Soft -/

def qpage_Soft_ret (s2 : Int) : Option AV := some (.dat (.int .i64) s2 none)
def qpage_Soft_sh (_n : Nat) (s0 : List UInt8) : Option AV :=
  bif ((bytes_Count_ok s0 ([(61 : UInt8), (13 : UInt8), (10 : UInt8)] : List UInt8)) && true) then
    qpage_Soft_ret (bytes_Count s0 ([(61 : UInt8), (13 : UInt8), (10 : UInt8)] : List UInt8))
  else none

/-! sheave/hexa.Digit -/

def hexa_Digit_ret (s2 : UInt8) : Option AV := some (.dat .byte s2 none)
def hexa_Digit_sh (_n : Nat) (n0 : Int) : Option AV :=
  bif ((decide ((0 : Int) ≤ (bits .and .i64 n0 (15 : Int)))) && (decide ((bits .and .i64 n0 (15 : Int)) < (List.length ([48, 49, 50, 51, 52, 53, 54, 55, 56, 57, 65, 66, 67, 68, 69, 70] : List UInt8) : Nat)))) then
    hexa_Digit_ret (List.getD ([48, 49, 50, 51, 52, 53, 54, 55, 56, 57, 65, 66, 67, 68, 69, 70] : List UInt8) (Int.toNat (bits .and .i64 n0 (15 : Int))) (0 : UInt8))
  else none

/-! sheave/hexa.both -/

def hexa_both_ret (s2 : List UInt8) : Option AV := some (.dat (.sl .byte) s2 (some (2, 5)))
def hexa_both_sh (_n : Nat) (c0 : UInt8) : Option AV :=
  bif ((hexa_Digit_ok (IntKind.wrap .i64 ((UInt8.toNat (UInt8.ofNat (UInt8.toNat c0 / 2 ^ (min (Int.toNat (4 : Int)) 8))) : Nat) : Int))) && true) then
    bif ((hexa_Digit_ok (IntKind.wrap .i64 ((UInt8.toNat c0 : Nat) : Int))) && true) then
      hexa_both_ret ([(hexa_Digit (IntKind.wrap .i64 ((UInt8.toNat (UInt8.ofNat (UInt8.toNat c0 / 2 ^ (min (Int.toNat (4 : Int)) 8))) : Nat) : Int))), (hexa_Digit (IntKind.wrap .i64 ((UInt8.toNat c0 : Nat) : Int)))] : List UInt8)
    else none
  else none

/-! sheave/hexa.Put -/

def hexa_Put_ret (s6 : List UInt8) : Option AV := some (.dat (.sl .byte) s6 (some (6, 5)))
def hexa_Put_sh (_n : Nat) (b0 : List UInt8) (sign1 : UInt8) (c2 : UInt8) : Option AV :=
  bif ((bytes_Clone_ok b0) && true) then
    bif (decide (List.length (bytes_Clone b0) + List.length ([sign1] : List UInt8) ≤ room)) then
      bif (decide (List.length ((bytes_Clone b0) ++ ([sign1] : List UInt8)) + List.length (hexa_both c2) ≤ room)) then
        hexa_Put_ret (((bytes_Clone b0) ++ ([sign1] : List UInt8)) ++ (hexa_both c2))
      else none
    else none
  else none

/-! sheave/qpage.Unit -/

def qpage_Unit_ret (s4 : List UInt8) : Option AV := some (.dat (.sl .byte) s4 (some (4, 5)))
def qpage_Unit_sh (_n : Nat) (c0 : UInt8) (ends1 : Bool) : Option AV :=
  bif (c0 != (61 : UInt8)) then
    bif (octet_Is c0 (4 : Int)) then
      qpage_Unit_ret ([c0] : List UInt8)
    else
      bif (!ends1) then
        bif (octet_Is c0 (2 : Int)) then
          qpage_Unit_ret ([c0] : List UInt8)
        else
          bif ((hexa_Put_ok ([] : List UInt8) (61 : UInt8) c0) && true) then
            qpage_Unit_ret (hexa_Put ([] : List UInt8) (61 : UInt8) c0)
          else none
      else
        bif ((hexa_Put_ok ([] : List UInt8) (61 : UInt8) c0) && true) then
          qpage_Unit_ret (hexa_Put ([] : List UInt8) (61 : UInt8) c0)
        else none
  else
    bif (!ends1) then
      bif (octet_Is c0 (2 : Int)) then
        qpage_Unit_ret ([c0] : List UInt8)
      else
        bif ((hexa_Put_ok ([] : List UInt8) (61 : UInt8) c0) && true) then
          qpage_Unit_ret (hexa_Put ([] : List UInt8) (61 : UInt8) c0)
        else none
    else
      bif ((hexa_Put_ok ([] : List UInt8) (61 : UInt8) c0) && true) then
        qpage_Unit_ret (hexa_Put ([] : List UInt8) (61 : UInt8) c0)
      else none

/-! sheave/qpage.broken -/

def qpage_broken_ret (s4 : Int) : Option AV := some (.dat (.int .i64) s4 none)
def qpage_broken_sh (_n : Nat) (s0 : List UInt8) (at1 : Int) : Option AV :=
  bif (decide (((List.length s0 : Nat) : Int) ≤ at1)) then
    qpage_broken_ret (0 : Int)
  else
    bif ((decide ((0 : Int) ≤ at1)) && (decide (at1 < (List.length s0 : Nat)))) then
      bif ((List.getD s0 (Int.toNat at1) (0 : UInt8)) != (13 : UInt8)) then
        bif ((decide ((0 : Int) ≤ at1)) && (decide (at1 < (List.length s0 : Nat)))) then
          bif ((List.getD s0 (Int.toNat at1) (0 : UInt8)) != (10 : UInt8)) then
            qpage_broken_ret (0 : Int)
          else
            bif ((decide ((0 : Int) ≤ at1)) && (decide (at1 < (List.length s0 : Nat)))) then
              bif ((List.getD s0 (Int.toNat at1) (0 : UInt8)) == (13 : UInt8)) then
                bif (decide ((IntKind.wrap .i64 (at1 + (1 : Int))) < ((List.length s0 : Nat) : Int))) then
                  bif ((decide ((0 : Int) ≤ (IntKind.wrap .i64 (at1 + (1 : Int))))) && (decide ((IntKind.wrap .i64 (at1 + (1 : Int))) < (List.length s0 : Nat)))) then
                    bif ((List.getD s0 (Int.toNat (IntKind.wrap .i64 (at1 + (1 : Int)))) (0 : UInt8)) == (10 : UInt8)) then
                      qpage_broken_ret (2 : Int)
                    else
                      qpage_broken_ret (1 : Int)
                  else none
                else
                  qpage_broken_ret (1 : Int)
              else
                qpage_broken_ret (1 : Int)
            else none
        else none
      else
        bif ((decide ((0 : Int) ≤ at1)) && (decide (at1 < (List.length s0 : Nat)))) then
          bif ((List.getD s0 (Int.toNat at1) (0 : UInt8)) == (13 : UInt8)) then
            bif (decide ((IntKind.wrap .i64 (at1 + (1 : Int))) < ((List.length s0 : Nat) : Int))) then
              bif ((decide ((0 : Int) ≤ (IntKind.wrap .i64 (at1 + (1 : Int))))) && (decide ((IntKind.wrap .i64 (at1 + (1 : Int))) < (List.length s0 : Nat)))) then
                bif ((List.getD s0 (Int.toNat (IntKind.wrap .i64 (at1 + (1 : Int)))) (0 : UInt8)) == (10 : UInt8)) then
                  qpage_broken_ret (2 : Int)
                else
                  qpage_broken_ret (1 : Int)
              else none
            else
              qpage_broken_ret (1 : Int)
          else
            qpage_broken_ret (1 : Int)
        else none
    else none

/-! (*sheave/qpage.page).end -/

def __qpage_page__end_ret (s25 : (List UInt8) × (Int × Unit)) : Option AV := some (.tup [(.tup []), (.pbox (.ppair (.osl 5 .byte) (.ppair (.leaf (.int .i64)) (.leaf .unit))) s25 none), .bad])
def __qpage_page__end_sh (_n : Nat) (p0 : (List UInt8) × (Int × Unit)) (soft1 : Bool) : Option AV :=
  bif soft1 then
    bif (decide (List.length p0.1 + List.length ([(61 : UInt8)] : List UInt8) ≤ room)) then
      bif (decide (List.length ((p0.1 ++ ([(61 : UInt8)] : List UInt8)), p0.2).1 + List.length ([13, 10] : List UInt8) ≤ room)) then
        __qpage_page__end_ret (((((p0.1 ++ ([(61 : UInt8)] : List UInt8)), p0.2).1 ++ ([13, 10] : List UInt8)), ((p0.1 ++ ([(61 : UInt8)] : List UInt8)), p0.2).2).1, ((0 : Int), ((((p0.1 ++ ([(61 : UInt8)] : List UInt8)), p0.2).1 ++ ([13, 10] : List UInt8)), ((p0.1 ++ ([(61 : UInt8)] : List UInt8)), p0.2).2).2.2))
      else none
    else none
  else
    bif (decide (List.length p0.1 + List.length ([13, 10] : List UInt8) ≤ room)) then
      __qpage_page__end_ret (((p0.1 ++ ([13, 10] : List UInt8)), p0.2).1, ((0 : Int), ((p0.1 ++ ([13, 10] : List UInt8)), p0.2).2.2))
    else none

/-! sheave/qpage.Lay -/

def qpage_Lay_ret (s2 : List UInt8) : Option AV := some (.dat (.sl .byte) s2 none)
def qpage_Lay_l4_b (k0 : (List UInt8) × (Int × Unit) → Option AV) (next : List UInt8 → (List UInt8) × (Int × Unit) → Int → Option AV) (_n : Nat) (s0 : List UInt8) (p3 : (List UInt8) × (Int × Unit)) (at5 : Int) : Option AV :=
  bif (decide (at5 < ((List.length s0 : Nat) : Int))) then
    bif ((qpage_broken_ok s0 at5) && true) then
      bif (decide ((0 : Int) < (qpage_broken s0 at5))) then
        bif (__qpage_page__end_ok p3 false) then
          next s0 (__qpage_page__end p3 false) (IntKind.wrap .i64 (at5 + (qpage_broken s0 at5)))
        else none
      else
        bif ((decide ((0 : Int) ≤ at5)) && (decide (at5 < (List.length s0 : Nat)))) then
          bif ((qpage_broken_ok s0 (IntKind.wrap .i64 (at5 + (1 : Int)))) && true) then
            bif (__qpage_page__put_ok p3 (qpage_Unit (List.getD s0 (Int.toNat at5) (0 : UInt8)) (decide ((0 : Int) < (qpage_broken s0 (IntKind.wrap .i64 (at5 + (1 : Int)))))))) then
              next s0 (__qpage_page__put p3 (qpage_Unit (List.getD s0 (Int.toNat at5) (0 : UInt8)) (decide ((0 : Int) < (qpage_broken s0 (IntKind.wrap .i64 (at5 + (1 : Int)))))))) (IntKind.wrap .i64 (at5 + (1 : Int)))
            else none
          else none
        else none
    else none
  else
    k0 p3
def qpage_Lay_l4 (k0 : (List UInt8) × (Int × Unit) → Option AV) : Nat → List UInt8 → (List UInt8) × (Int × Unit) → Int → Option AV
  | 0 => fun _ _ _ => none
  | n + 1 => qpage_Lay_l4_b k0 (qpage_Lay_l4 k0 n) n
def qpage_Lay_k4_0 (_n : Nat) (p3 : (List UInt8) × (Int × Unit)) : Option AV :=
  bif (decide ((0 : Int) < p3.2.1)) then
    bif (__qpage_page__end_ok p3 true) then
      qpage_Lay_ret (__qpage_page__end p3 true).1
    else none
  else
    qpage_Lay_ret p3.1
def qpage_Lay_sh (n : Nat) (s0 : List UInt8) : Option AV :=
  qpage_Lay_l4 (qpage_Lay_k4_0 n) n s0 (([] : List UInt8), ((0 : Int), ())) (0 : Int)

/-! sheave/qpage.Breaks -/

def qpage_Breaks_ret (s2 : List UInt8) : Option AV := some (.dat (.sl .byte) s2 (some (2, 5)))
def qpage_Breaks_l3_b (k0 : List UInt8 → Option AV) (next : List UInt8 → List UInt8 → Int → Option AV) (_n : Nat) (s0 : List UInt8) (out3 : List UInt8) (at4 : Int) : Option AV :=
  bif (decide (at4 < ((List.length s0 : Nat) : Int))) then
    bif ((qpage_broken_ok s0 at4) && true) then
      bif (decide ((0 : Int) < (qpage_broken s0 at4))) then
        bif (decide (List.length out3 + List.length ([13, 10] : List UInt8) ≤ room)) then
          next s0 (out3 ++ ([13, 10] : List UInt8)) (IntKind.wrap .i64 (at4 + (qpage_broken s0 at4)))
        else none
      else
        bif ((decide ((0 : Int) ≤ at4)) && (decide (at4 < (List.length s0 : Nat)))) then
          bif (decide (List.length out3 + List.length ([(List.getD s0 (Int.toNat at4) (0 : UInt8))] : List UInt8) ≤ room)) then
            next s0 (out3 ++ ([(List.getD s0 (Int.toNat at4) (0 : UInt8))] : List UInt8)) (IntKind.wrap .i64 (at4 + (1 : Int)))
          else none
        else none
    else none
  else
    k0 out3
def qpage_Breaks_l3 (k0 : List UInt8 → Option AV) : Nat → List UInt8 → List UInt8 → Int → Option AV
  | 0 => fun _ _ _ => none
  | n + 1 => qpage_Breaks_l3_b k0 (qpage_Breaks_l3 k0 n) n
def qpage_Breaks_k3_0 (_n : Nat) (out3 : List UInt8) : Option AV :=
  qpage_Breaks_ret out3
def qpage_Breaks_sh (n : Nat) (s0 : List UInt8) : Option AV :=
  qpage_Breaks_l3 (qpage_Breaks_k3_0 n) n s0 ([] : List UInt8) (0 : Int)

/-! sheave/sheavelaw18.alive -/

def law18_alive_ret (s0 : Bool) : Option AV := some (.dat .bool s0 none)
def law18_alive_sh (_n : Nat) : Option AV :=
  bif ((qpage_Lay_ok ([(97 : UInt8), (61 : UInt8), (32 : UInt8), (10 : UInt8)] : List UInt8)) && true) then
    bif ((qpage_Lay ([(97 : UInt8), (61 : UInt8), (32 : UInt8), (10 : UInt8)] : List UInt8)) == ([97, 61, 51, 68, 61, 50, 48, 13, 10] : List UInt8)) then
      bif ((qpage_Check_ok (qpage_Lay ([(97 : UInt8), (61 : UInt8), (32 : UInt8), (10 : UInt8)] : List UInt8))) && true) then
        bif ((qpage_Check (qpage_Lay ([(97 : UInt8), (61 : UInt8), (32 : UInt8), (10 : UInt8)] : List UInt8))) == (0 : Int)) then
          bif ((qpage_Check_ok ([(97 : UInt8)] : List UInt8)) && true) then
            bif ((qpage_Check ([(97 : UInt8)] : List UInt8)) == (4 : Int)) then
              bif ((qpage_Breaks_ok ([(13 : UInt8), (97 : UInt8)] : List UInt8)) && true) then
                bif ((qpage_Breaks ([(13 : UInt8), (97 : UInt8)] : List UInt8)) == ([13, 10, 97] : List UInt8)) then
                  bif ((qpage_Soft_ok ([(61 : UInt8), (13 : UInt8), (10 : UInt8)] : List UInt8)) && true) then
                    law18_alive_ret ((qpage_Soft ([(61 : UInt8), (13 : UInt8), (10 : UInt8)] : List UInt8)) == (1 : Int))
                  else none
                else
                  law18_alive_ret false
              else none
            else
              law18_alive_ret false
          else none
        else
          law18_alive_ret false
      else none
    else
      law18_alive_ret false
  else none

/-! sheave/sheaveref18.Lines -/

def ref18_Lines_ret (s2 : List (List UInt8)) (s3 : Bool) : Option AV := some (.tup [(.dat (.sl (.sl .byte)) s2 none), (.dat .bool s3 none)])
def ref18_Lines_l3_b (k0 : List (List UInt8) → Option AV) (next : List UInt8 → List (List UInt8) → Int → Option AV) (_n : Nat) (s0 : List UInt8) (out4 : List (List UInt8)) (i5 : Int) : Option AV :=
  bif (decide (i5 < ((List.length s0 : Nat) : Int))) then
    bif ((decide ((0 : Int) ≤ i5)) && (decide (i5 < (List.length s0 : Nat)))) then
      bif ((List.getD s0 (Int.toNat i5) (0 : UInt8)) == (13 : UInt8)) then
        bif (decide ((IntKind.wrap .i64 (i5 + (1 : Int))) < ((List.length s0 : Nat) : Int))) then
          bif ((decide ((0 : Int) ≤ (IntKind.wrap .i64 (i5 + (1 : Int))))) && (decide ((IntKind.wrap .i64 (i5 + (1 : Int))) < (List.length s0 : Nat)))) then
            bif ((List.getD s0 (Int.toNat (IntKind.wrap .i64 (i5 + (1 : Int)))) (0 : UInt8)) == (10 : UInt8)) then
              bif (decide (List.length out4 + List.length ([([] : List UInt8)] : List (List UInt8)) ≤ room)) then
                next s0 (out4 ++ ([([] : List UInt8)] : List (List UInt8))) (IntKind.wrap .i64 ((IntKind.wrap .i64 (i5 + (1 : Int))) + (1 : Int)))
              else none
            else
              bif ((decide ((0 : Int) ≤ (IntKind.wrap .i64 (((List.length out4 : Nat) : Int) - (1 : Int))))) && (decide ((IntKind.wrap .i64 (((List.length out4 : Nat) : Int) - (1 : Int))) < (List.length out4 : Nat)))) then
                bif ((decide ((0 : Int) ≤ i5)) && (decide (i5 < (List.length s0 : Nat)))) then
                  bif (decide (List.length (List.getD out4 (Int.toNat (IntKind.wrap .i64 (((List.length out4 : Nat) : Int) - (1 : Int)))) ([] : List UInt8)) + List.length ([(List.getD s0 (Int.toNat i5) (0 : UInt8))] : List UInt8) ≤ room)) then
                    bif ((decide ((0 : Int) ≤ (IntKind.wrap .i64 (((List.length out4 : Nat) : Int) - (1 : Int))))) && (decide ((IntKind.wrap .i64 (((List.length out4 : Nat) : Int) - (1 : Int))) < (List.length out4 : Nat)))) then
                      bif (((Int.toNat (IntKind.wrap .i64 (((List.length out4 : Nat) : Int) - (1 : Int)))) == (Int.toNat (IntKind.wrap .i64 (((List.length out4 : Nat) : Int) - (1 : Int))))) && true) then
                        next s0 (List.set out4 (Int.toNat (IntKind.wrap .i64 (((List.length out4 : Nat) : Int) - (1 : Int)))) ((List.getD out4 (Int.toNat (IntKind.wrap .i64 (((List.length out4 : Nat) : Int) - (1 : Int)))) ([] : List UInt8)) ++ ([(List.getD s0 (Int.toNat i5) (0 : UInt8))] : List UInt8))) (IntKind.wrap .i64 (i5 + (1 : Int)))
                      else none
                    else none
                  else none
                else none
              else none
          else none
        else
          bif ((decide ((0 : Int) ≤ (IntKind.wrap .i64 (((List.length out4 : Nat) : Int) - (1 : Int))))) && (decide ((IntKind.wrap .i64 (((List.length out4 : Nat) : Int) - (1 : Int))) < (List.length out4 : Nat)))) then
            bif ((decide ((0 : Int) ≤ i5)) && (decide (i5 < (List.length s0 : Nat)))) then
              bif (decide (List.length (List.getD out4 (Int.toNat (IntKind.wrap .i64 (((List.length out4 : Nat) : Int) - (1 : Int)))) ([] : List UInt8)) + List.length ([(List.getD s0 (Int.toNat i5) (0 : UInt8))] : List UInt8) ≤ room)) then
                bif ((decide ((0 : Int) ≤ (IntKind.wrap .i64 (((List.length out4 : Nat) : Int) - (1 : Int))))) && (decide ((IntKind.wrap .i64 (((List.length out4 : Nat) : Int) - (1 : Int))) < (List.length out4 : Nat)))) then
                  bif (((Int.toNat (IntKind.wrap .i64 (((List.length out4 : Nat) : Int) - (1 : Int)))) == (Int.toNat (IntKind.wrap .i64 (((List.length out4 : Nat) : Int) - (1 : Int))))) && true) then
                    next s0 (List.set out4 (Int.toNat (IntKind.wrap .i64 (((List.length out4 : Nat) : Int) - (1 : Int)))) ((List.getD out4 (Int.toNat (IntKind.wrap .i64 (((List.length out4 : Nat) : Int) - (1 : Int)))) ([] : List UInt8)) ++ ([(List.getD s0 (Int.toNat i5) (0 : UInt8))] : List UInt8))) (IntKind.wrap .i64 (i5 + (1 : Int)))
                  else none
                else none
              else none
            else none
          else none
      else
        bif ((decide ((0 : Int) ≤ (IntKind.wrap .i64 (((List.length out4 : Nat) : Int) - (1 : Int))))) && (decide ((IntKind.wrap .i64 (((List.length out4 : Nat) : Int) - (1 : Int))) < (List.length out4 : Nat)))) then
          bif ((decide ((0 : Int) ≤ i5)) && (decide (i5 < (List.length s0 : Nat)))) then
            bif (decide (List.length (List.getD out4 (Int.toNat (IntKind.wrap .i64 (((List.length out4 : Nat) : Int) - (1 : Int)))) ([] : List UInt8)) + List.length ([(List.getD s0 (Int.toNat i5) (0 : UInt8))] : List UInt8) ≤ room)) then
              bif ((decide ((0 : Int) ≤ (IntKind.wrap .i64 (((List.length out4 : Nat) : Int) - (1 : Int))))) && (decide ((IntKind.wrap .i64 (((List.length out4 : Nat) : Int) - (1 : Int))) < (List.length out4 : Nat)))) then
                bif (((Int.toNat (IntKind.wrap .i64 (((List.length out4 : Nat) : Int) - (1 : Int)))) == (Int.toNat (IntKind.wrap .i64 (((List.length out4 : Nat) : Int) - (1 : Int))))) && true) then
                  next s0 (List.set out4 (Int.toNat (IntKind.wrap .i64 (((List.length out4 : Nat) : Int) - (1 : Int)))) ((List.getD out4 (Int.toNat (IntKind.wrap .i64 (((List.length out4 : Nat) : Int) - (1 : Int)))) ([] : List UInt8)) ++ ([(List.getD s0 (Int.toNat i5) (0 : UInt8))] : List UInt8))) (IntKind.wrap .i64 (i5 + (1 : Int)))
                else none
              else none
            else none
          else none
        else none
    else none
  else
    k0 out4
def ref18_Lines_l3 (k0 : List (List UInt8) → Option AV) : Nat → List UInt8 → List (List UInt8) → Int → Option AV
  | 0 => fun _ _ _ => none
  | n + 1 => ref18_Lines_l3_b k0 (ref18_Lines_l3 k0 n) n
def ref18_Lines_k3_0 (_n : Nat) (out4 : List (List UInt8)) : Option AV :=
  bif ((decide ((0 : Int) ≤ (IntKind.wrap .i64 (((List.length out4 : Nat) : Int) - (1 : Int))))) && (decide ((IntKind.wrap .i64 (((List.length out4 : Nat) : Int) - (1 : Int))) < (List.length out4 : Nat)))) then
    bif (((List.length (List.getD out4 (Int.toNat (IntKind.wrap .i64 (((List.length out4 : Nat) : Int) - (1 : Int)))) ([] : List UInt8)) : Nat) : Int) == (0 : Int)) then
      bif (((decide ((0 : Int) ≤ ((0 : Nat) : Int))) && (decide (((0 : Nat) : Int) ≤ (IntKind.wrap .i64 (((List.length out4 : Nat) : Int) - (1 : Int)))))) && (decide ((IntKind.wrap .i64 (((List.length out4 : Nat) : Int) - (1 : Int))) ≤ ((List.length out4 : Nat) : Int)))) then
        ref18_Lines_ret (List.drop (Int.toNat ((0 : Nat) : Int)) (List.take (Int.toNat (IntKind.wrap .i64 (((List.length out4 : Nat) : Int) - (1 : Int)))) out4)) true
      else none
    else
      ref18_Lines_ret out4 false
  else none
def ref18_Lines_sh (n : Nat) (s0 : List UInt8) : Option AV :=
  ref18_Lines_l3 (ref18_Lines_k3_0 n) n s0 ([([] : List UInt8)] : List (List UInt8)) (0 : Int)

/-! sheave/sheaveref01.Like -/

def ref01_Like_ret (s4 : Bool) : Option AV := some (.dat .bool s4 none)
def ref01_Like_l4_b (ret : Bool → Option AV) (k0 : Option AV) (next : List UInt8 → List UInt8 → Int → Option AV) (_n : Nat) (a0 : List UInt8) (b1 : List UInt8) (i5 : Int) : Option AV :=
  bif (decide (i5 < ((List.length a0 : Nat) : Int))) then
    bif ((decide ((0 : Int) ≤ i5)) && (decide (i5 < (List.length a0 : Nat)))) then
      bif ((decide ((0 : Int) ≤ i5)) && (decide (i5 < (List.length b1 : Nat)))) then
        bif ((List.getD a0 (Int.toNat i5) (0 : UInt8)) != (List.getD b1 (Int.toNat i5) (0 : UInt8))) then
          ret false
        else
          next a0 b1 (IntKind.wrap .i64 (i5 + (1 : Int)))
      else none
    else none
  else
    k0
def ref01_Like_l4 (ret : Bool → Option AV) (k0 : Option AV) : Nat → List UInt8 → List UInt8 → Int → Option AV
  | 0 => fun _ _ _ => none
  | n + 1 => ref01_Like_l4_b ret k0 (ref01_Like_l4 ret k0 n) n
def ref01_Like_k4_0 (_n : Nat) : Option AV :=
  ref01_Like_ret true
def ref01_Like_sh (n : Nat) (a0 : List UInt8) (b1 : List UInt8) : Option AV :=
  bif (((List.length a0 : Nat) : Int) != ((List.length b1 : Nat) : Int)) then
    ref01_Like_ret false
  else
    ref01_Like_l4 ref01_Like_ret (ref01_Like_k4_0 n) n a0 b1 (0 : Int)

/-! sheave/sheaveref01.has -/

def ref01_has_ret (s4 : Bool) : Option AV := some (.dat .bool s4 none)
def ref01_has_l2_b (ret : Bool → Option AV) (k0 : Option AV) (next : List UInt8 → UInt8 → Int → Option AV) (_n : Nat) (s0 : List UInt8) (c1 : UInt8) (i5 : Int) : Option AV :=
  bif (decide (i5 < ((List.length s0 : Nat) : Int))) then
    bif ((decide ((0 : Int) ≤ i5)) && (decide (i5 < (List.length s0 : Nat)))) then
      bif ((List.getD s0 (Int.toNat i5) (0 : UInt8)) == c1) then
        ret true
      else
        next s0 c1 (IntKind.wrap .i64 (i5 + (1 : Int)))
    else none
  else
    k0
def ref01_has_l2 (ret : Bool → Option AV) (k0 : Option AV) : Nat → List UInt8 → UInt8 → Int → Option AV
  | 0 => fun _ _ _ => none
  | n + 1 => ref01_has_l2_b ret k0 (ref01_has_l2 ret k0 n) n
def ref01_has_k2_0 (_n : Nat) : Option AV :=
  ref01_has_ret false
def ref01_has_sh (n : Nat) (s0 : List UInt8) (c1 : UInt8) : Option AV :=
  ref01_has_l2 ref01_has_ret (ref01_has_k2_0 n) n s0 c1 (0 : Int)

/-! sheave/sheaveref01.Is -/

def ref01_Is_ret (s4 : Bool) : Option AV := some (.dat .bool s4 none)
def ref01_Is_sh (_n : Nat) (c0 : UInt8) (kinds1 : Int) : Option AV :=
  ref01_Is_ret ((bits .and .i64 (ref01_Kinds c0) kinds1) != (0 : Int))

/-! sheave/sheaveref02.Digit -/

def ref02_Digit_ret (s2 : UInt8) : Option AV := some (.dat .byte s2 none)
def ref02_Digit_sh (_n : Nat) (n0 : Int) : Option AV :=
  bif (decide ((Int.tmod (IntKind.wrap .i64 ((Int.tmod n0 (16 : Int)) + (16 : Int))) (16 : Int)) < (10 : Int))) then
    ref02_Digit_ret (UInt8.ofNat (Int.toNat (IntKind.wrap .u8 (IntKind.wrap .i64 ((48 : Int) + (Int.tmod (IntKind.wrap .i64 ((Int.tmod n0 (16 : Int)) + (16 : Int))) (16 : Int)))))))
  else
    ref02_Digit_ret (UInt8.ofNat (Int.toNat (IntKind.wrap .u8 (IntKind.wrap .i64 ((IntKind.wrap .i64 ((65 : Int) + (Int.tmod (IntKind.wrap .i64 ((Int.tmod n0 (16 : Int)) + (16 : Int))) (16 : Int)))) - (10 : Int))))))

/-! sheave/sheaveref02.Put -/

def ref02_Put_ret (s6 : List UInt8) : Option AV := some (.dat (.sl .byte) s6 (some (6, 5)))
def ref02_Put_sh (_n : Nat) (b0 : List UInt8) (sign1 : UInt8) (c2 : UInt8) : Option AV :=
  bif (decide (List.length ([] : List UInt8) + List.length b0 ≤ room)) then
    bif ((ref02_Digit_ok (IntKind.wrap .i64 (Int.tdiv (IntKind.wrap .i64 ((UInt8.toNat c2 : Nat) : Int)) (16 : Int)))) && true) then
      bif ((ref02_Digit_ok (Int.tmod (IntKind.wrap .i64 ((UInt8.toNat c2 : Nat) : Int)) (16 : Int))) && true) then
        bif (decide (List.length (([] : List UInt8) ++ b0) + List.length ([sign1, (ref02_Digit (IntKind.wrap .i64 (Int.tdiv (IntKind.wrap .i64 ((UInt8.toNat c2 : Nat) : Int)) (16 : Int)))), (ref02_Digit (Int.tmod (IntKind.wrap .i64 ((UInt8.toNat c2 : Nat) : Int)) (16 : Int)))] : List UInt8) ≤ room)) then
          ref02_Put_ret ((([] : List UInt8) ++ b0) ++ ([sign1, (ref02_Digit (IntKind.wrap .i64 (Int.tdiv (IntKind.wrap .i64 ((UInt8.toNat c2 : Nat) : Int)) (16 : Int)))), (ref02_Digit (Int.tmod (IntKind.wrap .i64 ((UInt8.toNat c2 : Nat) : Int)) (16 : Int)))] : List UInt8))
        else none
      else none
    else none
  else none

/-! sheave/sheaveref02.Value -/

def ref02_Value_ret (s2 : Int) (s3 : Bool) : Option AV := some (.tup [(.dat (.int .i64) s2 none), (.dat .bool s3 none)])
def ref02_Value_l2_b (ret : Int → Bool → Option AV) (k0 : Option AV) (next : UInt8 → Int → Option AV) (_n : Nat) (c0 : UInt8) (n4 : Int) : Option AV :=
  bif (decide (n4 < (16 : Int))) then
    bif ((ref02_Digit_ok n4) && true) then
      bif ((ref02_Digit n4) == c0) then
        ret n4 true
      else
        bif (decide ((10 : Int) ≤ n4)) then
          bif ((ref02_Digit_ok n4) && true) then
            bif (((ref02_Digit n4) + (32 : UInt8)) == c0) then
              ret n4 true
            else
              next c0 (IntKind.wrap .i64 (n4 + (1 : Int)))
          else none
        else
          next c0 (IntKind.wrap .i64 (n4 + (1 : Int)))
    else none
  else
    k0
def ref02_Value_l2 (ret : Int → Bool → Option AV) (k0 : Option AV) : Nat → UInt8 → Int → Option AV
  | 0 => fun _ _ => none
  | n + 1 => ref02_Value_l2_b ret k0 (ref02_Value_l2 ret k0 n) n
def ref02_Value_k2_0 (_n : Nat) : Option AV :=
  ref02_Value_ret (0 : Int) false
def ref02_Value_sh (n : Nat) (c0 : UInt8) : Option AV :=
  ref02_Value_l2 ref02_Value_ret (ref02_Value_k2_0 n) n c0 (0 : Int)

/-! sheave/sheaveref02.Take -/

def ref02_Take_ret (s6 : UInt8) (s7 : Bool) : Option AV := some (.tup [(.dat .byte s6 none), (.dat .bool s7 none)])
def ref02_Take_sh (_n : Nat) (s0 : List UInt8) (at1 : Int) (sign2 : UInt8) : Option AV :=
  bif (decide (at1 < (0 : Int))) then
    ref02_Take_ret (0 : UInt8) false
  else
    bif (decide ((IntKind.wrap .i64 (((List.length s0 : Nat) : Int) - (3 : Int))) < at1)) then
      ref02_Take_ret (0 : UInt8) false
    else
      bif ((decide ((0 : Int) ≤ at1)) && (decide (at1 < (List.length s0 : Nat)))) then
        bif ((List.getD s0 (Int.toNat at1) (0 : UInt8)) != sign2) then
          ref02_Take_ret (0 : UInt8) false
        else
          bif ((decide ((0 : Int) ≤ (IntKind.wrap .i64 (at1 + (1 : Int))))) && (decide ((IntKind.wrap .i64 (at1 + (1 : Int))) < (List.length s0 : Nat)))) then
            bif ((decide ((0 : Int) ≤ (IntKind.wrap .i64 (at1 + (2 : Int))))) && (decide ((IntKind.wrap .i64 (at1 + (2 : Int))) < (List.length s0 : Nat)))) then
              bif (!((ref02_Value (List.getD s0 (Int.toNat (IntKind.wrap .i64 (at1 + (1 : Int)))) (0 : UInt8))).2)) then
                ref02_Take_ret (0 : UInt8) false
              else
                bif (!((ref02_Value (List.getD s0 (Int.toNat (IntKind.wrap .i64 (at1 + (2 : Int)))) (0 : UInt8))).2)) then
                  ref02_Take_ret (0 : UInt8) false
                else
                  ref02_Take_ret (UInt8.ofNat (Int.toNat (IntKind.wrap .u8 (IntKind.wrap .i64 ((IntKind.wrap .i64 ((16 : Int) * ((ref02_Value (List.getD s0 (Int.toNat (IntKind.wrap .i64 (at1 + (1 : Int)))) (0 : UInt8))).1))) + ((ref02_Value (List.getD s0 (Int.toNat (IntKind.wrap .i64 (at1 + (2 : Int)))) (0 : UInt8))).1)))))) true
            else none
          else none
      else none

/-! sheave/sheaveref18.right -/

def ref18_right_ret (s2 : Bool) : Option AV := some (.dat .bool s2 none)
def ref18_right_l2_b (ret : Bool → Option AV) (k0 : List UInt8 → Option AV) (next : List UInt8 → Int → Option AV) (_n : Nat) (l0 : List UInt8) (i3 : Int) : Option AV :=
  bif (decide (i3 < ((List.length l0 : Nat) : Int))) then
    bif ((decide ((0 : Int) ≤ i3)) && (decide (i3 < (List.length l0 : Nat)))) then
      bif (!(ref01_Is (List.getD l0 (Int.toNat i3) (0 : UInt8)) (2 : Int))) then
        bif ((decide ((0 : Int) ≤ i3)) && (decide (i3 < (List.length l0 : Nat)))) then
          bif (!(ref01_Is (List.getD l0 (Int.toNat i3) (0 : UInt8)) (4 : Int))) then
            ret false
          else
            bif ((decide ((0 : Int) ≤ i3)) && (decide (i3 < (List.length l0 : Nat)))) then
              bif ((List.getD l0 (Int.toNat i3) (0 : UInt8)) == (61 : UInt8)) then
                bif (decide (i3 < (IntKind.wrap .i64 (((List.length l0 : Nat) : Int) - (1 : Int))))) then
                  bif ((ref02_Take_ok l0 i3 (61 : UInt8)) && true) then
                    bif (!((ref02_Take l0 i3 (61 : UInt8)).2)) then
                      ret false
                    else
                      bif (((decide ((0 : Int) ≤ i3)) && (decide (i3 ≤ (IntKind.wrap .i64 (i3 + (3 : Int)))))) && (decide ((IntKind.wrap .i64 (i3 + (3 : Int))) ≤ ((List.length l0 : Nat) : Int)))) then
                        bif ((ref02_Put_ok ([] : List UInt8) (61 : UInt8) ((ref02_Take l0 i3 (61 : UInt8)).1)) && true) then
                          bif ((ref01_Like_ok (ref02_Put ([] : List UInt8) (61 : UInt8) ((ref02_Take l0 i3 (61 : UInt8)).1)) (List.drop (Int.toNat i3) (List.take (Int.toNat (IntKind.wrap .i64 (i3 + (3 : Int)))) l0))) && true) then
                            bif (!(ref01_Like (ref02_Put ([] : List UInt8) (61 : UInt8) ((ref02_Take l0 i3 (61 : UInt8)).1)) (List.drop (Int.toNat i3) (List.take (Int.toNat (IntKind.wrap .i64 (i3 + (3 : Int)))) l0)))) then
                              ret false
                            else
                              next l0 (IntKind.wrap .i64 (i3 + (1 : Int)))
                          else none
                        else none
                      else none
                  else none
                else
                  next l0 (IntKind.wrap .i64 (i3 + (1 : Int)))
              else
                next l0 (IntKind.wrap .i64 (i3 + (1 : Int)))
            else none
        else none
      else
        bif ((decide ((0 : Int) ≤ i3)) && (decide (i3 < (List.length l0 : Nat)))) then
          bif ((List.getD l0 (Int.toNat i3) (0 : UInt8)) == (61 : UInt8)) then
            bif (decide (i3 < (IntKind.wrap .i64 (((List.length l0 : Nat) : Int) - (1 : Int))))) then
              bif ((ref02_Take_ok l0 i3 (61 : UInt8)) && true) then
                bif (!((ref02_Take l0 i3 (61 : UInt8)).2)) then
                  ret false
                else
                  bif (((decide ((0 : Int) ≤ i3)) && (decide (i3 ≤ (IntKind.wrap .i64 (i3 + (3 : Int)))))) && (decide ((IntKind.wrap .i64 (i3 + (3 : Int))) ≤ ((List.length l0 : Nat) : Int)))) then
                    bif ((ref02_Put_ok ([] : List UInt8) (61 : UInt8) ((ref02_Take l0 i3 (61 : UInt8)).1)) && true) then
                      bif ((ref01_Like_ok (ref02_Put ([] : List UInt8) (61 : UInt8) ((ref02_Take l0 i3 (61 : UInt8)).1)) (List.drop (Int.toNat i3) (List.take (Int.toNat (IntKind.wrap .i64 (i3 + (3 : Int)))) l0))) && true) then
                        bif (!(ref01_Like (ref02_Put ([] : List UInt8) (61 : UInt8) ((ref02_Take l0 i3 (61 : UInt8)).1)) (List.drop (Int.toNat i3) (List.take (Int.toNat (IntKind.wrap .i64 (i3 + (3 : Int)))) l0)))) then
                          ret false
                        else
                          next l0 (IntKind.wrap .i64 (i3 + (1 : Int)))
                      else none
                    else none
                  else none
              else none
            else
              next l0 (IntKind.wrap .i64 (i3 + (1 : Int)))
          else
            next l0 (IntKind.wrap .i64 (i3 + (1 : Int)))
        else none
    else none
  else
    k0 l0
def ref18_right_l2 (ret : Bool → Option AV) (k0 : List UInt8 → Option AV) : Nat → List UInt8 → Int → Option AV
  | 0 => fun _ _ => none
  | n + 1 => ref18_right_l2_b ret k0 (ref18_right_l2 ret k0 n) n
def ref18_right_k2_0 (_n : Nat) (l0 : List UInt8) : Option AV :=
  bif (((List.length l0 : Nat) : Int) == (0 : Int)) then
    ref18_right_ret true
  else
    bif ((decide ((0 : Int) ≤ (IntKind.wrap .i64 (((List.length l0 : Nat) : Int) - (1 : Int))))) && (decide ((IntKind.wrap .i64 (((List.length l0 : Nat) : Int) - (1 : Int))) < (List.length l0 : Nat)))) then
      ref18_right_ret (!(ref01_Is (List.getD l0 (Int.toNat (IntKind.wrap .i64 (((List.length l0 : Nat) : Int) - (1 : Int)))) (0 : UInt8)) (2 : Int)))
    else none
def ref18_right_sh (n : Nat) (l0 : List UInt8) : Option AV :=
  ref18_right_l2 ref18_right_ret (ref18_right_k2_0 n) n l0 (0 : Int)

/-! sheave/sheaveref18.Check -/

def ref18_Check_ret (s2 : Int) : Option AV := some (.dat (.int .i64) s2 none)
def ref18_Check_l3_b (ret : Int → Option AV) (k0 : Option AV) (next : List (List UInt8) → Bool → Int → Option AV) (_n : Nat) (l3 : List (List UInt8)) (ends4 : Bool) (i5 : Int) : Option AV :=
  bif (decide (i5 < ((List.length l3 : Nat) : Int))) then
    bif ((decide ((0 : Int) ≤ i5)) && (decide (i5 < (List.length l3 : Nat)))) then
      bif (decide ((76 : Int) < ((List.length (List.getD l3 (Int.toNat i5) ([] : List UInt8)) : Nat) : Int))) then
        ret (12 : Int)
      else
        bif (i5 == (IntKind.wrap .i64 (((List.length l3 : Nat) : Int) - (1 : Int)))) then
          bif (!ends4) then
            ret (4 : Int)
          else
            bif ((decide ((0 : Int) ≤ i5)) && (decide (i5 < (List.length l3 : Nat)))) then
              bif ((ref18_right_ok (List.getD l3 (Int.toNat i5) ([] : List UInt8))) && true) then
                bif (!(ref18_right (List.getD l3 (Int.toNat i5) ([] : List UInt8)))) then
                  ret (3 : Int)
                else
                  next l3 ends4 (IntKind.wrap .i64 (i5 + (1 : Int)))
              else none
            else none
        else
          bif ((decide ((0 : Int) ≤ i5)) && (decide (i5 < (List.length l3 : Nat)))) then
            bif ((ref18_right_ok (List.getD l3 (Int.toNat i5) ([] : List UInt8))) && true) then
              bif (!(ref18_right (List.getD l3 (Int.toNat i5) ([] : List UInt8)))) then
                ret (3 : Int)
              else
                next l3 ends4 (IntKind.wrap .i64 (i5 + (1 : Int)))
            else none
          else none
    else none
  else
    k0
def ref18_Check_l3 (ret : Int → Option AV) (k0 : Option AV) : Nat → List (List UInt8) → Bool → Int → Option AV
  | 0 => fun _ _ _ => none
  | n + 1 => ref18_Check_l3_b ret k0 (ref18_Check_l3 ret k0 n) n
def ref18_Check_k3_0 (_n : Nat) : Option AV :=
  ref18_Check_ret (0 : Int)
def ref18_Check_sh (n : Nat) (s0 : List UInt8) : Option AV :=
  bif ((ref18_Lines_ok s0) && true) then
    ref18_Check_l3 ref18_Check_ret (ref18_Check_k3_0 n) n ((ref18_Lines s0).1) ((ref18_Lines s0).2) (0 : Int)
  else none

/-! sheave/sheaveref18.Soft -/

def ref18_Soft_ret (s2 : Int) : Option AV := some (.dat (.int .i64) s2 none)
def ref18_Soft_l4_b (k0 : Int → Option AV) (next : List (List UInt8) → Bool → Int → Int → Option AV) (_n : Nat) (l3 : List (List UInt8)) (ends4 : Bool) (n5 : Int) (i6 : Int) : Option AV :=
  bif (decide (i6 < ((List.length l3 : Nat) : Int))) then
    bif ((decide ((0 : Int) ≤ i6)) && (decide (i6 < (List.length l3 : Nat)))) then
      bif (decide ((0 : Int) < ((List.length (List.getD l3 (Int.toNat i6) ([] : List UInt8)) : Nat) : Int))) then
        bif ((decide ((0 : Int) ≤ i6)) && (decide (i6 < (List.length l3 : Nat)))) then
          bif ((decide ((0 : Int) ≤ i6)) && (decide (i6 < (List.length l3 : Nat)))) then
            bif ((decide ((0 : Int) ≤ (IntKind.wrap .i64 (((List.length (List.getD l3 (Int.toNat i6) ([] : List UInt8)) : Nat) : Int) - (1 : Int))))) && (decide ((IntKind.wrap .i64 (((List.length (List.getD l3 (Int.toNat i6) ([] : List UInt8)) : Nat) : Int) - (1 : Int))) < (List.length (List.getD l3 (Int.toNat i6) ([] : List UInt8)) : Nat)))) then
              bif ((List.getD (List.getD l3 (Int.toNat i6) ([] : List UInt8)) (Int.toNat (IntKind.wrap .i64 (((List.length (List.getD l3 (Int.toNat i6) ([] : List UInt8)) : Nat) : Int) - (1 : Int)))) (0 : UInt8)) == (61 : UInt8)) then
                bif ends4 then
                  next l3 ends4 (IntKind.wrap .i64 (n5 + (1 : Int))) (IntKind.wrap .i64 (i6 + (1 : Int)))
                else
                  bif (decide (i6 < (IntKind.wrap .i64 (((List.length l3 : Nat) : Int) - (1 : Int))))) then
                    next l3 ends4 (IntKind.wrap .i64 (n5 + (1 : Int))) (IntKind.wrap .i64 (i6 + (1 : Int)))
                  else
                    next l3 ends4 n5 (IntKind.wrap .i64 (i6 + (1 : Int)))
              else
                next l3 ends4 n5 (IntKind.wrap .i64 (i6 + (1 : Int)))
            else none
          else none
        else none
      else
        next l3 ends4 n5 (IntKind.wrap .i64 (i6 + (1 : Int)))
    else none
  else
    k0 n5
def ref18_Soft_l4 (k0 : Int → Option AV) : Nat → List (List UInt8) → Bool → Int → Int → Option AV
  | 0 => fun _ _ _ _ => none
  | n + 1 => ref18_Soft_l4_b k0 (ref18_Soft_l4 k0 n) n
def ref18_Soft_k4_0 (_n : Nat) (n5 : Int) : Option AV :=
  ref18_Soft_ret n5
def ref18_Soft_sh (n : Nat) (s0 : List UInt8) : Option AV :=
  bif ((ref18_Lines_ok s0) && true) then
    ref18_Soft_l4 (ref18_Soft_k4_0 n) n ((ref18_Lines s0).1) ((ref18_Lines s0).2) (0 : Int) (0 : Int)
  else none

/-! sheave/sheavelaw18.QpageChecks -/

def law18_QpageChecks_ret (s2 : Bool) : Option AV := some (.dat .bool s2 none)
def law18_QpageChecks_sh (_n : Nat) (s0 : List UInt8) : Option AV :=
  bif (decide ((1000 : Int) < ((List.length s0 : Nat) : Int))) then
    law18_QpageChecks_ret law18_alive
  else
    bif ((qpage_Check_ok s0) && true) then
      bif ((ref18_Check_ok s0) && true) then
        bif ((qpage_Check s0) == (ref18_Check s0)) then
          bif ((qpage_Soft_ok s0) && true) then
            bif ((ref18_Soft_ok s0) && true) then
              bif ((qpage_Soft s0) == (ref18_Soft s0)) then
                law18_QpageChecks_ret law18_alive
              else
                law18_QpageChecks_ret false
            else none
          else none
        else
          law18_QpageChecks_ret false
      else none
    else none

/-! sheave/sheavelaw18.QpageRight -/

def law18_QpageRight_ret (s2 : Bool) : Option AV := some (.dat .bool s2 none)
def law18_QpageRight_l5_b (ret : Bool → Option AV) (k0 : List UInt8 → List UInt8 → Option AV) (next : List UInt8 → List UInt8 → List UInt8 → Int → Int → Option AV) (_n : Nat) (s0 : List UInt8) (a3 : List UInt8) (s12 : List UInt8) (s13 : Int) (s14 : Int) : Option AV :=
  bif (decide (s14 < s13)) then
    bif ((decide ((0 : Int) ≤ s14)) && (decide (s14 < (List.length s12 : Nat)))) then
      bif ((List.getD s12 (Int.toNat s14) (0 : UInt8)) != (13 : UInt8)) then
        bif ((List.getD s12 (Int.toNat s14) (0 : UInt8)) != (10 : UInt8)) then
          bif ((List.getD s12 (Int.toNat s14) (0 : UInt8)) != (9 : UInt8)) then
            bif (decide ((List.getD s12 (Int.toNat s14) (0 : UInt8)) < (32 : UInt8))) then
              ret false
            else
              bif (decide ((126 : UInt8) < (List.getD s12 (Int.toNat s14) (0 : UInt8)))) then
                ret false
              else
                next s0 a3 s12 s13 (IntKind.wrap .i64 (s14 + (1 : Int)))
          else
            next s0 a3 s12 s13 (IntKind.wrap .i64 (s14 + (1 : Int)))
        else
          next s0 a3 s12 s13 (IntKind.wrap .i64 (s14 + (1 : Int)))
      else
        next s0 a3 s12 s13 (IntKind.wrap .i64 (s14 + (1 : Int)))
    else none
  else
    k0 s0 a3
def law18_QpageRight_l5 (ret : Bool → Option AV) (k0 : List UInt8 → List UInt8 → Option AV) : Nat → List UInt8 → List UInt8 → List UInt8 → Int → Int → Option AV
  | 0 => fun _ _ _ _ _ => none
  | n + 1 => law18_QpageRight_l5_b ret k0 (law18_QpageRight_l5 ret k0 n) n
def law18_QpageRight_k5_0 (_n : Nat) (s0 : List UInt8) (a3 : List UInt8) : Option AV :=
  bif ((qpage_Check_ok a3) && true) then
    bif ((qpage_Check a3) == (0 : Int)) then
      bif ((decide ((0 : Int) < ((List.length a3 : Nat) : Int))) == (decide ((0 : Int) < ((List.length s0 : Nat) : Int)))) then
        bif (((List.length a3 : Nat) : Int) == (0 : Int)) then
          law18_QpageRight_ret law18_alive
        else
          bif ((decide ((0 : Int) ≤ (IntKind.wrap .i64 (((List.length a3 : Nat) : Int) - (1 : Int))))) && (decide ((IntKind.wrap .i64 (((List.length a3 : Nat) : Int) - (1 : Int))) < (List.length a3 : Nat)))) then
            bif ((List.getD a3 (Int.toNat (IntKind.wrap .i64 (((List.length a3 : Nat) : Int) - (1 : Int)))) (0 : UInt8)) == (10 : UInt8)) then
              law18_QpageRight_ret law18_alive
            else
              law18_QpageRight_ret false
          else none
      else
        law18_QpageRight_ret false
    else
      law18_QpageRight_ret false
  else none
def law18_QpageRight_sh (n : Nat) (s0 : List UInt8) : Option AV :=
  bif (decide ((1000 : Int) < ((List.length s0 : Nat) : Int))) then
    law18_QpageRight_ret law18_alive
  else
    bif ((qpage_Lay_ok s0) && true) then
      law18_QpageRight_l5 law18_QpageRight_ret (law18_QpageRight_k5_0 n) n s0 (qpage_Lay s0) (qpage_Lay s0) ((List.length (qpage_Lay s0) : Nat) : Int) (0 : Int)
    else none

/-! sheave/sheavelaw18.QpageBreaks -/

def law18_QpageBreaks_ret (s2 : Bool) : Option AV := some (.dat .bool s2 none)
def law18_QpageBreaks_l6_b (k0 : List UInt8 → List UInt8 → Int → Option AV) (next : List UInt8 → List UInt8 → Int → List UInt8 → Int → Int → Option AV) (_n : Nat) (s0 : List UInt8) (b3 : List UInt8) (hard4 : Int) (s17 : List UInt8) (s18 : Int) (s19 : Int) : Option AV :=
  bif (decide (s19 < s18)) then
    bif ((decide ((0 : Int) ≤ s19)) && (decide (s19 < (List.length s17 : Nat)))) then
      bif ((List.getD s17 (Int.toNat s19) (0 : UInt8)) == (10 : UInt8)) then
        next s0 b3 (IntKind.wrap .i64 (hard4 + (1 : Int))) s17 s18 (IntKind.wrap .i64 (s19 + (1 : Int)))
      else
        next s0 b3 hard4 s17 s18 (IntKind.wrap .i64 (s19 + (1 : Int)))
    else none
  else
    k0 s0 b3 hard4
def law18_QpageBreaks_l6 (k0 : List UInt8 → List UInt8 → Int → Option AV) : Nat → List UInt8 → List UInt8 → Int → List UInt8 → Int → Int → Option AV
  | 0 => fun _ _ _ _ _ _ => none
  | n + 1 => law18_QpageBreaks_l6_b k0 (law18_QpageBreaks_l6 k0 n) n
def law18_QpageBreaks_l14_b (k2 : List UInt8 → Int → List UInt8 → Int → Option AV) (next : List UInt8 → Int → List UInt8 → Int → List UInt8 → Int → Int → Option AV) (_n : Nat) (b3 : List UInt8) (hard4 : Int) (a7 : List UInt8) (ends8 : Int) (s30 : List UInt8) (s31 : Int) (s32 : Int) : Option AV :=
  bif (decide (s32 < s31)) then
    bif ((decide ((0 : Int) ≤ s32)) && (decide (s32 < (List.length s30 : Nat)))) then
      bif ((List.getD s30 (Int.toNat s32) (0 : UInt8)) == (10 : UInt8)) then
        next b3 hard4 a7 (IntKind.wrap .i64 (ends8 + (1 : Int))) s30 s31 (IntKind.wrap .i64 (s32 + (1 : Int)))
      else
        next b3 hard4 a7 ends8 s30 s31 (IntKind.wrap .i64 (s32 + (1 : Int)))
    else none
  else
    k2 b3 hard4 a7 ends8
def law18_QpageBreaks_l14 (k2 : List UInt8 → Int → List UInt8 → Int → Option AV) : Nat → List UInt8 → Int → List UInt8 → Int → List UInt8 → Int → Int → Option AV
  | 0 => fun _ _ _ _ _ _ _ => none
  | n + 1 => law18_QpageBreaks_l14_b k2 (law18_QpageBreaks_l14 k2 n) n
def law18_QpageBreaks_k14_2 (_n : Nat) (b3 : List UInt8) (hard4 : Int) (a7 : List UInt8) (ends8 : Int) : Option AV :=
  bif ((qpage_Lay_ok b3) && true) then
    bif ((ref01_Like_ok a7 (qpage_Lay b3)) && true) then
      bif (ref01_Like a7 (qpage_Lay b3)) then
        bif ((qpage_Breaks_ok b3) && true) then
          bif ((ref01_Like_ok (qpage_Breaks b3) b3) && true) then
            bif (ref01_Like (qpage_Breaks b3) b3) then
              bif ((qpage_Soft_ok a7) && true) then
                bif ((IntKind.wrap .i64 (ends8 - (qpage_Soft a7))) == hard4) then
                  law18_QpageBreaks_ret law18_alive
                else
                  law18_QpageBreaks_ret false
              else none
            else
              law18_QpageBreaks_ret false
          else none
        else none
      else
        law18_QpageBreaks_ret false
    else none
  else none
def law18_QpageBreaks_k6_0 (n : Nat) (s0 : List UInt8) (b3 : List UInt8) (hard4 : Int) : Option AV :=
  bif ((qpage_Lay_ok s0) && true) then
    law18_QpageBreaks_l14 (law18_QpageBreaks_k14_2 n) n b3 hard4 (qpage_Lay s0) (0 : Int) (qpage_Lay s0) ((List.length (qpage_Lay s0) : Nat) : Int) (0 : Int)
  else none
def law18_QpageBreaks_sh (n : Nat) (s0 : List UInt8) : Option AV :=
  bif (decide ((1000 : Int) < ((List.length s0 : Nat) : Int))) then
    law18_QpageBreaks_ret law18_alive
  else
    bif ((qpage_Breaks_ok s0) && true) then
      law18_QpageBreaks_l6 (law18_QpageBreaks_k6_0 n) n s0 (qpage_Breaks s0) (0 : Int) (qpage_Breaks s0) ((List.length (qpage_Breaks s0) : Nat) : Int) (0 : Int)
    else none

/-! sheave/sheaveref18.Breaks -/

def ref18_Breaks_ret (s2 : List UInt8) : Option AV := some (.dat (.sl .byte) s2 (some (2, 5)))
def ref18_Breaks_l3_b (k0 : List UInt8 → Option AV) (next : List UInt8 → List UInt8 → Int → Option AV) (_n : Nat) (s0 : List UInt8) (out3 : List UInt8) (i4 : Int) : Option AV :=
  bif (decide (i4 < ((List.length s0 : Nat) : Int))) then
    bif ((decide ((0 : Int) ≤ i4)) && (decide (i4 < (List.length s0 : Nat)))) then
      bif ((List.getD s0 (Int.toNat i4) (0 : UInt8)) != (13 : UInt8)) then
        bif ((decide ((0 : Int) ≤ i4)) && (decide (i4 < (List.length s0 : Nat)))) then
          bif ((List.getD s0 (Int.toNat i4) (0 : UInt8)) != (10 : UInt8)) then
            bif ((decide ((0 : Int) ≤ i4)) && (decide (i4 < (List.length s0 : Nat)))) then
              bif (decide (List.length out3 + List.length ([(List.getD s0 (Int.toNat i4) (0 : UInt8))] : List UInt8) ≤ room)) then
                next s0 (out3 ++ ([(List.getD s0 (Int.toNat i4) (0 : UInt8))] : List UInt8)) (IntKind.wrap .i64 (i4 + (1 : Int)))
              else none
            else none
          else
            bif (decide (List.length out3 + List.length ([(13 : UInt8), (10 : UInt8)] : List UInt8) ≤ room)) then
              bif ((decide ((0 : Int) ≤ i4)) && (decide (i4 < (List.length s0 : Nat)))) then
                bif ((List.getD s0 (Int.toNat i4) (0 : UInt8)) == (13 : UInt8)) then
                  bif (decide ((IntKind.wrap .i64 (i4 + (1 : Int))) < ((List.length s0 : Nat) : Int))) then
                    bif ((decide ((0 : Int) ≤ (IntKind.wrap .i64 (i4 + (1 : Int))))) && (decide ((IntKind.wrap .i64 (i4 + (1 : Int))) < (List.length s0 : Nat)))) then
                      bif ((List.getD s0 (Int.toNat (IntKind.wrap .i64 (i4 + (1 : Int)))) (0 : UInt8)) == (10 : UInt8)) then
                        next s0 (out3 ++ ([(13 : UInt8), (10 : UInt8)] : List UInt8)) (IntKind.wrap .i64 ((IntKind.wrap .i64 (i4 + (1 : Int))) + (1 : Int)))
                      else
                        next s0 (out3 ++ ([(13 : UInt8), (10 : UInt8)] : List UInt8)) (IntKind.wrap .i64 (i4 + (1 : Int)))
                    else none
                  else
                    next s0 (out3 ++ ([(13 : UInt8), (10 : UInt8)] : List UInt8)) (IntKind.wrap .i64 (i4 + (1 : Int)))
                else
                  next s0 (out3 ++ ([(13 : UInt8), (10 : UInt8)] : List UInt8)) (IntKind.wrap .i64 (i4 + (1 : Int)))
              else none
            else none
        else none
      else
        bif (decide (List.length out3 + List.length ([(13 : UInt8), (10 : UInt8)] : List UInt8) ≤ room)) then
          bif ((decide ((0 : Int) ≤ i4)) && (decide (i4 < (List.length s0 : Nat)))) then
            bif ((List.getD s0 (Int.toNat i4) (0 : UInt8)) == (13 : UInt8)) then
              bif (decide ((IntKind.wrap .i64 (i4 + (1 : Int))) < ((List.length s0 : Nat) : Int))) then
                bif ((decide ((0 : Int) ≤ (IntKind.wrap .i64 (i4 + (1 : Int))))) && (decide ((IntKind.wrap .i64 (i4 + (1 : Int))) < (List.length s0 : Nat)))) then
                  bif ((List.getD s0 (Int.toNat (IntKind.wrap .i64 (i4 + (1 : Int)))) (0 : UInt8)) == (10 : UInt8)) then
                    next s0 (out3 ++ ([(13 : UInt8), (10 : UInt8)] : List UInt8)) (IntKind.wrap .i64 ((IntKind.wrap .i64 (i4 + (1 : Int))) + (1 : Int)))
                  else
                    next s0 (out3 ++ ([(13 : UInt8), (10 : UInt8)] : List UInt8)) (IntKind.wrap .i64 (i4 + (1 : Int)))
                else none
              else
                next s0 (out3 ++ ([(13 : UInt8), (10 : UInt8)] : List UInt8)) (IntKind.wrap .i64 (i4 + (1 : Int)))
            else
              next s0 (out3 ++ ([(13 : UInt8), (10 : UInt8)] : List UInt8)) (IntKind.wrap .i64 (i4 + (1 : Int)))
          else none
        else none
    else none
  else
    k0 out3
def ref18_Breaks_l3 (k0 : List UInt8 → Option AV) : Nat → List UInt8 → List UInt8 → Int → Option AV
  | 0 => fun _ _ _ => none
  | n + 1 => ref18_Breaks_l3_b k0 (ref18_Breaks_l3 k0 n) n
def ref18_Breaks_k3_0 (_n : Nat) (out3 : List UInt8) : Option AV :=
  ref18_Breaks_ret out3
def ref18_Breaks_sh (n : Nat) (s0 : List UInt8) : Option AV :=
  ref18_Breaks_l3 (ref18_Breaks_k3_0 n) n s0 ([] : List UInt8) (0 : Int)

/-! sheave/sheaveref18.Unit -/

def ref18_Unit_ret (s4 : List UInt8) : Option AV := some (.dat (.sl .byte) s4 (some (4, 5)))
def ref18_Unit_sh (_n : Nat) (c0 : UInt8) (ends1 : Bool) : Option AV :=
  bif (ref01_Is c0 (4 : Int)) then
    bif (c0 != (61 : UInt8)) then
      ref18_Unit_ret ([c0] : List UInt8)
    else
      bif (ref01_Is c0 (2 : Int)) then
        bif (!ends1) then
          ref18_Unit_ret ([c0] : List UInt8)
        else
          bif ((ref02_Put_ok ([] : List UInt8) (61 : UInt8) c0) && true) then
            ref18_Unit_ret (ref02_Put ([] : List UInt8) (61 : UInt8) c0)
          else none
      else
        bif ((ref02_Put_ok ([] : List UInt8) (61 : UInt8) c0) && true) then
          ref18_Unit_ret (ref02_Put ([] : List UInt8) (61 : UInt8) c0)
        else none
  else
    bif (ref01_Is c0 (2 : Int)) then
      bif (!ends1) then
        ref18_Unit_ret ([c0] : List UInt8)
      else
        bif ((ref02_Put_ok ([] : List UInt8) (61 : UInt8) c0) && true) then
          ref18_Unit_ret (ref02_Put ([] : List UInt8) (61 : UInt8) c0)
        else none
    else
      bif ((ref02_Put_ok ([] : List UInt8) (61 : UInt8) c0) && true) then
        ref18_Unit_ret (ref02_Put ([] : List UInt8) (61 : UInt8) c0)
      else none

/-! sheave/sheaveref18.Lay -/

def ref18_Lay_ret (s2 : List UInt8) : Option AV := some (.dat (.sl .byte) s2 (some (2, 5)))
def ref18_Lay_l5_b (k0 : List UInt8 → Int → Option AV) (next : List UInt8 → List UInt8 → Int → Int → Option AV) (_n : Nat) (b3 : List UInt8) (out4 : List UInt8) (long5 : Int) (i6 : Int) : Option AV :=
  bif (decide (i6 < ((List.length b3 : Nat) : Int))) then
    bif ((decide ((0 : Int) ≤ i6)) && (decide (i6 < (List.length b3 : Nat)))) then
      bif ((List.getD b3 (Int.toNat i6) (0 : UInt8)) == (13 : UInt8)) then
        bif (decide (List.length out4 + List.length ([(13 : UInt8), (10 : UInt8)] : List UInt8) ≤ room)) then
          next b3 (out4 ++ ([(13 : UInt8), (10 : UInt8)] : List UInt8)) (0 : Int) (IntKind.wrap .i64 ((IntKind.wrap .i64 (i6 + (1 : Int))) + (1 : Int)))
        else none
      else
        bif ((decide ((0 : Int) ≤ i6)) && (decide (i6 < (List.length b3 : Nat)))) then
          bif (decide ((IntKind.wrap .i64 (i6 + (1 : Int))) < ((List.length b3 : Nat) : Int))) then
            bif ((decide ((0 : Int) ≤ (IntKind.wrap .i64 (i6 + (1 : Int))))) && (decide ((IntKind.wrap .i64 (i6 + (1 : Int))) < (List.length b3 : Nat)))) then
              bif (decide ((75 : Int) < (IntKind.wrap .i64 (long5 + ((List.length (ref18_Unit (List.getD b3 (Int.toNat i6) (0 : UInt8)) ((List.getD b3 (Int.toNat (IntKind.wrap .i64 (i6 + (1 : Int)))) (0 : UInt8)) == (13 : UInt8))) : Nat) : Int))))) then
                bif (decide (List.length out4 + List.length ([(61 : UInt8), (13 : UInt8), (10 : UInt8)] : List UInt8) ≤ room)) then
                  bif (decide (List.length (out4 ++ ([(61 : UInt8), (13 : UInt8), (10 : UInt8)] : List UInt8)) + List.length (ref18_Unit (List.getD b3 (Int.toNat i6) (0 : UInt8)) ((List.getD b3 (Int.toNat (IntKind.wrap .i64 (i6 + (1 : Int)))) (0 : UInt8)) == (13 : UInt8))) ≤ room)) then
                    next b3 ((out4 ++ ([(61 : UInt8), (13 : UInt8), (10 : UInt8)] : List UInt8)) ++ (ref18_Unit (List.getD b3 (Int.toNat i6) (0 : UInt8)) ((List.getD b3 (Int.toNat (IntKind.wrap .i64 (i6 + (1 : Int)))) (0 : UInt8)) == (13 : UInt8)))) (IntKind.wrap .i64 ((0 : Int) + ((List.length (ref18_Unit (List.getD b3 (Int.toNat i6) (0 : UInt8)) ((List.getD b3 (Int.toNat (IntKind.wrap .i64 (i6 + (1 : Int)))) (0 : UInt8)) == (13 : UInt8))) : Nat) : Int))) (IntKind.wrap .i64 (i6 + (1 : Int)))
                  else none
                else none
              else
                bif (decide (List.length out4 + List.length (ref18_Unit (List.getD b3 (Int.toNat i6) (0 : UInt8)) ((List.getD b3 (Int.toNat (IntKind.wrap .i64 (i6 + (1 : Int)))) (0 : UInt8)) == (13 : UInt8))) ≤ room)) then
                  next b3 (out4 ++ (ref18_Unit (List.getD b3 (Int.toNat i6) (0 : UInt8)) ((List.getD b3 (Int.toNat (IntKind.wrap .i64 (i6 + (1 : Int)))) (0 : UInt8)) == (13 : UInt8)))) (IntKind.wrap .i64 (long5 + ((List.length (ref18_Unit (List.getD b3 (Int.toNat i6) (0 : UInt8)) ((List.getD b3 (Int.toNat (IntKind.wrap .i64 (i6 + (1 : Int)))) (0 : UInt8)) == (13 : UInt8))) : Nat) : Int))) (IntKind.wrap .i64 (i6 + (1 : Int)))
                else none
            else none
          else
            bif (decide ((75 : Int) < (IntKind.wrap .i64 (long5 + ((List.length (ref18_Unit (List.getD b3 (Int.toNat i6) (0 : UInt8)) false) : Nat) : Int))))) then
              bif (decide (List.length out4 + List.length ([(61 : UInt8), (13 : UInt8), (10 : UInt8)] : List UInt8) ≤ room)) then
                bif (decide (List.length (out4 ++ ([(61 : UInt8), (13 : UInt8), (10 : UInt8)] : List UInt8)) + List.length (ref18_Unit (List.getD b3 (Int.toNat i6) (0 : UInt8)) false) ≤ room)) then
                  next b3 ((out4 ++ ([(61 : UInt8), (13 : UInt8), (10 : UInt8)] : List UInt8)) ++ (ref18_Unit (List.getD b3 (Int.toNat i6) (0 : UInt8)) false)) (IntKind.wrap .i64 ((0 : Int) + ((List.length (ref18_Unit (List.getD b3 (Int.toNat i6) (0 : UInt8)) false) : Nat) : Int))) (IntKind.wrap .i64 (i6 + (1 : Int)))
                else none
              else none
            else
              bif (decide (List.length out4 + List.length (ref18_Unit (List.getD b3 (Int.toNat i6) (0 : UInt8)) false) ≤ room)) then
                next b3 (out4 ++ (ref18_Unit (List.getD b3 (Int.toNat i6) (0 : UInt8)) false)) (IntKind.wrap .i64 (long5 + ((List.length (ref18_Unit (List.getD b3 (Int.toNat i6) (0 : UInt8)) false) : Nat) : Int))) (IntKind.wrap .i64 (i6 + (1 : Int)))
              else none
        else none
    else none
  else
    k0 out4 long5
def ref18_Lay_l5 (k0 : List UInt8 → Int → Option AV) : Nat → List UInt8 → List UInt8 → Int → Int → Option AV
  | 0 => fun _ _ _ _ => none
  | n + 1 => ref18_Lay_l5_b k0 (ref18_Lay_l5 k0 n) n
def ref18_Lay_k5_0 (_n : Nat) (out4 : List UInt8) (long5 : Int) : Option AV :=
  bif (decide ((0 : Int) < long5)) then
    bif (decide (List.length out4 + List.length ([(61 : UInt8), (13 : UInt8), (10 : UInt8)] : List UInt8) ≤ room)) then
      ref18_Lay_ret (out4 ++ ([(61 : UInt8), (13 : UInt8), (10 : UInt8)] : List UInt8))
    else none
  else
    ref18_Lay_ret out4
def ref18_Lay_sh (n : Nat) (s0 : List UInt8) : Option AV :=
  bif ((ref18_Breaks_ok s0) && true) then
    ref18_Lay_l5 (ref18_Lay_k5_0 n) n (ref18_Breaks s0) ([] : List UInt8) (0 : Int) (0 : Int)
  else none

/-! sheave/qpage.Len -/

def qpage_Len_ret (s2 : Int) : Option AV := some (.dat (.int .i64) s2 none)
def qpage_Len_sh (_n : Nat) (s0 : List UInt8) : Option AV :=
  bif ((qpage_Lay_ok s0) && true) then
    qpage_Len_ret ((List.length (qpage_Lay s0) : Nat) : Int)
  else none

/-! sheave/sheavelaw18.QpageLays -/

def law18_QpageLays_ret (s6 : Bool) : Option AV := some (.dat .bool s6 none)
def law18_QpageLays_sh (_n : Nat) (s0 : List UInt8) (c1 : UInt8) (ends2 : Bool) : Option AV :=
  bif (decide ((1000 : Int) < ((List.length s0 : Nat) : Int))) then
    law18_QpageLays_ret law18_alive
  else
    bif ((qpage_Lay_ok s0) && true) then
      bif ((ref18_Lay_ok s0) && true) then
        bif ((ref01_Like_ok (qpage_Lay s0) (ref18_Lay s0)) && true) then
          bif (ref01_Like (qpage_Lay s0) (ref18_Lay s0)) then
            bif ((qpage_Len_ok s0) && true) then
              bif ((qpage_Len s0) == ((List.length (qpage_Lay s0) : Nat) : Int)) then
                bif ((qpage_Breaks_ok s0) && true) then
                  bif ((ref18_Breaks_ok s0) && true) then
                    bif ((ref01_Like_ok (qpage_Breaks s0) (ref18_Breaks s0)) && true) then
                      bif (ref01_Like (qpage_Breaks s0) (ref18_Breaks s0)) then
                        bif ((ref01_Like_ok (qpage_Unit c1 ends2) (ref18_Unit c1 ends2)) && true) then
                          bif (ref01_Like (qpage_Unit c1 ends2) (ref18_Unit c1 ends2)) then
                            law18_QpageLays_ret law18_alive
                          else
                            law18_QpageLays_ret false
                        else none
                      else
                        law18_QpageLays_ret false
                    else none
                  else none
                else none
              else
                law18_QpageLays_ret false
            else none
          else
            law18_QpageLays_ret false
        else none
      else none
    else none

/-! (*sheave/qpage.page).put -/

def __qpage_page__put_ret (s32 : (List UInt8) × (Int × Unit)) : Option AV := some (.tup [(.tup []), (.pbox (.ppair (.osl 5 .byte) (.ppair (.leaf (.int .i64)) (.leaf .unit))) s32 none), .bad])
def __qpage_page__put_sh (_n : Nat) (p0 : (List UInt8) × (Int × Unit)) (u1 : List UInt8) : Option AV :=
  bif (decide ((75 : Int) < (IntKind.wrap .i64 (p0.2.1 + ((List.length u1 : Nat) : Int))))) then
    bif (__qpage_page__end_ok p0 true) then
      bif (decide (List.length (__qpage_page__end p0 true).1 + List.length u1 ≤ room)) then
        __qpage_page__put_ret ((((__qpage_page__end p0 true).1 ++ u1), (__qpage_page__end p0 true).2).1, ((IntKind.wrap .i64 ((((__qpage_page__end p0 true).1 ++ u1), (__qpage_page__end p0 true).2).2.1 + ((List.length u1 : Nat) : Int))), (((__qpage_page__end p0 true).1 ++ u1), (__qpage_page__end p0 true).2).2.2))
      else none
    else none
  else
    bif (decide (List.length p0.1 + List.length u1 ≤ room)) then
      __qpage_page__put_ret (((p0.1 ++ u1), p0.2).1, ((IntKind.wrap .i64 (((p0.1 ++ u1), p0.2).2.1 + ((List.length u1 : Nat) : Int))), ((p0.1 ++ u1), p0.2).2.2))
    else none
end
end Go.Av
