import Derived.Test.YtnfehbljinflbaaDoorEtM
namespace Go.Av
set_option linter.unusedVariables false
noncomputable section

/-! internal/stringslite.IndexByte -/

def internal_stringslite_IndexByte_ret (s4 : Int) : Option AV := some (.dat (.int .i64) s4 none)
def internal_stringslite_IndexByte_sh (_n : Nat) (s0 : List UInt8) (c1 : UInt8) : Option AV :=
  internal_stringslite_IndexByte_ret (internal_bytealg_IndexByteString s0 c1)

/-! strings.IndexByte -/

def strings_IndexByte_ret (s4 : Int) : Option AV := some (.dat (.int .i64) s4 none)
def strings_IndexByte_sh (_n : Nat) (s0 : List UInt8) (c1 : UInt8) : Option AV :=
  strings_IndexByte_ret (internal_stringslite_IndexByte s0 c1)

/-! sheave/octet.plain -/

def octet_plain_ret (s2 : Int) : Option AV := some (.dat (.int .i64) s2 none)
def octet_plain_sh (_n : Nat) (c0 : UInt8) : Option AV :=
  bif (decide (c0 < (32 : UInt8))) then
    bif (c0 == (32 : UInt8)) then
      octet_plain_ret (bits .or .i64 (bits .or .i64 (0 : Int) (1 : Int)) (2 : Int))
    else
      bif (c0 == (9 : UInt8)) then
        octet_plain_ret (bits .or .i64 (bits .or .i64 (0 : Int) (1 : Int)) (2 : Int))
      else
        bif (decide ((48 : UInt8) ≤ c0)) then
          bif (decide (c0 ≤ (57 : UInt8))) then
            octet_plain_ret (bits .or .i64 (bits .or .i64 (0 : Int) (1 : Int)) (648 : Int))
          else
            bif (decide ((65 : UInt8) ≤ c0)) then
              bif (decide (c0 ≤ (90 : UInt8))) then
                bif (decide (c0 ≤ (90 : UInt8))) then
                  octet_plain_ret (bits .or .i64 (bits .or .i64 (0 : Int) (1 : Int)) (656 : Int))
                else
                  octet_plain_ret (bits .or .i64 (0 : Int) (1 : Int))
              else
                bif (decide ((97 : UInt8) ≤ c0)) then
                  bif (decide (c0 ≤ (122 : UInt8))) then
                    octet_plain_ret (bits .or .i64 (bits .or .i64 (0 : Int) (1 : Int)) (656 : Int))
                  else
                    octet_plain_ret (bits .or .i64 (0 : Int) (1 : Int))
                else
                  octet_plain_ret (bits .or .i64 (0 : Int) (1 : Int))
            else
              bif (decide ((97 : UInt8) ≤ c0)) then
                bif (decide (c0 ≤ (122 : UInt8))) then
                  octet_plain_ret (bits .or .i64 (bits .or .i64 (0 : Int) (1 : Int)) (656 : Int))
                else
                  octet_plain_ret (bits .or .i64 (0 : Int) (1 : Int))
              else
                octet_plain_ret (bits .or .i64 (0 : Int) (1 : Int))
        else
          bif (decide ((65 : UInt8) ≤ c0)) then
            bif (decide (c0 ≤ (90 : UInt8))) then
              bif (decide (c0 ≤ (90 : UInt8))) then
                octet_plain_ret (bits .or .i64 (bits .or .i64 (0 : Int) (1 : Int)) (656 : Int))
              else
                octet_plain_ret (bits .or .i64 (0 : Int) (1 : Int))
            else
              bif (decide ((97 : UInt8) ≤ c0)) then
                bif (decide (c0 ≤ (122 : UInt8))) then
                  octet_plain_ret (bits .or .i64 (bits .or .i64 (0 : Int) (1 : Int)) (656 : Int))
                else
                  octet_plain_ret (bits .or .i64 (0 : Int) (1 : Int))
              else
                octet_plain_ret (bits .or .i64 (0 : Int) (1 : Int))
          else
            bif (decide ((97 : UInt8) ≤ c0)) then
              bif (decide (c0 ≤ (122 : UInt8))) then
                octet_plain_ret (bits .or .i64 (bits .or .i64 (0 : Int) (1 : Int)) (656 : Int))
              else
                octet_plain_ret (bits .or .i64 (0 : Int) (1 : Int))
            else
              octet_plain_ret (bits .or .i64 (0 : Int) (1 : Int))
  else
    bif (c0 == (127 : UInt8)) then
      bif (c0 == (32 : UInt8)) then
        octet_plain_ret (bits .or .i64 (bits .or .i64 (0 : Int) (1 : Int)) (2 : Int))
      else
        bif (c0 == (9 : UInt8)) then
          octet_plain_ret (bits .or .i64 (bits .or .i64 (0 : Int) (1 : Int)) (2 : Int))
        else
          bif (decide ((48 : UInt8) ≤ c0)) then
            bif (decide (c0 ≤ (57 : UInt8))) then
              octet_plain_ret (bits .or .i64 (bits .or .i64 (0 : Int) (1 : Int)) (648 : Int))
            else
              bif (decide ((65 : UInt8) ≤ c0)) then
                bif (decide (c0 ≤ (90 : UInt8))) then
                  bif (decide (c0 ≤ (90 : UInt8))) then
                    octet_plain_ret (bits .or .i64 (bits .or .i64 (0 : Int) (1 : Int)) (656 : Int))
                  else
                    octet_plain_ret (bits .or .i64 (0 : Int) (1 : Int))
                else
                  bif (decide ((97 : UInt8) ≤ c0)) then
                    bif (decide (c0 ≤ (122 : UInt8))) then
                      octet_plain_ret (bits .or .i64 (bits .or .i64 (0 : Int) (1 : Int)) (656 : Int))
                    else
                      octet_plain_ret (bits .or .i64 (0 : Int) (1 : Int))
                  else
                    octet_plain_ret (bits .or .i64 (0 : Int) (1 : Int))
              else
                bif (decide ((97 : UInt8) ≤ c0)) then
                  bif (decide (c0 ≤ (122 : UInt8))) then
                    octet_plain_ret (bits .or .i64 (bits .or .i64 (0 : Int) (1 : Int)) (656 : Int))
                  else
                    octet_plain_ret (bits .or .i64 (0 : Int) (1 : Int))
                else
                  octet_plain_ret (bits .or .i64 (0 : Int) (1 : Int))
          else
            bif (decide ((65 : UInt8) ≤ c0)) then
              bif (decide (c0 ≤ (90 : UInt8))) then
                bif (decide (c0 ≤ (90 : UInt8))) then
                  octet_plain_ret (bits .or .i64 (bits .or .i64 (0 : Int) (1 : Int)) (656 : Int))
                else
                  octet_plain_ret (bits .or .i64 (0 : Int) (1 : Int))
              else
                bif (decide ((97 : UInt8) ≤ c0)) then
                  bif (decide (c0 ≤ (122 : UInt8))) then
                    octet_plain_ret (bits .or .i64 (bits .or .i64 (0 : Int) (1 : Int)) (656 : Int))
                  else
                    octet_plain_ret (bits .or .i64 (0 : Int) (1 : Int))
                else
                  octet_plain_ret (bits .or .i64 (0 : Int) (1 : Int))
            else
              bif (decide ((97 : UInt8) ≤ c0)) then
                bif (decide (c0 ≤ (122 : UInt8))) then
                  octet_plain_ret (bits .or .i64 (bits .or .i64 (0 : Int) (1 : Int)) (656 : Int))
                else
                  octet_plain_ret (bits .or .i64 (0 : Int) (1 : Int))
              else
                octet_plain_ret (bits .or .i64 (0 : Int) (1 : Int))
    else
      bif (c0 == (32 : UInt8)) then
        octet_plain_ret (bits .or .i64 (0 : Int) (2 : Int))
      else
        bif (c0 == (9 : UInt8)) then
          octet_plain_ret (bits .or .i64 (0 : Int) (2 : Int))
        else
          bif (decide ((48 : UInt8) ≤ c0)) then
            bif (decide (c0 ≤ (57 : UInt8))) then
              octet_plain_ret (bits .or .i64 (0 : Int) (648 : Int))
            else
              bif (decide ((65 : UInt8) ≤ c0)) then
                bif (decide (c0 ≤ (90 : UInt8))) then
                  bif (decide (c0 ≤ (90 : UInt8))) then
                    octet_plain_ret (bits .or .i64 (0 : Int) (656 : Int))
                  else
                    octet_plain_ret (0 : Int)
                else
                  bif (decide ((97 : UInt8) ≤ c0)) then
                    bif (decide (c0 ≤ (122 : UInt8))) then
                      octet_plain_ret (bits .or .i64 (0 : Int) (656 : Int))
                    else
                      octet_plain_ret (0 : Int)
                  else
                    octet_plain_ret (0 : Int)
              else
                bif (decide ((97 : UInt8) ≤ c0)) then
                  bif (decide (c0 ≤ (122 : UInt8))) then
                    octet_plain_ret (bits .or .i64 (0 : Int) (656 : Int))
                  else
                    octet_plain_ret (0 : Int)
                else
                  octet_plain_ret (0 : Int)
          else
            bif (decide ((65 : UInt8) ≤ c0)) then
              bif (decide (c0 ≤ (90 : UInt8))) then
                bif (decide (c0 ≤ (90 : UInt8))) then
                  octet_plain_ret (bits .or .i64 (0 : Int) (656 : Int))
                else
                  octet_plain_ret (0 : Int)
              else
                bif (decide ((97 : UInt8) ≤ c0)) then
                  bif (decide (c0 ≤ (122 : UInt8))) then
                    octet_plain_ret (bits .or .i64 (0 : Int) (656 : Int))
                  else
                    octet_plain_ret (0 : Int)
                else
                  octet_plain_ret (0 : Int)
            else
              bif (decide ((97 : UInt8) ≤ c0)) then
                bif (decide (c0 ≤ (122 : UInt8))) then
                  octet_plain_ret (bits .or .i64 (0 : Int) (656 : Int))
                else
                  octet_plain_ret (0 : Int)
              else
                octet_plain_ret (0 : Int)

/-! sheave/octet.in -/

def octet_in_ret (s4 : Bool) : Option AV := some (.dat .bool s4 none)
def octet_in_sh (_n : Nat) (s0 : List UInt8) (c1 : UInt8) : Option AV :=
  octet_in_ret (decide ((0 : Int) ≤ (strings_IndexByte s0 c1)))

/-! sheave/octet.Kinds -/

def octet_Kinds_ret (s2 : Int) : Option AV := some (.dat (.int .i64) s2 none)
def octet_Kinds_sh (_n : Nat) (c0 : UInt8) : Option AV :=
  bif (decide (c0 < (33 : UInt8))) then
    octet_Kinds_ret (octet_plain c0)
  else
    bif (decide ((126 : UInt8) < c0)) then
      octet_Kinds_ret (octet_plain c0)
    else
      bif (octet_in ([33, 42, 43, 45, 47] : List UInt8) c0) then
        bif (octet_in ([43, 47] : List UInt8) c0) then
          bif (octet_in ([40, 41, 60, 62, 64, 44, 59, 58, 92, 34, 47, 91, 93, 63, 61] : List UInt8) c0) then
            octet_Kinds_ret (bits .or .i64 (bits .or .i64 (bits .or .i64 (bits .or .i64 (octet_plain c0) (4 : Int)) (128 : Int)) (512 : Int)) (32 : Int))
          else
            bif (!(octet_in ([42, 39, 37] : List UInt8) c0)) then
              octet_Kinds_ret (bits .or .i64 (bits .or .i64 (bits .or .i64 (bits .or .i64 (bits .or .i64 (octet_plain c0) (4 : Int)) (128 : Int)) (512 : Int)) (64 : Int)) (256 : Int))
            else
              octet_Kinds_ret (bits .or .i64 (bits .or .i64 (bits .or .i64 (bits .or .i64 (octet_plain c0) (4 : Int)) (128 : Int)) (512 : Int)) (64 : Int))
        else
          bif (octet_in ([40, 41, 60, 62, 64, 44, 59, 58, 92, 34, 47, 91, 93, 63, 61] : List UInt8) c0) then
            octet_Kinds_ret (bits .or .i64 (bits .or .i64 (bits .or .i64 (octet_plain c0) (4 : Int)) (128 : Int)) (32 : Int))
          else
            bif (!(octet_in ([42, 39, 37] : List UInt8) c0)) then
              octet_Kinds_ret (bits .or .i64 (bits .or .i64 (bits .or .i64 (bits .or .i64 (octet_plain c0) (4 : Int)) (128 : Int)) (64 : Int)) (256 : Int))
            else
              octet_Kinds_ret (bits .or .i64 (bits .or .i64 (bits .or .i64 (octet_plain c0) (4 : Int)) (128 : Int)) (64 : Int))
      else
        bif (octet_in ([43, 47] : List UInt8) c0) then
          bif (octet_in ([40, 41, 60, 62, 64, 44, 59, 58, 92, 34, 47, 91, 93, 63, 61] : List UInt8) c0) then
            octet_Kinds_ret (bits .or .i64 (bits .or .i64 (bits .or .i64 (octet_plain c0) (4 : Int)) (512 : Int)) (32 : Int))
          else
            bif (!(octet_in ([42, 39, 37] : List UInt8) c0)) then
              octet_Kinds_ret (bits .or .i64 (bits .or .i64 (bits .or .i64 (bits .or .i64 (octet_plain c0) (4 : Int)) (512 : Int)) (64 : Int)) (256 : Int))
            else
              octet_Kinds_ret (bits .or .i64 (bits .or .i64 (bits .or .i64 (octet_plain c0) (4 : Int)) (512 : Int)) (64 : Int))
        else
          bif (octet_in ([40, 41, 60, 62, 64, 44, 59, 58, 92, 34, 47, 91, 93, 63, 61] : List UInt8) c0) then
            octet_Kinds_ret (bits .or .i64 (bits .or .i64 (octet_plain c0) (4 : Int)) (32 : Int))
          else
            bif (!(octet_in ([42, 39, 37] : List UInt8) c0)) then
              octet_Kinds_ret (bits .or .i64 (bits .or .i64 (bits .or .i64 (octet_plain c0) (4 : Int)) (64 : Int)) (256 : Int))
            else
              octet_Kinds_ret (bits .or .i64 (bits .or .i64 (octet_plain c0) (4 : Int)) (64 : Int))

/-! sheave/octet.Is -/

def octet_Is_ret (s4 : Bool) : Option AV := some (.dat .bool s4 none)
def octet_Is_sh (_n : Nat) (c0 : UInt8) (kinds1 : Int) : Option AV :=
  octet_Is_ret ((bits .and .i64 (octet_Kinds c0) kinds1) != (0 : Int))

/-! sheave/octet.Lower -/

def octet_Lower_ret (s2 : UInt8) : Option AV := some (.dat .byte s2 none)
def octet_Lower_sh (_n : Nat) (c0 : UInt8) : Option AV :=
  bif (decide ((65 : UInt8) ≤ c0)) then
    bif (decide (c0 ≤ (90 : UInt8))) then
      octet_Lower_ret (c0 ||| (32 : UInt8))
    else
      octet_Lower_ret c0
  else
    octet_Lower_ret c0

/-! sheave/octet.Fold -/

def octet_Fold_ret (s2 : List UInt8) : Option AV := some (.dat (.sl .byte) s2 (some (2, 5)))
def octet_Fold_l3_b (k0 : List UInt8 → Option AV) (next : List UInt8 → Int → Int → Option AV) (_n : Nat) (out3 : List UInt8) (s9 : Int) (s10 : Int) : Option AV :=
  bif (decide (s10 < s9)) then
    bif ((decide ((0 : Int) ≤ s10)) && (decide (s10 < (List.length out3 : Nat)))) then
      bif ((decide ((0 : Int) ≤ s10)) && (decide (s10 < (List.length out3 : Nat)))) then
        next (List.set out3 (Int.toNat s10) (octet_Lower (List.getD out3 (Int.toNat s10) (0 : UInt8)))) s9 (IntKind.wrap .i64 (s10 + (1 : Int)))
      else none
    else none
  else
    k0 out3
def octet_Fold_l3 (k0 : List UInt8 → Option AV) : Nat → List UInt8 → Int → Int → Option AV
  | 0 => fun _ _ _ => none
  | n + 1 => octet_Fold_l3_b k0 (octet_Fold_l3 k0 n) n
def octet_Fold_k3_0 (_n : Nat) (out3 : List UInt8) : Option AV :=
  octet_Fold_ret out3
def octet_Fold_sh (n : Nat) (s0 : List UInt8) : Option AV :=
  bif ((bytes_Clone_ok s0) && true) then
    octet_Fold_l3 (octet_Fold_k3_0 n) n (bytes_Clone s0) ((List.length (bytes_Clone s0) : Nat) : Int) (0 : Int)
  else none

/-! sheave/octet.Count -/

def octet_Count_ret (s4 : Int) : Option AV := some (.dat (.int .i64) s4 none)
def octet_Count_l3_b (k0 : Int → Option AV) (next : Int → Int → List UInt8 → Int → Int → Option AV) (_n : Nat) (kinds1 : Int) (n5 : Int) (s8 : List UInt8) (s9 : Int) (s10 : Int) : Option AV :=
  bif (decide (s10 < s9)) then
    bif ((decide ((0 : Int) ≤ s10)) && (decide (s10 < (List.length s8 : Nat)))) then
      bif (octet_Is (List.getD s8 (Int.toNat s10) (0 : UInt8)) kinds1) then
        next kinds1 (IntKind.wrap .i64 (n5 + (1 : Int))) s8 s9 (IntKind.wrap .i64 (s10 + (1 : Int)))
      else
        next kinds1 n5 s8 s9 (IntKind.wrap .i64 (s10 + (1 : Int)))
    else none
  else
    k0 n5
def octet_Count_l3 (k0 : Int → Option AV) : Nat → Int → Int → List UInt8 → Int → Int → Option AV
  | 0 => fun _ _ _ _ _ => none
  | n + 1 => octet_Count_l3_b k0 (octet_Count_l3 k0 n) n
def octet_Count_k3_0 (_n : Nat) (n5 : Int) : Option AV :=
  octet_Count_ret n5
def octet_Count_sh (n : Nat) (s0 : List UInt8) (kinds1 : Int) : Option AV :=
  octet_Count_l3 (octet_Count_k3_0 n) n kinds1 (0 : Int) s0 ((List.length s0 : Nat) : Int) (0 : Int)

/-! sheave/octet.All -/

def octet_All_ret (s4 : Bool) : Option AV := some (.dat .bool s4 none)
def octet_All_sh (_n : Nat) (s0 : List UInt8) (kinds1 : Int) : Option AV :=
  bif ((octet_Count_ok s0 kinds1) && true) then
    octet_All_ret ((octet_Count s0 kinds1) == ((List.length s0 : Nat) : Int))
  else none

/-! bytes.makeASCIISet -/

def bytes_makeASCIISet_ret (as2 : List Bool) (ok3 : Bool) : Option AV := some (.tup [(.dat (.arr 256 .bool) as2 none), (.dat .bool ok3 none)])
def bytes_makeASCIISet_l2_b (ret : List Bool → Bool → Option AV) (k0 : List Bool → Option AV) (next : List UInt8 → List Bool → Int → Option AV) (_n : Nat) (chars0 : List UInt8) (as2 : List Bool) (i4 : Int) : Option AV :=
  bif (decide (i4 < ((List.length chars0 : Nat) : Int))) then
    bif ((decide ((0 : Int) ≤ i4)) && (decide (i4 < (List.length chars0 : Nat)))) then
      bif (decide ((128 : UInt8) ≤ (List.getD chars0 (Int.toNat i4) (0 : UInt8)))) then
        ret as2 false
      else
        bif ((decide ((0 : Int) ≤ ((UInt8.toNat (List.getD chars0 (Int.toNat i4) (0 : UInt8)) : Nat) : Int))) && (decide (((UInt8.toNat (List.getD chars0 (Int.toNat i4) (0 : UInt8)) : Nat) : Int) < (256 : Nat)))) then
          next chars0 (List.set as2 (Int.toNat ((UInt8.toNat (List.getD chars0 (Int.toNat i4) (0 : UInt8)) : Nat) : Int)) true) (IntKind.wrap .i64 (i4 + (1 : Int)))
        else none
    else none
  else
    k0 as2
def bytes_makeASCIISet_l2 (ret : List Bool → Bool → Option AV) (k0 : List Bool → Option AV) : Nat → List UInt8 → List Bool → Int → Option AV
  | 0 => fun _ _ _ => none
  | n + 1 => bytes_makeASCIISet_l2_b ret k0 (bytes_makeASCIISet_l2 ret k0 n) n
def bytes_makeASCIISet_k2_0 (_n : Nat) (as2 : List Bool) : Option AV :=
  bytes_makeASCIISet_ret as2 true
def bytes_makeASCIISet_sh (n : Nat) (chars0 : List UInt8) : Option AV :=
  bytes_makeASCIISet_l2 bytes_makeASCIISet_ret (bytes_makeASCIISet_k2_0 n) n chars0 (List.replicate 256 false) (0 : Int)

/-! bytes.shouldUseASCIISet -/

def bytes_shouldUseASCIISet_ret (s2 : Bool) : Option AV := some (.dat .bool s2 none)
def bytes_shouldUseASCIISet_sh (_n : Nat) (bufLen0 : Int) : Option AV :=
  bytes_shouldUseASCIISet_ret (decide ((8 : Int) < bufLen0))

/-! (*bytes.asciiSet).contains -/

def __bytes_asciiSet__contains_ret (s4 : Bool) : Option AV := some (.dat .bool s4 none)
def __bytes_asciiSet__contains_sh (_n : Nat) (as0 : List Bool) (c1 : UInt8) : Option AV :=
  bif ((decide ((0 : Int) ≤ ((UInt8.toNat c1 : Nat) : Int))) && (decide (((UInt8.toNat c1 : Nat) : Int) < (256 : Nat)))) then
    __bytes_asciiSet__contains_ret (List.getD as0 (Int.toNat ((UInt8.toNat c1 : Nat) : Int)) false)
  else none

/-! bytes.IndexAny -/

def bytes_IndexAny_ret (s4 : Int) : Option AV := some (.dat (.int .i64) s4 none)
def bytes_IndexAny_l7_b (m0 : Int) (ret : Int → Option AV) (k0 : Option AV) (next : List UInt8 → Nat → Option AV) (_n : Nat) (s28 : List UInt8) (s28p : Nat) : Option AV :=
  bif (decide (s28p < List.length s28)) then
    bif (decide (s28p < List.length s28)) then
      bif ((decL s28 s28p).1 == (65533 : Int)) then
        ret (0 : Int)
      else
        next s28 (bif (decide (s28p < List.length s28)) then s28p + (decL s28 s28p).2 else s28p)
    else none
  else
    k0
def bytes_IndexAny_l7 (m0 : Int) (ret : Int → Option AV) (k0 : Option AV) : Nat → List UInt8 → Nat → Option AV
  | 0 => fun _ _ => none
  | n + 1 => (bytes_IndexAny_l7_b m0) ret k0 ((bytes_IndexAny_l7 m0) ret k0 n) n
def bytes_IndexAny_k7_0 (m0 : Int) (_n : Nat) : Option AV :=
  bytes_IndexAny_ret (-1 : Int)
def bytes_IndexAny_l24_b (m0 : Int) (ret : Int → Option AV) (k2 : Option AV) (next : List Bool → List UInt8 → Int → Int → Option AV) (_n : Nat) (as7 : List Bool) (s60 : List UInt8) (s61 : Int) (s62 : Int) : Option AV :=
  bif (decide (s62 < s61)) then
    bif ((decide ((0 : Int) ≤ s62)) && (decide (s62 < (List.length s60 : Nat)))) then
      bif (__bytes_asciiSet__contains as7 (List.getD s60 (Int.toNat s62) (0 : UInt8))) then
        ret s62
      else
        next as7 s60 s61 (IntKind.wrap .i64 (s62 + (1 : Int)))
    else none
  else
    k2
def bytes_IndexAny_l24 (m0 : Int) (ret : Int → Option AV) (k2 : Option AV) : Nat → List Bool → List UInt8 → Int → Int → Option AV
  | 0 => fun _ _ _ _ => none
  | n + 1 => (bytes_IndexAny_l24_b m0) ret k2 ((bytes_IndexAny_l24 m0) ret k2 n) n
def bytes_IndexAny_k24_2 (m0 : Int) (_n : Nat) : Option AV :=
  bytes_IndexAny_ret (-1 : Int)
def bytes_IndexAny_l48_b (m0 : Int) (ret : Int → Option AV) (k6 : List UInt8 → List UInt8 → Int → Int → Option AV) (next : List UInt8 → List UInt8 → Int → Int → Int → List UInt8 → Nat → Option AV) (_n : Nat) (s0 : List UInt8) (chars1 : List UInt8) (width11 : Int) (i12 : Int) (r13 : Int) (s121 : List UInt8) (s121p : Nat) : Option AV :=
  bif (decide (s121p < List.length s121)) then
    bif (decide (s121p < List.length s121)) then
      bif (r13 == (decL s121 s121p).1) then
        ret i12
      else
        next s0 chars1 width11 i12 r13 s121 (bif (decide (s121p < List.length s121)) then s121p + (decL s121 s121p).2 else s121p)
    else none
  else
    k6 s0 chars1 width11 i12
def bytes_IndexAny_l48 (m0 : Int) (ret : Int → Option AV) (k6 : List UInt8 → List UInt8 → Int → Int → Option AV) : Nat → List UInt8 → List UInt8 → Int → Int → Int → List UInt8 → Nat → Option AV
  | 0 => fun _ _ _ _ _ _ _ => none
  | n + 1 => (bytes_IndexAny_l48_b m0) ret k6 ((bytes_IndexAny_l48 m0) ret k6 n) n
def bytes_IndexAny_k48_6 (m0 : Int) (_ret : Int → Option AV) (_k4 : Option AV) (next : List UInt8 → List UInt8 → Int → Option AV) (_n : Nat) (s0 : List UInt8) (chars1 : List UInt8) (width11 : Int) (i12 : Int) : Option AV :=
  next s0 chars1 (IntKind.wrap .i64 (i12 + width11))
def bytes_IndexAny_l32_b (m0 : Int) (ret : Int → Option AV) (k4 : Option AV) (next : List UInt8 → List UInt8 → Int → Option AV) (n : Nat) (s0 : List UInt8) (chars1 : List UInt8) (i12 : Int) : Option AV :=
  bif (decide (i12 < ((List.length s0 : Nat) : Int))) then
    bif ((decide ((0 : Int) ≤ i12)) && (decide (i12 < (List.length s0 : Nat)))) then
      bif (decide ((IntKind.wrap .i32 ((UInt8.toNat (List.getD s0 (Int.toNat i12) (0 : UInt8)) : Nat) : Int)) < (128 : Int))) then
        bif ((decide ((0 : Int) ≤ i12)) && (decide (i12 < (List.length s0 : Nat)))) then
          bif (decide ((0 : Int) ≤ (internal_bytealg_IndexByteString chars1 (List.getD s0 (Int.toNat i12) (0 : UInt8))))) then
            ret i12
          else
            next s0 chars1 (IntKind.wrap .i64 (i12 + (1 : Int)))
        else none
      else
        bif (((decide ((0 : Int) ≤ i12)) && (decide (i12 ≤ ((List.length s0 : Nat) : Int)))) && (decide (((List.length s0 : Nat) : Int) ≤ ((List.length s0 : Nat) : Int)))) then
          bif ((unicode_utf8_DecodeRune_ok (List.drop (Int.toNat i12) (List.take (Int.toNat ((List.length s0 : Nat) : Int)) s0))) && true) then
            bif (((unicode_utf8_DecodeRune (List.drop (Int.toNat i12) (List.take (Int.toNat ((List.length s0 : Nat) : Int)) s0))).1) != (65533 : Int)) then
              bif (((List.length chars1 : Nat) : Int) == ((unicode_utf8_DecodeRune (List.drop (Int.toNat i12) (List.take (Int.toNat ((List.length s0 : Nat) : Int)) s0))).2)) then
                bif (chars1 == (Utf8.encode ((unicode_utf8_DecodeRune (List.drop (Int.toNat i12) (List.take (Int.toNat ((List.length s0 : Nat) : Int)) s0))).1)).data.toList) then
                  ret i12
                else
                  next s0 chars1 (IntKind.wrap .i64 (i12 + ((unicode_utf8_DecodeRune (List.drop (Int.toNat i12) (List.take (Int.toNat ((List.length s0 : Nat) : Int)) s0))).2)))
              else
                bif (decide (((unicode_utf8_DecodeRune (List.drop (Int.toNat i12) (List.take (Int.toNat ((List.length s0 : Nat) : Int)) s0))).2) ≤ m0)) then
                  bif ((internal_bytealg_IndexString_ok m0 chars1 (Utf8.encode ((unicode_utf8_DecodeRune (List.drop (Int.toNat i12) (List.take (Int.toNat ((List.length s0 : Nat) : Int)) s0))).1)).data.toList) && true) then
                    bif (decide ((0 : Int) ≤ (internal_bytealg_IndexString chars1 (Utf8.encode ((unicode_utf8_DecodeRune (List.drop (Int.toNat i12) (List.take (Int.toNat ((List.length s0 : Nat) : Int)) s0))).1)).data.toList))) then
                      ret i12
                    else
                      next s0 chars1 (IntKind.wrap .i64 (i12 + ((unicode_utf8_DecodeRune (List.drop (Int.toNat i12) (List.take (Int.toNat ((List.length s0 : Nat) : Int)) s0))).2)))
                  else none
                else
                  (bytes_IndexAny_l48 m0) ret ((bytes_IndexAny_k48_6 m0) ret k4 next n) n s0 chars1 ((unicode_utf8_DecodeRune (List.drop (Int.toNat i12) (List.take (Int.toNat ((List.length s0 : Nat) : Int)) s0))).2) i12 ((unicode_utf8_DecodeRune (List.drop (Int.toNat i12) (List.take (Int.toNat ((List.length s0 : Nat) : Int)) s0))).1) chars1 0
            else
              (bytes_IndexAny_l48 m0) ret ((bytes_IndexAny_k48_6 m0) ret k4 next n) n s0 chars1 ((unicode_utf8_DecodeRune (List.drop (Int.toNat i12) (List.take (Int.toNat ((List.length s0 : Nat) : Int)) s0))).2) i12 ((unicode_utf8_DecodeRune (List.drop (Int.toNat i12) (List.take (Int.toNat ((List.length s0 : Nat) : Int)) s0))).1) chars1 0
          else none
        else none
    else none
  else
    k4
def bytes_IndexAny_l32 (m0 : Int) (ret : Int → Option AV) (k4 : Option AV) : Nat → List UInt8 → List UInt8 → Int → Option AV
  | 0 => fun _ _ _ => none
  | n + 1 => (bytes_IndexAny_l32_b m0) ret k4 ((bytes_IndexAny_l32 m0) ret k4 n) n
def bytes_IndexAny_k32_4 (m0 : Int) (_n : Nat) : Option AV :=
  bytes_IndexAny_ret (-1 : Int)
def bytes_IndexAny_sh (m0 : Int) (n : Nat) (s0 : List UInt8) (chars1 : List UInt8) : Option AV :=
  bif (chars1 == ([] : List UInt8)) then
    bytes_IndexAny_ret (-1 : Int)
  else
    bif (((List.length s0 : Nat) : Int) == (1 : Int)) then
      bif ((decide ((0 : Int) ≤ (0 : Int))) && (decide ((0 : Int) < (List.length s0 : Nat)))) then
        bif (decide ((128 : Int) ≤ (IntKind.wrap .i32 ((UInt8.toNat (List.getD s0 (Int.toNat (0 : Int)) (0 : UInt8)) : Nat) : Int)))) then
          (bytes_IndexAny_l7 m0) bytes_IndexAny_ret ((bytes_IndexAny_k7_0 m0) n) n chars1 0
        else
          bif ((decide ((0 : Int) ≤ (0 : Int))) && (decide ((0 : Int) < (List.length s0 : Nat)))) then
            bif (decide ((0 : Int) ≤ (internal_bytealg_IndexByteString chars1 (List.getD s0 (Int.toNat (0 : Int)) (0 : UInt8))))) then
              bytes_IndexAny_ret (0 : Int)
            else
              bytes_IndexAny_ret (-1 : Int)
          else none
      else none
    else
      bif (((List.length chars1 : Nat) : Int) == (1 : Int)) then
        bif ((decide ((0 : Int) ≤ (0 : Int))) && (decide ((0 : Int) < (List.length chars1 : Nat)))) then
          bif (decide ((128 : Int) ≤ (IntKind.wrap .i32 ((UInt8.toNat (List.getD chars1 (Int.toNat (0 : Int)) (0 : UInt8)) : Nat) : Int)))) then
            bif ((bytes_IndexRune_ok s0 (65533 : Int)) && true) then
              bytes_IndexAny_ret (bytes_IndexRune s0 (65533 : Int))
            else none
          else
            bif ((bytes_IndexRune_ok s0 (IntKind.wrap .i32 ((UInt8.toNat (List.getD chars1 (Int.toNat (0 : Int)) (0 : UInt8)) : Nat) : Int))) && true) then
              bytes_IndexAny_ret (bytes_IndexRune s0 (IntKind.wrap .i32 ((UInt8.toNat (List.getD chars1 (Int.toNat (0 : Int)) (0 : UInt8)) : Nat) : Int)))
            else none
        else none
      else
        bif (bytes_shouldUseASCIISet ((List.length s0 : Nat) : Int)) then
          bif ((bytes_makeASCIISet_ok chars1) && true) then
            bif ((bytes_makeASCIISet chars1).2) then
              (bytes_IndexAny_l24 m0) bytes_IndexAny_ret ((bytes_IndexAny_k24_2 m0) n) n ((bytes_makeASCIISet chars1).1) s0 ((List.length s0 : Nat) : Int) (0 : Int)
            else
              (bytes_IndexAny_l32 m0) bytes_IndexAny_ret ((bytes_IndexAny_k32_4 m0) n) n s0 chars1 (0 : Int)
          else none
        else
          (bytes_IndexAny_l32 m0) bytes_IndexAny_ret ((bytes_IndexAny_k32_4 m0) n) n s0 chars1 (0 : Int)

/-! bytes.trimLeftByte -/

def bytes_trimLeftByte_ret (s4 : List UInt8) : Option AV := some (.dat (.sl .byte) s4 none)
def bytes_trimLeftByte_l1_b (k0 : List UInt8 → Option AV) (next : List UInt8 → UInt8 → Option AV) (_n : Nat) (s0 : List UInt8) (c1 : UInt8) : Option AV :=
  bif (decide ((0 : Int) < ((List.length s0 : Nat) : Int))) then
    bif ((decide ((0 : Int) ≤ (0 : Int))) && (decide ((0 : Int) < (List.length s0 : Nat)))) then
      bif ((List.getD s0 (Int.toNat (0 : Int)) (0 : UInt8)) == c1) then
        bif (((decide ((0 : Int) ≤ (1 : Int))) && (decide ((1 : Int) ≤ ((List.length s0 : Nat) : Int)))) && (decide (((List.length s0 : Nat) : Int) ≤ ((List.length s0 : Nat) : Int)))) then
          next (List.drop (Int.toNat (1 : Int)) (List.take (Int.toNat ((List.length s0 : Nat) : Int)) s0)) c1
        else none
      else
        k0 s0
    else none
  else
    k0 s0
def bytes_trimLeftByte_l1 (k0 : List UInt8 → Option AV) : Nat → List UInt8 → UInt8 → Option AV
  | 0 => fun _ _ => none
  | n + 1 => bytes_trimLeftByte_l1_b k0 (bytes_trimLeftByte_l1 k0 n) n
def bytes_trimLeftByte_k1_0 (_n : Nat) (s0 : List UInt8) : Option AV :=
  bif (((List.length s0 : Nat) : Int) == (0 : Int)) then
    bytes_trimLeftByte_ret ([] : List UInt8)
  else
    bytes_trimLeftByte_ret s0
def bytes_trimLeftByte_sh (n : Nat) (s0 : List UInt8) (c1 : UInt8) : Option AV :=
  bytes_trimLeftByte_l1 (bytes_trimLeftByte_k1_0 n) n s0 c1

/-! bytes.trimRightByte -/

def bytes_trimRightByte_ret (s4 : List UInt8) : Option AV := some (.dat (.sl .byte) s4 none)
def bytes_trimRightByte_l1_b (k0 : List UInt8 → Option AV) (next : List UInt8 → UInt8 → Option AV) (_n : Nat) (s0 : List UInt8) (c1 : UInt8) : Option AV :=
  bif (decide ((0 : Int) < ((List.length s0 : Nat) : Int))) then
    bif ((decide ((0 : Int) ≤ (IntKind.wrap .i64 (((List.length s0 : Nat) : Int) - (1 : Int))))) && (decide ((IntKind.wrap .i64 (((List.length s0 : Nat) : Int) - (1 : Int))) < (List.length s0 : Nat)))) then
      bif ((List.getD s0 (Int.toNat (IntKind.wrap .i64 (((List.length s0 : Nat) : Int) - (1 : Int)))) (0 : UInt8)) == c1) then
        bif (((decide ((0 : Int) ≤ ((0 : Nat) : Int))) && (decide (((0 : Nat) : Int) ≤ (IntKind.wrap .i64 (((List.length s0 : Nat) : Int) - (1 : Int)))))) && (decide ((IntKind.wrap .i64 (((List.length s0 : Nat) : Int) - (1 : Int))) ≤ ((List.length s0 : Nat) : Int)))) then
          next (List.drop (Int.toNat ((0 : Nat) : Int)) (List.take (Int.toNat (IntKind.wrap .i64 (((List.length s0 : Nat) : Int) - (1 : Int)))) s0)) c1
        else none
      else
        k0 s0
    else none
  else
    k0 s0
def bytes_trimRightByte_l1 (k0 : List UInt8 → Option AV) : Nat → List UInt8 → UInt8 → Option AV
  | 0 => fun _ _ => none
  | n + 1 => bytes_trimRightByte_l1_b k0 (bytes_trimRightByte_l1 k0 n) n
def bytes_trimRightByte_k1_0 (_n : Nat) (s0 : List UInt8) : Option AV :=
  bytes_trimRightByte_ret s0
def bytes_trimRightByte_sh (n : Nat) (s0 : List UInt8) (c1 : UInt8) : Option AV :=
  bytes_trimRightByte_l1 (bytes_trimRightByte_k1_0 n) n s0 c1

/-! bytes.trimLeftASCII -/

def bytes_trimLeftASCII_ret (s4 : List UInt8) : Option AV := some (.dat (.sl .byte) s4 none)
def bytes_trimLeftASCII_l1_b (k0 : List UInt8 → Option AV) (next : List UInt8 → List Bool → Option AV) (_n : Nat) (s0 : List UInt8) (as1 : List Bool) : Option AV :=
  bif (decide ((0 : Int) < ((List.length s0 : Nat) : Int))) then
    bif ((decide ((0 : Int) ≤ (0 : Int))) && (decide ((0 : Int) < (List.length s0 : Nat)))) then
      bif (!(__bytes_asciiSet__contains as1 (List.getD s0 (Int.toNat (0 : Int)) (0 : UInt8)))) then
        k0 s0
      else
        bif (((decide ((0 : Int) ≤ (1 : Int))) && (decide ((1 : Int) ≤ ((List.length s0 : Nat) : Int)))) && (decide (((List.length s0 : Nat) : Int) ≤ ((List.length s0 : Nat) : Int)))) then
          next (List.drop (Int.toNat (1 : Int)) (List.take (Int.toNat ((List.length s0 : Nat) : Int)) s0)) as1
        else none
    else none
  else
    k0 s0
def bytes_trimLeftASCII_l1 (k0 : List UInt8 → Option AV) : Nat → List UInt8 → List Bool → Option AV
  | 0 => fun _ _ => none
  | n + 1 => bytes_trimLeftASCII_l1_b k0 (bytes_trimLeftASCII_l1 k0 n) n
def bytes_trimLeftASCII_k1_0 (_n : Nat) (s0 : List UInt8) : Option AV :=
  bif (((List.length s0 : Nat) : Int) == (0 : Int)) then
    bytes_trimLeftASCII_ret ([] : List UInt8)
  else
    bytes_trimLeftASCII_ret s0
def bytes_trimLeftASCII_sh (n : Nat) (s0 : List UInt8) (as1 : List Bool) : Option AV :=
  bytes_trimLeftASCII_l1 (bytes_trimLeftASCII_k1_0 n) n s0 as1

/-! bytes.trimRightASCII -/

def bytes_trimRightASCII_ret (s4 : List UInt8) : Option AV := some (.dat (.sl .byte) s4 none)
def bytes_trimRightASCII_l1_b (k0 : List UInt8 → Option AV) (next : List UInt8 → List Bool → Option AV) (_n : Nat) (s0 : List UInt8) (as1 : List Bool) : Option AV :=
  bif (decide ((0 : Int) < ((List.length s0 : Nat) : Int))) then
    bif ((decide ((0 : Int) ≤ (IntKind.wrap .i64 (((List.length s0 : Nat) : Int) - (1 : Int))))) && (decide ((IntKind.wrap .i64 (((List.length s0 : Nat) : Int) - (1 : Int))) < (List.length s0 : Nat)))) then
      bif (!(__bytes_asciiSet__contains as1 (List.getD s0 (Int.toNat (IntKind.wrap .i64 (((List.length s0 : Nat) : Int) - (1 : Int)))) (0 : UInt8)))) then
        k0 s0
      else
        bif (((decide ((0 : Int) ≤ ((0 : Nat) : Int))) && (decide (((0 : Nat) : Int) ≤ (IntKind.wrap .i64 (((List.length s0 : Nat) : Int) - (1 : Int)))))) && (decide ((IntKind.wrap .i64 (((List.length s0 : Nat) : Int) - (1 : Int))) ≤ ((List.length s0 : Nat) : Int)))) then
          next (List.drop (Int.toNat ((0 : Nat) : Int)) (List.take (Int.toNat (IntKind.wrap .i64 (((List.length s0 : Nat) : Int) - (1 : Int)))) s0)) as1
        else none
    else none
  else
    k0 s0
def bytes_trimRightASCII_l1 (k0 : List UInt8 → Option AV) : Nat → List UInt8 → List Bool → Option AV
  | 0 => fun _ _ => none
  | n + 1 => bytes_trimRightASCII_l1_b k0 (bytes_trimRightASCII_l1 k0 n) n
def bytes_trimRightASCII_k1_0 (_n : Nat) (s0 : List UInt8) : Option AV :=
  bytes_trimRightASCII_ret s0
def bytes_trimRightASCII_sh (n : Nat) (s0 : List UInt8) (as1 : List Bool) : Option AV :=
  bytes_trimRightASCII_l1 (bytes_trimRightASCII_k1_0 n) n s0 as1

/-! bytes.Trim -/

def bytes_Trim_ret (s4 : List UInt8) : Option AV := some (.dat (.sl .byte) s4 none)
def bytes_Trim_sh (_n : Nat) (s0 : List UInt8) (cutset1 : List UInt8) : Option AV :=
  bif (((List.length s0 : Nat) : Int) == (0 : Int)) then
    bytes_Trim_ret ([] : List UInt8)
  else
    bif (cutset1 == ([] : List UInt8)) then
      bytes_Trim_ret s0
    else
      bif (((List.length cutset1 : Nat) : Int) == (1 : Int)) then
        bif ((decide ((0 : Int) ≤ (0 : Int))) && (decide ((0 : Int) < (List.length cutset1 : Nat)))) then
          bif (decide ((List.getD cutset1 (Int.toNat (0 : Int)) (0 : UInt8)) < (128 : UInt8))) then
            bif ((decide ((0 : Int) ≤ (0 : Int))) && (decide ((0 : Int) < (List.length cutset1 : Nat)))) then
              bif ((decide ((0 : Int) ≤ (0 : Int))) && (decide ((0 : Int) < (List.length cutset1 : Nat)))) then
                bif ((bytes_trimRightByte_ok s0 (List.getD cutset1 (Int.toNat (0 : Int)) (0 : UInt8))) && true) then
                  bif ((bytes_trimLeftByte_ok (bytes_trimRightByte s0 (List.getD cutset1 (Int.toNat (0 : Int)) (0 : UInt8))) (List.getD cutset1 (Int.toNat (0 : Int)) (0 : UInt8))) && true) then
                    bytes_Trim_ret (bytes_trimLeftByte (bytes_trimRightByte s0 (List.getD cutset1 (Int.toNat (0 : Int)) (0 : UInt8))) (List.getD cutset1 (Int.toNat (0 : Int)) (0 : UInt8)))
                  else none
                else none
              else none
            else none
          else
            bif ((bytes_makeASCIISet_ok cutset1) && true) then
              bif ((bytes_makeASCIISet cutset1).2) then
                bif ((bytes_trimRightASCII_ok s0 ((bytes_makeASCIISet cutset1).1)) && true) then
                  bif ((bytes_trimLeftASCII_ok (bytes_trimRightASCII s0 ((bytes_makeASCIISet cutset1).1)) ((bytes_makeASCIISet cutset1).1)) && true) then
                    bytes_Trim_ret (bytes_trimLeftASCII (bytes_trimRightASCII s0 ((bytes_makeASCIISet cutset1).1)) ((bytes_makeASCIISet cutset1).1))
                  else none
                else none
              else
                bif ((bytes_trimRightUnicode_ok s0 cutset1) && true) then
                  bif ((bytes_trimLeftUnicode_ok (bytes_trimRightUnicode s0 cutset1) cutset1) && true) then
                    bytes_Trim_ret (bytes_trimLeftUnicode (bytes_trimRightUnicode s0 cutset1) cutset1)
                  else none
                else none
            else none
        else none
      else
        bif ((bytes_makeASCIISet_ok cutset1) && true) then
          bif ((bytes_makeASCIISet cutset1).2) then
            bif ((bytes_trimRightASCII_ok s0 ((bytes_makeASCIISet cutset1).1)) && true) then
              bif ((bytes_trimLeftASCII_ok (bytes_trimRightASCII s0 ((bytes_makeASCIISet cutset1).1)) ((bytes_makeASCIISet cutset1).1)) && true) then
                bytes_Trim_ret (bytes_trimLeftASCII (bytes_trimRightASCII s0 ((bytes_makeASCIISet cutset1).1)) ((bytes_makeASCIISet cutset1).1))
              else none
            else none
          else
            bif ((bytes_trimRightUnicode_ok s0 cutset1) && true) then
              bif ((bytes_trimLeftUnicode_ok (bytes_trimRightUnicode s0 cutset1) cutset1) && true) then
                bytes_Trim_ret (bytes_trimLeftUnicode (bytes_trimRightUnicode s0 cutset1) cutset1)
              else none
            else none
        else none

/-! bytes.TrimLeft -/

def bytes_TrimLeft_ret (s4 : List UInt8) : Option AV := some (.dat (.sl .byte) s4 none)
def bytes_TrimLeft_sh (_n : Nat) (s0 : List UInt8) (cutset1 : List UInt8) : Option AV :=
  bif (((List.length s0 : Nat) : Int) == (0 : Int)) then
    bytes_TrimLeft_ret ([] : List UInt8)
  else
    bif (cutset1 == ([] : List UInt8)) then
      bytes_TrimLeft_ret s0
    else
      bif (((List.length cutset1 : Nat) : Int) == (1 : Int)) then
        bif ((decide ((0 : Int) ≤ (0 : Int))) && (decide ((0 : Int) < (List.length cutset1 : Nat)))) then
          bif (decide ((List.getD cutset1 (Int.toNat (0 : Int)) (0 : UInt8)) < (128 : UInt8))) then
            bif ((decide ((0 : Int) ≤ (0 : Int))) && (decide ((0 : Int) < (List.length cutset1 : Nat)))) then
              bif ((bytes_trimLeftByte_ok s0 (List.getD cutset1 (Int.toNat (0 : Int)) (0 : UInt8))) && true) then
                bytes_TrimLeft_ret (bytes_trimLeftByte s0 (List.getD cutset1 (Int.toNat (0 : Int)) (0 : UInt8)))
              else none
            else none
          else
            bif ((bytes_makeASCIISet_ok cutset1) && true) then
              bif ((bytes_makeASCIISet cutset1).2) then
                bif ((bytes_trimLeftASCII_ok s0 ((bytes_makeASCIISet cutset1).1)) && true) then
                  bytes_TrimLeft_ret (bytes_trimLeftASCII s0 ((bytes_makeASCIISet cutset1).1))
                else none
              else
                bif ((bytes_trimLeftUnicode_ok s0 cutset1) && true) then
                  bytes_TrimLeft_ret (bytes_trimLeftUnicode s0 cutset1)
                else none
            else none
        else none
      else
        bif ((bytes_makeASCIISet_ok cutset1) && true) then
          bif ((bytes_makeASCIISet cutset1).2) then
            bif ((bytes_trimLeftASCII_ok s0 ((bytes_makeASCIISet cutset1).1)) && true) then
              bytes_TrimLeft_ret (bytes_trimLeftASCII s0 ((bytes_makeASCIISet cutset1).1))
            else none
          else
            bif ((bytes_trimLeftUnicode_ok s0 cutset1) && true) then
              bytes_TrimLeft_ret (bytes_trimLeftUnicode s0 cutset1)
            else none
        else none

/-! sheave/sheaveref01.Like -/

def ref01_Like_ret (s4 : Bool) : Option AV := some (.dat .bool s4 none)
def ref01_Like_l4_b (ret : Bool → Option AV) (k0 : Option AV) (next : List UInt8 → List UInt8 → Int → Option AV) (_n : Nat) (a0 : List UInt8) (b1 : List UInt8) (i5 : Int) : Option AV :=
  bif (decide (i5 < ((List.length a0 : Nat) : Int))) then
    bif ((decide ((0 : Int) ≤ i5)) && (decide (i5 < (List.length a0 : Nat)))) then
      bif ((decide ((0 : Int) ≤ i5)) && (decide (i5 < (List.length b1 : Nat)))) then
        bif ((List.getD a0 (Int.toNat i5) (0 : UInt8)) != (List.getD b1 (Int.toNat i5) (0 : UInt8))) then
          ret false
        else
          next a0 b1 (IntKind.wrap .i64 (i5 + (1 : Int)))
      else none
    else none
  else
    k0
def ref01_Like_l4 (ret : Bool → Option AV) (k0 : Option AV) : Nat → List UInt8 → List UInt8 → Int → Option AV
  | 0 => fun _ _ _ => none
  | n + 1 => ref01_Like_l4_b ret k0 (ref01_Like_l4 ret k0 n) n
def ref01_Like_k4_0 (_n : Nat) : Option AV :=
  ref01_Like_ret true
def ref01_Like_sh (n : Nat) (a0 : List UInt8) (b1 : List UInt8) : Option AV :=
  bif (((List.length a0 : Nat) : Int) != ((List.length b1 : Nat) : Int)) then
    ref01_Like_ret false
  else
    ref01_Like_l4 ref01_Like_ret (ref01_Like_k4_0 n) n a0 b1 (0 : Int)

/-! sheave/sheaveref01.has -/

def ref01_has_ret (s4 : Bool) : Option AV := some (.dat .bool s4 none)
def ref01_has_l2_b (ret : Bool → Option AV) (k0 : Option AV) (next : List UInt8 → UInt8 → Int → Option AV) (_n : Nat) (s0 : List UInt8) (c1 : UInt8) (i5 : Int) : Option AV :=
  bif (decide (i5 < ((List.length s0 : Nat) : Int))) then
    bif ((decide ((0 : Int) ≤ i5)) && (decide (i5 < (List.length s0 : Nat)))) then
      bif ((List.getD s0 (Int.toNat i5) (0 : UInt8)) == c1) then
        ret true
      else
        next s0 c1 (IntKind.wrap .i64 (i5 + (1 : Int)))
    else none
  else
    k0
def ref01_has_l2 (ret : Bool → Option AV) (k0 : Option AV) : Nat → List UInt8 → UInt8 → Int → Option AV
  | 0 => fun _ _ _ => none
  | n + 1 => ref01_has_l2_b ret k0 (ref01_has_l2 ret k0 n) n
def ref01_has_k2_0 (_n : Nat) : Option AV :=
  ref01_has_ret false
def ref01_has_sh (n : Nat) (s0 : List UInt8) (c1 : UInt8) : Option AV :=
  ref01_has_l2 ref01_has_ret (ref01_has_k2_0 n) n s0 c1 (0 : Int)

/-! sheave/sheaveref01.Is -/

def ref01_Is_ret (s4 : Bool) : Option AV := some (.dat .bool s4 none)
def ref01_Is_sh (_n : Nat) (c0 : UInt8) (kinds1 : Int) : Option AV :=
  ref01_Is_ret ((bits .and .i64 (ref01_Kinds c0) kinds1) != (0 : Int))

/-! sheave/sheaveref01.Count -/

def ref01_Count_ret (s4 : Int) : Option AV := some (.dat (.int .i64) s4 none)
def ref01_Count_l3_b (k0 : Int → Option AV) (next : List UInt8 → Int → Int → Int → Option AV) (_n : Nat) (s0 : List UInt8) (kinds1 : Int) (n5 : Int) (i6 : Int) : Option AV :=
  bif (decide (i6 < ((List.length s0 : Nat) : Int))) then
    bif ((decide ((0 : Int) ≤ i6)) && (decide (i6 < (List.length s0 : Nat)))) then
      bif (ref01_Is (List.getD s0 (Int.toNat i6) (0 : UInt8)) kinds1) then
        next s0 kinds1 (IntKind.wrap .i64 (n5 + (1 : Int))) (IntKind.wrap .i64 (i6 + (1 : Int)))
      else
        next s0 kinds1 n5 (IntKind.wrap .i64 (i6 + (1 : Int)))
    else none
  else
    k0 n5
def ref01_Count_l3 (k0 : Int → Option AV) : Nat → List UInt8 → Int → Int → Int → Option AV
  | 0 => fun _ _ _ _ => none
  | n + 1 => ref01_Count_l3_b k0 (ref01_Count_l3 k0 n) n
def ref01_Count_k3_0 (_n : Nat) (n5 : Int) : Option AV :=
  ref01_Count_ret n5
def ref01_Count_sh (n : Nat) (s0 : List UInt8) (kinds1 : Int) : Option AV :=
  ref01_Count_l3 (ref01_Count_k3_0 n) n s0 kinds1 (0 : Int) (0 : Int)

/-! sheave/sheaveref01.Lower -/

def ref01_Lower_ret (s2 : UInt8) : Option AV := some (.dat .byte s2 none)
def ref01_Lower_sh (_n : Nat) (c0 : UInt8) : Option AV :=
  bif (decide ((65 : UInt8) ≤ c0)) then
    bif (decide (c0 ≤ (90 : UInt8))) then
      ref01_Lower_ret (c0 + (32 : UInt8))
    else
      ref01_Lower_ret c0
  else
    ref01_Lower_ret c0

/-! bytes.Count -/

def bytes_Count_ret (s4 : Int) : Option AV := some (.dat (.int .i64) s4 none)
def bytes_Count_l6_b (ret : Int → Option AV) (next : List UInt8 → List UInt8 → Int → Option AV) (_n : Nat) (s0 : List UInt8) (sep1 : List UInt8) (n5 : Int) : Option AV :=
  bif ((bytes_Index_ok s0 sep1) && true) then
    bif ((bytes_Index s0 sep1) == (-1 : Int)) then
      ret n5
    else
      bif (((decide ((0 : Int) ≤ (IntKind.wrap .i64 ((bytes_Index s0 sep1) + ((List.length sep1 : Nat) : Int))))) && (decide ((IntKind.wrap .i64 ((bytes_Index s0 sep1) + ((List.length sep1 : Nat) : Int))) ≤ ((List.length s0 : Nat) : Int)))) && (decide (((List.length s0 : Nat) : Int) ≤ ((List.length s0 : Nat) : Int)))) then
        next (List.drop (Int.toNat (IntKind.wrap .i64 ((bytes_Index s0 sep1) + ((List.length sep1 : Nat) : Int)))) (List.take (Int.toNat ((List.length s0 : Nat) : Int)) s0)) sep1 (IntKind.wrap .i64 (n5 + (1 : Int)))
      else none
  else none
def bytes_Count_l6 (ret : Int → Option AV) : Nat → List UInt8 → List UInt8 → Int → Option AV
  | 0 => fun _ _ _ => none
  | n + 1 => bytes_Count_l6_b ret (bytes_Count_l6 ret n) n
def bytes_Count_sh (n : Nat) (s0 : List UInt8) (sep1 : List UInt8) : Option AV :=
  bif (((List.length sep1 : Nat) : Int) == (0 : Int)) then
    bif ((unicode_utf8_RuneCount_ok s0) && true) then
      bytes_Count_ret (IntKind.wrap .i64 ((unicode_utf8_RuneCount s0) + (1 : Int)))
    else none
  else
    bif (((List.length sep1 : Nat) : Int) == (1 : Int)) then
      bif ((decide ((0 : Int) ≤ (0 : Int))) && (decide ((0 : Int) < (List.length sep1 : Nat)))) then
        bytes_Count_ret (internal_bytealg_Count s0 (List.getD sep1 (Int.toNat (0 : Int)) (0 : UInt8)))
      else none
    else
      bytes_Count_l6 bytes_Count_ret n s0 sep1 (0 : Int)

/-! bytes.genSplit -/

def bytes_genSplit_ret (s8 : List (List UInt8)) : Option AV := some (.dat (.sl (.sl .byte)) s8 none)
def bytes_genSplit_l11_b (k0 : List UInt8 → List (List UInt8) → Int → Option AV) (next : List UInt8 → List UInt8 → Int → Int → List (List UInt8) → Int → Option AV) (_n : Nat) (s0 : List UInt8) (sep1 : List UInt8) (sepSave2 : Int) (n3 : Int) (a9 : List (List UInt8)) (i10 : Int) : Option AV :=
  bif (decide (i10 < n3)) then
    bif ((bytes_Index_ok s0 sep1) && true) then
      bif (decide ((bytes_Index s0 sep1) < (0 : Int))) then
        k0 s0 a9 i10
      else
        bif ((((decide ((0 : Int) ≤ ((0 : Nat) : Int))) && (decide (((0 : Nat) : Int) ≤ (IntKind.wrap .i64 ((bytes_Index s0 sep1) + sepSave2))))) && (decide ((IntKind.wrap .i64 ((bytes_Index s0 sep1) + sepSave2)) ≤ (IntKind.wrap .i64 ((bytes_Index s0 sep1) + sepSave2))))) && (decide ((IntKind.wrap .i64 ((bytes_Index s0 sep1) + sepSave2)) ≤ ((List.length s0 : Nat) : Int)))) then
          bif ((decide ((0 : Int) ≤ i10)) && (decide (i10 < (List.length a9 : Nat)))) then
            bif (((decide ((0 : Int) ≤ (IntKind.wrap .i64 ((bytes_Index s0 sep1) + ((List.length sep1 : Nat) : Int))))) && (decide ((IntKind.wrap .i64 ((bytes_Index s0 sep1) + ((List.length sep1 : Nat) : Int))) ≤ ((List.length s0 : Nat) : Int)))) && (decide (((List.length s0 : Nat) : Int) ≤ ((List.length s0 : Nat) : Int)))) then
              next (List.drop (Int.toNat (IntKind.wrap .i64 ((bytes_Index s0 sep1) + ((List.length sep1 : Nat) : Int)))) (List.take (Int.toNat ((List.length s0 : Nat) : Int)) s0)) sep1 sepSave2 n3 (List.set a9 (Int.toNat i10) (List.drop (Int.toNat ((0 : Nat) : Int)) (List.take (Int.toNat (IntKind.wrap .i64 ((bytes_Index s0 sep1) + sepSave2))) s0))) (IntKind.wrap .i64 (i10 + (1 : Int)))
            else none
          else none
        else none
    else none
  else
    k0 s0 a9 i10
def bytes_genSplit_l11 (k0 : List UInt8 → List (List UInt8) → Int → Option AV) : Nat → List UInt8 → List UInt8 → Int → Int → List (List UInt8) → Int → Option AV
  | 0 => fun _ _ _ _ _ _ => none
  | n + 1 => bytes_genSplit_l11_b k0 (bytes_genSplit_l11 k0 n) n
def bytes_genSplit_k11_0 (_n : Nat) (s0 : List UInt8) (a9 : List (List UInt8)) (i10 : Int) : Option AV :=
  bif ((decide ((0 : Int) ≤ i10)) && (decide (i10 < (List.length a9 : Nat)))) then
    bif (((decide ((0 : Int) ≤ ((0 : Nat) : Int))) && (decide (((0 : Nat) : Int) ≤ (IntKind.wrap .i64 (i10 + (1 : Int)))))) && (decide ((IntKind.wrap .i64 (i10 + (1 : Int))) ≤ ((List.length (List.set a9 (Int.toNat i10) s0) : Nat) : Int)))) then
      bytes_genSplit_ret (List.drop (Int.toNat ((0 : Nat) : Int)) (List.take (Int.toNat (IntKind.wrap .i64 (i10 + (1 : Int)))) (List.set a9 (Int.toNat i10) s0)))
    else none
  else none
def bytes_genSplit_sh (n : Nat) (s0 : List UInt8) (sep1 : List UInt8) (sepSave2 : Int) (n3 : Int) : Option AV :=
  bif (n3 == (0 : Int)) then
    bytes_genSplit_ret ([] : List (List UInt8))
  else
    bif (((List.length sep1 : Nat) : Int) == (0 : Int)) then
      bif ((bytes_explode_ok s0 n3) && true) then
        bytes_genSplit_ret (bytes_explode s0 n3)
      else none
    else
      bif (decide (n3 < (0 : Int))) then
        bif ((bytes_Count_ok s0 sep1) && true) then
          bif (((decide ((0 : Int) ≤ (bif (decide ((IntKind.wrap .i64 (((List.length s0 : Nat) : Int) + (1 : Int))) < (IntKind.wrap .i64 ((bytes_Count s0 sep1) + (1 : Int))))) then (IntKind.wrap .i64 (((List.length s0 : Nat) : Int) + (1 : Int))) else (IntKind.wrap .i64 ((bytes_Count s0 sep1) + (1 : Int)))))) && (decide ((bif (decide ((IntKind.wrap .i64 (((List.length s0 : Nat) : Int) + (1 : Int))) < (IntKind.wrap .i64 ((bytes_Count s0 sep1) + (1 : Int))))) then (IntKind.wrap .i64 (((List.length s0 : Nat) : Int) + (1 : Int))) else (IntKind.wrap .i64 ((bytes_Count s0 sep1) + (1 : Int)))) ≤ (bif (decide ((IntKind.wrap .i64 (((List.length s0 : Nat) : Int) + (1 : Int))) < (IntKind.wrap .i64 ((bytes_Count s0 sep1) + (1 : Int))))) then (IntKind.wrap .i64 (((List.length s0 : Nat) : Int) + (1 : Int))) else (IntKind.wrap .i64 ((bytes_Count s0 sep1) + (1 : Int))))))) && (decide ((bif (decide ((IntKind.wrap .i64 (((List.length s0 : Nat) : Int) + (1 : Int))) < (IntKind.wrap .i64 ((bytes_Count s0 sep1) + (1 : Int))))) then (IntKind.wrap .i64 (((List.length s0 : Nat) : Int) + (1 : Int))) else (IntKind.wrap .i64 ((bytes_Count s0 sep1) + (1 : Int)))) ≤ (room : Int)))) then
            bytes_genSplit_l11 (bytes_genSplit_k11_0 n) n s0 sep1 sepSave2 (IntKind.wrap .i64 ((bif (decide ((IntKind.wrap .i64 (((List.length s0 : Nat) : Int) + (1 : Int))) < (IntKind.wrap .i64 ((bytes_Count s0 sep1) + (1 : Int))))) then (IntKind.wrap .i64 (((List.length s0 : Nat) : Int) + (1 : Int))) else (IntKind.wrap .i64 ((bytes_Count s0 sep1) + (1 : Int)))) - (1 : Int))) (List.replicate (Int.toNat (bif (decide ((IntKind.wrap .i64 (((List.length s0 : Nat) : Int) + (1 : Int))) < (IntKind.wrap .i64 ((bytes_Count s0 sep1) + (1 : Int))))) then (IntKind.wrap .i64 (((List.length s0 : Nat) : Int) + (1 : Int))) else (IntKind.wrap .i64 ((bytes_Count s0 sep1) + (1 : Int))))) ([] : List UInt8)) (0 : Int)
          else none
        else none
      else
        bif (((decide ((0 : Int) ≤ (bif (decide ((IntKind.wrap .i64 (((List.length s0 : Nat) : Int) + (1 : Int))) < n3)) then (IntKind.wrap .i64 (((List.length s0 : Nat) : Int) + (1 : Int))) else n3))) && (decide ((bif (decide ((IntKind.wrap .i64 (((List.length s0 : Nat) : Int) + (1 : Int))) < n3)) then (IntKind.wrap .i64 (((List.length s0 : Nat) : Int) + (1 : Int))) else n3) ≤ (bif (decide ((IntKind.wrap .i64 (((List.length s0 : Nat) : Int) + (1 : Int))) < n3)) then (IntKind.wrap .i64 (((List.length s0 : Nat) : Int) + (1 : Int))) else n3)))) && (decide ((bif (decide ((IntKind.wrap .i64 (((List.length s0 : Nat) : Int) + (1 : Int))) < n3)) then (IntKind.wrap .i64 (((List.length s0 : Nat) : Int) + (1 : Int))) else n3) ≤ (room : Int)))) then
          bytes_genSplit_l11 (bytes_genSplit_k11_0 n) n s0 sep1 sepSave2 (IntKind.wrap .i64 ((bif (decide ((IntKind.wrap .i64 (((List.length s0 : Nat) : Int) + (1 : Int))) < n3)) then (IntKind.wrap .i64 (((List.length s0 : Nat) : Int) + (1 : Int))) else n3) - (1 : Int))) (List.replicate (Int.toNat (bif (decide ((IntKind.wrap .i64 (((List.length s0 : Nat) : Int) + (1 : Int))) < n3)) then (IntKind.wrap .i64 (((List.length s0 : Nat) : Int) + (1 : Int))) else n3)) ([] : List UInt8)) (0 : Int)
        else none

/-! bytes.Split -/

def bytes_Split_ret (s4 : List (List UInt8)) : Option AV := some (.dat (.sl (.sl .byte)) s4 none)
def bytes_Split_sh (_n : Nat) (s0 : List UInt8) (sep1 : List UInt8) : Option AV :=
  bif ((bytes_genSplit_ok s0 sep1 (0 : Int) (-1 : Int)) && true) then
    bytes_Split_ret (bytes_genSplit s0 sep1 (0 : Int) (-1 : Int))
  else none

/-! sheave/ewform.code -/

def ewform_code_ret (s2 : Int) : Option AV := some (.dat (.int .i64) s2 none)
def ewform_code_sh (_n : Nat) (s0 : List UInt8) : Option AV :=
  bif ((octet_Fold_ok s0) && true) then
    bif ((octet_Fold s0) == ([98] : List UInt8)) then
      ewform_code_ret (1 : Int)
    else
      bif ((octet_Fold s0) == ([113] : List UInt8)) then
        ewform_code_ret (2 : Int)
      else
        ewform_code_ret (0 : Int)
  else none

/-! sheave/ewform.full -/

def ewform_full_ret (s4 : Bool) : Option AV := some (.dat .bool s4 none)
def ewform_full_sh (_n : Nat) (s0 : List UInt8) (kinds1 : Int) : Option AV :=
  bif (decide ((0 : Int) < ((List.length s0 : Nat) : Int))) then
    bif ((octet_All_ok s0 kinds1) && true) then
      ewform_full_ret (octet_All s0 kinds1)
    else none
  else
    ewform_full_ret false

/-! sheave/ewform.Parse -/

def ewform_Parse_ret (s2 : (List UInt8) × (Int × ((List UInt8) × Unit))) (s3 : Int) : Option AV := some (.tup [(.dat (.pair (.sl .byte) (.pair (.int .i64) (.pair (.sl .byte) .unit))) s2 none), (.dat (.int .i64) s3 none)])
def ewform_Parse_sh (_n : Nat) (s0 : List UInt8) : Option AV :=
  bif ((bytes_Split_ok s0 ([(63 : UInt8)] : List UInt8)) && true) then
    bif (((List.length (bytes_Split s0 ([(63 : UInt8)] : List UInt8)) : Nat) : Int) != (5 : Int)) then
      ewform_Parse_ret (([] : List UInt8), ((0 : Int), (([] : List UInt8), ()))) (3 : Int)
    else
      bif ((decide ((0 : Int) ≤ (0 : Int))) && (decide ((0 : Int) < (List.length (bytes_Split s0 ([(63 : UInt8)] : List UInt8)) : Nat)))) then
        bif ((List.getD (bytes_Split s0 ([(63 : UInt8)] : List UInt8)) (Int.toNat (0 : Int)) ([] : List UInt8)) != ([61] : List UInt8)) then
          ewform_Parse_ret (([] : List UInt8), ((0 : Int), (([] : List UInt8), ()))) (3 : Int)
        else
          bif ((decide ((0 : Int) ≤ (4 : Int))) && (decide ((4 : Int) < (List.length (bytes_Split s0 ([(63 : UInt8)] : List UInt8)) : Nat)))) then
            bif ((List.getD (bytes_Split s0 ([(63 : UInt8)] : List UInt8)) (Int.toNat (4 : Int)) ([] : List UInt8)) != ([61] : List UInt8)) then
              ewform_Parse_ret (([] : List UInt8), ((0 : Int), (([] : List UInt8), ()))) (3 : Int)
            else
              bif ((decide ((0 : Int) ≤ (1 : Int))) && (decide ((1 : Int) < (List.length (bytes_Split s0 ([(63 : UInt8)] : List UInt8)) : Nat)))) then
                bif ((decide ((0 : Int) ≤ (2 : Int))) && (decide ((2 : Int) < (List.length (bytes_Split s0 ([(63 : UInt8)] : List UInt8)) : Nat)))) then
                  bif ((decide ((0 : Int) ≤ (3 : Int))) && (decide ((3 : Int) < (List.length (bytes_Split s0 ([(63 : UInt8)] : List UInt8)) : Nat)))) then
                    both (
                    bif ((bytes_Clone_ok (List.getD (bytes_Split s0 ([(63 : UInt8)] : List UInt8)) (Int.toNat (1 : Int)) ([] : List UInt8))) && true) then
                      both (
                      bif ((ewform_code_ok (List.getD (bytes_Split s0 ([(63 : UInt8)] : List UInt8)) (Int.toNat (2 : Int)) ([] : List UInt8))) && true) then
                        both (
                        bif ((bytes_Clone_ok (List.getD (bytes_Split s0 ([(63 : UInt8)] : List UInt8)) (Int.toNat (3 : Int)) ([] : List UInt8))) && true) then
                          both (
                          bif (((bytes_Clone (List.getD (bytes_Split s0 ([(63 : UInt8)] : List UInt8)) (Int.toNat (1 : Int)) ([] : List UInt8))), ((ewform_code (List.getD (bytes_Split s0 ([(63 : UInt8)] : List UInt8)) (Int.toNat (2 : Int)) ([] : List UInt8))), ((bytes_Clone (List.getD (bytes_Split s0 ([(63 : UInt8)] : List UInt8)) (Int.toNat (3 : Int)) ([] : List UInt8))), ()))).2.1 == (0 : Int)) then
                            ewform_Parse_ret (([] : List UInt8), ((0 : Int), (([] : List UInt8), ()))) (3 : Int)
                          else
                            bif ((ewform_full_ok ((bytes_Clone (List.getD (bytes_Split s0 ([(63 : UInt8)] : List UInt8)) (Int.toNat (1 : Int)) ([] : List UInt8))), ((ewform_code (List.getD (bytes_Split s0 ([(63 : UInt8)] : List UInt8)) (Int.toNat (2 : Int)) ([] : List UInt8))), ((bytes_Clone (List.getD (bytes_Split s0 ([(63 : UInt8)] : List UInt8)) (Int.toNat (3 : Int)) ([] : List UInt8))), ()))).1 (64 : Int)) && true) then
                              bif (!(ewform_full ((bytes_Clone (List.getD (bytes_Split s0 ([(63 : UInt8)] : List UInt8)) (Int.toNat (1 : Int)) ([] : List UInt8))), ((ewform_code (List.getD (bytes_Split s0 ([(63 : UInt8)] : List UInt8)) (Int.toNat (2 : Int)) ([] : List UInt8))), ((bytes_Clone (List.getD (bytes_Split s0 ([(63 : UInt8)] : List UInt8)) (Int.toNat (3 : Int)) ([] : List UInt8))), ()))).1 (64 : Int))) then
                                ewform_Parse_ret (([] : List UInt8), ((0 : Int), (([] : List UInt8), ()))) (3 : Int)
                              else
                                bif ((ewform_full_ok ((bytes_Clone (List.getD (bytes_Split s0 ([(63 : UInt8)] : List UInt8)) (Int.toNat (1 : Int)) ([] : List UInt8))), ((ewform_code (List.getD (bytes_Split s0 ([(63 : UInt8)] : List UInt8)) (Int.toNat (2 : Int)) ([] : List UInt8))), ((bytes_Clone (List.getD (bytes_Split s0 ([(63 : UInt8)] : List UInt8)) (Int.toNat (3 : Int)) ([] : List UInt8))), ()))).2.2.1 (4 : Int)) && true) then
                                  bif (!(ewform_full ((bytes_Clone (List.getD (bytes_Split s0 ([(63 : UInt8)] : List UInt8)) (Int.toNat (1 : Int)) ([] : List UInt8))), ((ewform_code (List.getD (bytes_Split s0 ([(63 : UInt8)] : List UInt8)) (Int.toNat (2 : Int)) ([] : List UInt8))), ((bytes_Clone (List.getD (bytes_Split s0 ([(63 : UInt8)] : List UInt8)) (Int.toNat (3 : Int)) ([] : List UInt8))), ()))).2.2.1 (4 : Int))) then
                                    ewform_Parse_ret (([] : List UInt8), ((0 : Int), (([] : List UInt8), ()))) (3 : Int)
                                  else
                                    bif (decide ((75 : Int) < ((List.length s0 : Nat) : Int))) then
                                      ewform_Parse_ret (([] : List UInt8), ((0 : Int), (([] : List UInt8), ()))) (12 : Int)
                                    else
                                      ewform_Parse_ret ((bytes_Clone (List.getD (bytes_Split s0 ([(63 : UInt8)] : List UInt8)) (Int.toNat (1 : Int)) ([] : List UInt8))), ((ewform_code (List.getD (bytes_Split s0 ([(63 : UInt8)] : List UInt8)) (Int.toNat (2 : Int)) ([] : List UInt8))), ((bytes_Clone (List.getD (bytes_Split s0 ([(63 : UInt8)] : List UInt8)) (Int.toNat (3 : Int)) ([] : List UInt8))), ()))) (0 : Int)
                                else none
                            else none) (
                          bif (((bytes_Clone (List.getD (bytes_Split s0 ([(63 : UInt8)] : List UInt8)) (Int.toNat (1 : Int)) ([] : List UInt8))), ((ewform_code (List.getD (bytes_Split s0 ([(63 : UInt8)] : List UInt8)) (Int.toNat (2 : Int)) ([] : List UInt8))), ((bytes_Clone (List.getD (bytes_Split s0 ([(63 : UInt8)] : List UInt8)) (Int.toNat (3 : Int)) ([] : List UInt8))), ()))).2.1 == (0 : Int)) then
                            ewform_Parse_ret (([] : List UInt8), ((0 : Int), (([] : List UInt8), ()))) (3 : Int)
                          else
                            bif ((ewform_full_ok ((bytes_Clone (List.getD (bytes_Split s0 ([(63 : UInt8)] : List UInt8)) (Int.toNat (1 : Int)) ([] : List UInt8))), ((ewform_code (List.getD (bytes_Split s0 ([(63 : UInt8)] : List UInt8)) (Int.toNat (2 : Int)) ([] : List UInt8))), ((bytes_Clone (List.getD (bytes_Split s0 ([(63 : UInt8)] : List UInt8)) (Int.toNat (3 : Int)) ([] : List UInt8))), ()))).1 (64 : Int)) && true) then
                              bif (!(ewform_full ((bytes_Clone (List.getD (bytes_Split s0 ([(63 : UInt8)] : List UInt8)) (Int.toNat (1 : Int)) ([] : List UInt8))), ((ewform_code (List.getD (bytes_Split s0 ([(63 : UInt8)] : List UInt8)) (Int.toNat (2 : Int)) ([] : List UInt8))), ((bytes_Clone (List.getD (bytes_Split s0 ([(63 : UInt8)] : List UInt8)) (Int.toNat (3 : Int)) ([] : List UInt8))), ()))).1 (64 : Int))) then
                                ewform_Parse_ret (([] : List UInt8), ((0 : Int), (([] : List UInt8), ()))) (3 : Int)
                              else
                                bif ((ewform_full_ok ((bytes_Clone (List.getD (bytes_Split s0 ([(63 : UInt8)] : List UInt8)) (Int.toNat (1 : Int)) ([] : List UInt8))), ((ewform_code (List.getD (bytes_Split s0 ([(63 : UInt8)] : List UInt8)) (Int.toNat (2 : Int)) ([] : List UInt8))), ((bytes_Clone (List.getD (bytes_Split s0 ([(63 : UInt8)] : List UInt8)) (Int.toNat (3 : Int)) ([] : List UInt8))), ()))).2.2.1 (4 : Int)) && true) then
                                  bif (!(ewform_full ((bytes_Clone (List.getD (bytes_Split s0 ([(63 : UInt8)] : List UInt8)) (Int.toNat (1 : Int)) ([] : List UInt8))), ((ewform_code (List.getD (bytes_Split s0 ([(63 : UInt8)] : List UInt8)) (Int.toNat (2 : Int)) ([] : List UInt8))), ((bytes_Clone (List.getD (bytes_Split s0 ([(63 : UInt8)] : List UInt8)) (Int.toNat (3 : Int)) ([] : List UInt8))), ()))).2.2.1 (4 : Int))) then
                                    ewform_Parse_ret (([] : List UInt8), ((0 : Int), (([] : List UInt8), ()))) (3 : Int)
                                  else
                                    bif (decide ((75 : Int) < ((List.length s0 : Nat) : Int))) then
                                      ewform_Parse_ret (([] : List UInt8), ((0 : Int), (([] : List UInt8), ()))) (12 : Int)
                                    else
                                      ewform_Parse_ret ((bytes_Clone (List.getD (bytes_Split s0 ([(63 : UInt8)] : List UInt8)) (Int.toNat (1 : Int)) ([] : List UInt8))), ((ewform_code (List.getD (bytes_Split s0 ([(63 : UInt8)] : List UInt8)) (Int.toNat (2 : Int)) ([] : List UInt8))), ((bytes_Clone (List.getD (bytes_Split s0 ([(63 : UInt8)] : List UInt8)) (Int.toNat (3 : Int)) ([] : List UInt8))), ()))) (0 : Int)
                                else none
                            else none)
                        else none) (
                        bif ((bytes_Clone_ok (List.getD (bytes_Split s0 ([(63 : UInt8)] : List UInt8)) (Int.toNat (3 : Int)) ([] : List UInt8))) && true) then
                          bif (((bytes_Clone (List.getD (bytes_Split s0 ([(63 : UInt8)] : List UInt8)) (Int.toNat (1 : Int)) ([] : List UInt8))), ((ewform_code (List.getD (bytes_Split s0 ([(63 : UInt8)] : List UInt8)) (Int.toNat (2 : Int)) ([] : List UInt8))), ((bytes_Clone (List.getD (bytes_Split s0 ([(63 : UInt8)] : List UInt8)) (Int.toNat (3 : Int)) ([] : List UInt8))), ()))).2.1 == (0 : Int)) then
                            ewform_Parse_ret (([] : List UInt8), ((0 : Int), (([] : List UInt8), ()))) (3 : Int)
                          else
                            bif ((ewform_full_ok ((bytes_Clone (List.getD (bytes_Split s0 ([(63 : UInt8)] : List UInt8)) (Int.toNat (1 : Int)) ([] : List UInt8))), ((ewform_code (List.getD (bytes_Split s0 ([(63 : UInt8)] : List UInt8)) (Int.toNat (2 : Int)) ([] : List UInt8))), ((bytes_Clone (List.getD (bytes_Split s0 ([(63 : UInt8)] : List UInt8)) (Int.toNat (3 : Int)) ([] : List UInt8))), ()))).1 (64 : Int)) && true) then
                              bif (!(ewform_full ((bytes_Clone (List.getD (bytes_Split s0 ([(63 : UInt8)] : List UInt8)) (Int.toNat (1 : Int)) ([] : List UInt8))), ((ewform_code (List.getD (bytes_Split s0 ([(63 : UInt8)] : List UInt8)) (Int.toNat (2 : Int)) ([] : List UInt8))), ((bytes_Clone (List.getD (bytes_Split s0 ([(63 : UInt8)] : List UInt8)) (Int.toNat (3 : Int)) ([] : List UInt8))), ()))).1 (64 : Int))) then
                                ewform_Parse_ret (([] : List UInt8), ((0 : Int), (([] : List UInt8), ()))) (3 : Int)
                              else
                                bif ((ewform_full_ok ((bytes_Clone (List.getD (bytes_Split s0 ([(63 : UInt8)] : List UInt8)) (Int.toNat (1 : Int)) ([] : List UInt8))), ((ewform_code (List.getD (bytes_Split s0 ([(63 : UInt8)] : List UInt8)) (Int.toNat (2 : Int)) ([] : List UInt8))), ((bytes_Clone (List.getD (bytes_Split s0 ([(63 : UInt8)] : List UInt8)) (Int.toNat (3 : Int)) ([] : List UInt8))), ()))).2.2.1 (4 : Int)) && true) then
                                  bif (!(ewform_full ((bytes_Clone (List.getD (bytes_Split s0 ([(63 : UInt8)] : List UInt8)) (Int.toNat (1 : Int)) ([] : List UInt8))), ((ewform_code (List.getD (bytes_Split s0 ([(63 : UInt8)] : List UInt8)) (Int.toNat (2 : Int)) ([] : List UInt8))), ((bytes_Clone (List.getD (bytes_Split s0 ([(63 : UInt8)] : List UInt8)) (Int.toNat (3 : Int)) ([] : List UInt8))), ()))).2.2.1 (4 : Int))) then
                                    ewform_Parse_ret (([] : List UInt8), ((0 : Int), (([] : List UInt8), ()))) (3 : Int)
                                  else
                                    bif (decide ((75 : Int) < ((List.length s0 : Nat) : Int))) then
                                      ewform_Parse_ret (([] : List UInt8), ((0 : Int), (([] : List UInt8), ()))) (12 : Int)
                                    else
                                      ewform_Parse_ret ((bytes_Clone (List.getD (bytes_Split s0 ([(63 : UInt8)] : List UInt8)) (Int.toNat (1 : Int)) ([] : List UInt8))), ((ewform_code (List.getD (bytes_Split s0 ([(63 : UInt8)] : List UInt8)) (Int.toNat (2 : Int)) ([] : List UInt8))), ((bytes_Clone (List.getD (bytes_Split s0 ([(63 : UInt8)] : List UInt8)) (Int.toNat (3 : Int)) ([] : List UInt8))), ()))) (0 : Int)
                                else none
                            else none
                        else none)
                      else none) (
                      bif ((ewform_code_ok (List.getD (bytes_Split s0 ([(63 : UInt8)] : List UInt8)) (Int.toNat (2 : Int)) ([] : List UInt8))) && true) then
                        bif ((bytes_Clone_ok (List.getD (bytes_Split s0 ([(63 : UInt8)] : List UInt8)) (Int.toNat (3 : Int)) ([] : List UInt8))) && true) then
                          bif (((bytes_Clone (List.getD (bytes_Split s0 ([(63 : UInt8)] : List UInt8)) (Int.toNat (1 : Int)) ([] : List UInt8))), ((ewform_code (List.getD (bytes_Split s0 ([(63 : UInt8)] : List UInt8)) (Int.toNat (2 : Int)) ([] : List UInt8))), ((bytes_Clone (List.getD (bytes_Split s0 ([(63 : UInt8)] : List UInt8)) (Int.toNat (3 : Int)) ([] : List UInt8))), ()))).2.1 == (0 : Int)) then
                            ewform_Parse_ret (([] : List UInt8), ((0 : Int), (([] : List UInt8), ()))) (3 : Int)
                          else
                            bif ((ewform_full_ok ((bytes_Clone (List.getD (bytes_Split s0 ([(63 : UInt8)] : List UInt8)) (Int.toNat (1 : Int)) ([] : List UInt8))), ((ewform_code (List.getD (bytes_Split s0 ([(63 : UInt8)] : List UInt8)) (Int.toNat (2 : Int)) ([] : List UInt8))), ((bytes_Clone (List.getD (bytes_Split s0 ([(63 : UInt8)] : List UInt8)) (Int.toNat (3 : Int)) ([] : List UInt8))), ()))).1 (64 : Int)) && true) then
                              bif (!(ewform_full ((bytes_Clone (List.getD (bytes_Split s0 ([(63 : UInt8)] : List UInt8)) (Int.toNat (1 : Int)) ([] : List UInt8))), ((ewform_code (List.getD (bytes_Split s0 ([(63 : UInt8)] : List UInt8)) (Int.toNat (2 : Int)) ([] : List UInt8))), ((bytes_Clone (List.getD (bytes_Split s0 ([(63 : UInt8)] : List UInt8)) (Int.toNat (3 : Int)) ([] : List UInt8))), ()))).1 (64 : Int))) then
                                ewform_Parse_ret (([] : List UInt8), ((0 : Int), (([] : List UInt8), ()))) (3 : Int)
                              else
                                bif ((ewform_full_ok ((bytes_Clone (List.getD (bytes_Split s0 ([(63 : UInt8)] : List UInt8)) (Int.toNat (1 : Int)) ([] : List UInt8))), ((ewform_code (List.getD (bytes_Split s0 ([(63 : UInt8)] : List UInt8)) (Int.toNat (2 : Int)) ([] : List UInt8))), ((bytes_Clone (List.getD (bytes_Split s0 ([(63 : UInt8)] : List UInt8)) (Int.toNat (3 : Int)) ([] : List UInt8))), ()))).2.2.1 (4 : Int)) && true) then
                                  bif (!(ewform_full ((bytes_Clone (List.getD (bytes_Split s0 ([(63 : UInt8)] : List UInt8)) (Int.toNat (1 : Int)) ([] : List UInt8))), ((ewform_code (List.getD (bytes_Split s0 ([(63 : UInt8)] : List UInt8)) (Int.toNat (2 : Int)) ([] : List UInt8))), ((bytes_Clone (List.getD (bytes_Split s0 ([(63 : UInt8)] : List UInt8)) (Int.toNat (3 : Int)) ([] : List UInt8))), ()))).2.2.1 (4 : Int))) then
                                    ewform_Parse_ret (([] : List UInt8), ((0 : Int), (([] : List UInt8), ()))) (3 : Int)
                                  else
                                    bif (decide ((75 : Int) < ((List.length s0 : Nat) : Int))) then
                                      ewform_Parse_ret (([] : List UInt8), ((0 : Int), (([] : List UInt8), ()))) (12 : Int)
                                    else
                                      ewform_Parse_ret ((bytes_Clone (List.getD (bytes_Split s0 ([(63 : UInt8)] : List UInt8)) (Int.toNat (1 : Int)) ([] : List UInt8))), ((ewform_code (List.getD (bytes_Split s0 ([(63 : UInt8)] : List UInt8)) (Int.toNat (2 : Int)) ([] : List UInt8))), ((bytes_Clone (List.getD (bytes_Split s0 ([(63 : UInt8)] : List UInt8)) (Int.toNat (3 : Int)) ([] : List UInt8))), ()))) (0 : Int)
                                else none
                            else none
                        else none
                      else none)
                    else none) (
                    bif ((bytes_Clone_ok (List.getD (bytes_Split s0 ([(63 : UInt8)] : List UInt8)) (Int.toNat (1 : Int)) ([] : List UInt8))) && true) then
                      bif ((ewform_code_ok (List.getD (bytes_Split s0 ([(63 : UInt8)] : List UInt8)) (Int.toNat (2 : Int)) ([] : List UInt8))) && true) then
                        bif ((bytes_Clone_ok (List.getD (bytes_Split s0 ([(63 : UInt8)] : List UInt8)) (Int.toNat (3 : Int)) ([] : List UInt8))) && true) then
                          bif (((bytes_Clone (List.getD (bytes_Split s0 ([(63 : UInt8)] : List UInt8)) (Int.toNat (1 : Int)) ([] : List UInt8))), ((ewform_code (List.getD (bytes_Split s0 ([(63 : UInt8)] : List UInt8)) (Int.toNat (2 : Int)) ([] : List UInt8))), ((bytes_Clone (List.getD (bytes_Split s0 ([(63 : UInt8)] : List UInt8)) (Int.toNat (3 : Int)) ([] : List UInt8))), ()))).2.1 == (0 : Int)) then
                            ewform_Parse_ret (([] : List UInt8), ((0 : Int), (([] : List UInt8), ()))) (3 : Int)
                          else
                            bif ((ewform_full_ok ((bytes_Clone (List.getD (bytes_Split s0 ([(63 : UInt8)] : List UInt8)) (Int.toNat (1 : Int)) ([] : List UInt8))), ((ewform_code (List.getD (bytes_Split s0 ([(63 : UInt8)] : List UInt8)) (Int.toNat (2 : Int)) ([] : List UInt8))), ((bytes_Clone (List.getD (bytes_Split s0 ([(63 : UInt8)] : List UInt8)) (Int.toNat (3 : Int)) ([] : List UInt8))), ()))).1 (64 : Int)) && true) then
                              bif (!(ewform_full ((bytes_Clone (List.getD (bytes_Split s0 ([(63 : UInt8)] : List UInt8)) (Int.toNat (1 : Int)) ([] : List UInt8))), ((ewform_code (List.getD (bytes_Split s0 ([(63 : UInt8)] : List UInt8)) (Int.toNat (2 : Int)) ([] : List UInt8))), ((bytes_Clone (List.getD (bytes_Split s0 ([(63 : UInt8)] : List UInt8)) (Int.toNat (3 : Int)) ([] : List UInt8))), ()))).1 (64 : Int))) then
                                ewform_Parse_ret (([] : List UInt8), ((0 : Int), (([] : List UInt8), ()))) (3 : Int)
                              else
                                bif ((ewform_full_ok ((bytes_Clone (List.getD (bytes_Split s0 ([(63 : UInt8)] : List UInt8)) (Int.toNat (1 : Int)) ([] : List UInt8))), ((ewform_code (List.getD (bytes_Split s0 ([(63 : UInt8)] : List UInt8)) (Int.toNat (2 : Int)) ([] : List UInt8))), ((bytes_Clone (List.getD (bytes_Split s0 ([(63 : UInt8)] : List UInt8)) (Int.toNat (3 : Int)) ([] : List UInt8))), ()))).2.2.1 (4 : Int)) && true) then
                                  bif (!(ewform_full ((bytes_Clone (List.getD (bytes_Split s0 ([(63 : UInt8)] : List UInt8)) (Int.toNat (1 : Int)) ([] : List UInt8))), ((ewform_code (List.getD (bytes_Split s0 ([(63 : UInt8)] : List UInt8)) (Int.toNat (2 : Int)) ([] : List UInt8))), ((bytes_Clone (List.getD (bytes_Split s0 ([(63 : UInt8)] : List UInt8)) (Int.toNat (3 : Int)) ([] : List UInt8))), ()))).2.2.1 (4 : Int))) then
                                    ewform_Parse_ret (([] : List UInt8), ((0 : Int), (([] : List UInt8), ()))) (3 : Int)
                                  else
                                    bif (decide ((75 : Int) < ((List.length s0 : Nat) : Int))) then
                                      ewform_Parse_ret (([] : List UInt8), ((0 : Int), (([] : List UInt8), ()))) (12 : Int)
                                    else
                                      ewform_Parse_ret ((bytes_Clone (List.getD (bytes_Split s0 ([(63 : UInt8)] : List UInt8)) (Int.toNat (1 : Int)) ([] : List UInt8))), ((ewform_code (List.getD (bytes_Split s0 ([(63 : UInt8)] : List UInt8)) (Int.toNat (2 : Int)) ([] : List UInt8))), ((bytes_Clone (List.getD (bytes_Split s0 ([(63 : UInt8)] : List UInt8)) (Int.toNat (3 : Int)) ([] : List UInt8))), ()))) (0 : Int)
                                else none
                            else none
                        else none
                      else none
                    else none)
                  else none
                else none
              else none
          else none
      else none
  else none

/-! sheave/ewform.Is -/

def ewform_Is_ret (s2 : Bool) : Option AV := some (.dat .bool s2 none)
def ewform_Is_sh (_n : Nat) (s0 : List UInt8) : Option AV :=
  bif ((ewform_Parse_ok s0) && true) then
    ewform_Is_ret (((ewform_Parse s0).2) == (0 : Int))
  else none

/-! sheave/ewtok.Kind -/

def ewtok_Kind_ret (s2 : Int) : Option AV := some (.dat (.int .i64) s2 none)
def ewtok_Kind_sh (_n : Nat) (run0 : List UInt8) : Option AV :=
  bif (decide ((0 : Int) < ((List.length run0 : Nat) : Int))) then
    bif ((bytes_Trim_ok run0 ([32, 9, 13, 10] : List UInt8)) && true) then
      bif (((List.length (bytes_Trim run0 ([32, 9, 13, 10] : List UInt8)) : Nat) : Int) == (0 : Int)) then
        ewtok_Kind_ret (1 : Int)
      else
        bif ((ewform_Is_ok run0) && true) then
          bif (ewform_Is run0) then
            ewtok_Kind_ret (3 : Int)
          else
            ewtok_Kind_ret (2 : Int)
        else none
    else none
  else
    bif ((ewform_Is_ok run0) && true) then
      bif (ewform_Is run0) then
        ewtok_Kind_ret (3 : Int)
      else
        ewtok_Kind_ret (2 : Int)
    else none

/-! sheave/ewtok.leading -/

def ewtok_leading_ret (s2 : Int) : Option AV := some (.dat (.int .i64) s2 none)
def ewtok_leading_sh (_n : Nat) (s0 : List UInt8) : Option AV :=
  bif ((bytes_TrimLeft_ok s0 ([32, 9, 13, 10] : List UInt8)) && true) then
    ewtok_leading_ret (IntKind.wrap .i64 (((List.length s0 : Nat) : Int) - ((List.length (bytes_TrimLeft s0 ([32, 9, 13, 10] : List UInt8)) : Nat) : Int)))
  else none

/-! sheave/ewtok.run -/

def ewtok_run_ret (s2 : Int) : Option AV := some (.dat (.int .i64) s2 none)
def ewtok_run_sh (_n : Nat) (s0 : List UInt8) : Option AV :=
  bif ((bytes_IndexAny_ok s0 ([32, 9, 13, 10] : List UInt8)) && true) then
    bif (decide ((bytes_IndexAny s0 ([32, 9, 13, 10] : List UInt8)) < (0 : Int))) then
      ewtok_run_ret ((List.length s0 : Nat) : Int)
    else
      ewtok_run_ret (bytes_IndexAny s0 ([32, 9, 13, 10] : List UInt8))
  else none

/-! sheave/ewtok.Pieces -/

def ewtok_Pieces_ret (s2 : List (Int × ((List UInt8) × Unit))) : Option AV := some (.dat (.sl (.pair (.int .i64) (.pair (.sl .byte) .unit))) s2 (some (2, 28)))
def ewtok_Pieces_l2_b (k0 : List (Int × ((List UInt8) × Unit)) → Option AV) (next : List UInt8 → List (Int × ((List UInt8) × Unit)) → Option AV) (_n : Nat) (s0 : List UInt8) (l3 : List (Int × ((List UInt8) × Unit))) : Option AV :=
  bif (decide ((0 : Int) < ((List.length s0 : Nat) : Int))) then
    bif ((ewtok_leading_ok s0) && true) then
      bif ((ewtok_run_ok s0) && true) then
        bif (((decide ((0 : Int) ≤ ((0 : Nat) : Int))) && (decide (((0 : Nat) : Int) ≤ (bif (decide ((ewtok_run s0) > (ewtok_leading s0))) then (ewtok_run s0) else (ewtok_leading s0))))) && (decide ((bif (decide ((ewtok_run s0) > (ewtok_leading s0))) then (ewtok_run s0) else (ewtok_leading s0)) ≤ ((List.length s0 : Nat) : Int)))) then
          bif (((decide ((0 : Int) ≤ ((0 : Nat) : Int))) && (decide (((0 : Nat) : Int) ≤ (bif (decide ((ewtok_run s0) > (ewtok_leading s0))) then (ewtok_run s0) else (ewtok_leading s0))))) && (decide ((bif (decide ((ewtok_run s0) > (ewtok_leading s0))) then (ewtok_run s0) else (ewtok_leading s0)) ≤ ((List.length s0 : Nat) : Int)))) then
            bif ((ewtok_Kind_ok (List.drop (Int.toNat ((0 : Nat) : Int)) (List.take (Int.toNat (bif (decide ((ewtok_run s0) > (ewtok_leading s0))) then (ewtok_run s0) else (ewtok_leading s0))) s0))) && true) then
              bif ((bytes_Clone_ok (List.drop (Int.toNat ((0 : Nat) : Int)) (List.take (Int.toNat (bif (decide ((ewtok_run s0) > (ewtok_leading s0))) then (ewtok_run s0) else (ewtok_leading s0))) s0))) && true) then
                bif (decide (List.length l3 + List.length ([((ewtok_Kind (List.drop (Int.toNat ((0 : Nat) : Int)) (List.take (Int.toNat (bif (decide ((ewtok_run s0) > (ewtok_leading s0))) then (ewtok_run s0) else (ewtok_leading s0))) s0))), ((bytes_Clone (List.drop (Int.toNat ((0 : Nat) : Int)) (List.take (Int.toNat (bif (decide ((ewtok_run s0) > (ewtok_leading s0))) then (ewtok_run s0) else (ewtok_leading s0))) s0))), ()))] : List (Int × ((List UInt8) × Unit))) ≤ room)) then
                  bif (((decide ((0 : Int) ≤ (bif (decide ((ewtok_run s0) > (ewtok_leading s0))) then (ewtok_run s0) else (ewtok_leading s0)))) && (decide ((bif (decide ((ewtok_run s0) > (ewtok_leading s0))) then (ewtok_run s0) else (ewtok_leading s0)) ≤ ((List.length s0 : Nat) : Int)))) && (decide (((List.length s0 : Nat) : Int) ≤ ((List.length s0 : Nat) : Int)))) then
                    next (List.drop (Int.toNat (bif (decide ((ewtok_run s0) > (ewtok_leading s0))) then (ewtok_run s0) else (ewtok_leading s0))) (List.take (Int.toNat ((List.length s0 : Nat) : Int)) s0)) (l3 ++ ([((ewtok_Kind (List.drop (Int.toNat ((0 : Nat) : Int)) (List.take (Int.toNat (bif (decide ((ewtok_run s0) > (ewtok_leading s0))) then (ewtok_run s0) else (ewtok_leading s0))) s0))), ((bytes_Clone (List.drop (Int.toNat ((0 : Nat) : Int)) (List.take (Int.toNat (bif (decide ((ewtok_run s0) > (ewtok_leading s0))) then (ewtok_run s0) else (ewtok_leading s0))) s0))), ()))] : List (Int × ((List UInt8) × Unit))))
                  else none
                else none
              else none
            else none
          else none
        else none
      else none
    else none
  else
    k0 l3
def ewtok_Pieces_l2 (k0 : List (Int × ((List UInt8) × Unit)) → Option AV) : Nat → List UInt8 → List (Int × ((List UInt8) × Unit)) → Option AV
  | 0 => fun _ _ => none
  | n + 1 => ewtok_Pieces_l2_b k0 (ewtok_Pieces_l2 k0 n) n
def ewtok_Pieces_k2_0 (_n : Nat) (l3 : List (Int × ((List UInt8) × Unit))) : Option AV :=
  ewtok_Pieces_ret l3
def ewtok_Pieces_sh (n : Nat) (s0 : List UInt8) : Option AV :=
  ewtok_Pieces_l2 (ewtok_Pieces_k2_0 n) n s0 ([] : List (Int × ((List UInt8) × Unit)))

/-! sheave/ewtok.Hidden -/

def ewtok_Hidden_ret (s2 : List Bool) : Option AV := some (.dat (.sl .bool) s2 (some (2, 4)))
def ewtok_Hidden_l3_b (k0 : List Bool → Option AV) (next : List (Int × ((List UInt8) × Unit)) → List Bool → List (Int × ((List UInt8) × Unit)) → Int → Int → Option AV) (_n : Nat) (l0 : List (Int × ((List UInt8) × Unit))) (out3 : List Bool) (s9 : List (Int × ((List UInt8) × Unit))) (s10 : Int) (s11 : Int) : Option AV :=
  bif (decide (s11 < s10)) then
    bif ((decide ((0 : Int) ≤ s11)) && (decide (s11 < (List.length s9 : Nat)))) then
      bif (decide ((0 : Int) < s11)) then
        bif (decide ((IntKind.wrap .i64 (s11 + (1 : Int))) < ((List.length l0 : Nat) : Int))) then
          bif ((List.getD s9 (Int.toNat s11) ((0 : Int), (([] : List UInt8), ()))).1 == (1 : Int)) then
            bif ((decide ((0 : Int) ≤ (IntKind.wrap .i64 (s11 - (1 : Int))))) && (decide ((IntKind.wrap .i64 (s11 - (1 : Int))) < (List.length l0 : Nat)))) then
              bif ((List.getD l0 (Int.toNat (IntKind.wrap .i64 (s11 - (1 : Int)))) ((0 : Int), (([] : List UInt8), ()))).1 == (3 : Int)) then
                bif ((decide ((0 : Int) ≤ (IntKind.wrap .i64 (s11 + (1 : Int))))) && (decide ((IntKind.wrap .i64 (s11 + (1 : Int))) < (List.length l0 : Nat)))) then
                  bif ((decide ((0 : Int) ≤ s11)) && (decide (s11 < (List.length out3 : Nat)))) then
                    next l0 (List.set out3 (Int.toNat s11) ((List.getD l0 (Int.toNat (IntKind.wrap .i64 (s11 + (1 : Int)))) ((0 : Int), (([] : List UInt8), ()))).1 == (3 : Int))) s9 s10 (IntKind.wrap .i64 (s11 + (1 : Int)))
                  else none
                else none
              else
                bif ((decide ((0 : Int) ≤ s11)) && (decide (s11 < (List.length out3 : Nat)))) then
                  next l0 (List.set out3 (Int.toNat s11) false) s9 s10 (IntKind.wrap .i64 (s11 + (1 : Int)))
                else none
            else none
          else
            next l0 out3 s9 s10 (IntKind.wrap .i64 (s11 + (1 : Int)))
        else
          next l0 out3 s9 s10 (IntKind.wrap .i64 (s11 + (1 : Int)))
      else
        next l0 out3 s9 s10 (IntKind.wrap .i64 (s11 + (1 : Int)))
    else none
  else
    k0 out3
def ewtok_Hidden_l3 (k0 : List Bool → Option AV) : Nat → List (Int × ((List UInt8) × Unit)) → List Bool → List (Int × ((List UInt8) × Unit)) → Int → Int → Option AV
  | 0 => fun _ _ _ _ _ => none
  | n + 1 => ewtok_Hidden_l3_b k0 (ewtok_Hidden_l3 k0 n) n
def ewtok_Hidden_k3_0 (_n : Nat) (out3 : List Bool) : Option AV :=
  ewtok_Hidden_ret out3
def ewtok_Hidden_sh (n : Nat) (l0 : List (Int × ((List UInt8) × Unit))) : Option AV :=
  bif (((decide ((0 : Int) ≤ ((List.length l0 : Nat) : Int))) && (decide (((List.length l0 : Nat) : Int) ≤ ((List.length l0 : Nat) : Int)))) && (decide (((List.length l0 : Nat) : Int) ≤ (room : Int)))) then
    ewtok_Hidden_l3 (ewtok_Hidden_k3_0 n) n l0 (List.replicate (Int.toNat ((List.length l0 : Nat) : Int)) false) l0 ((List.length l0 : Nat) : Int) (0 : Int)
  else none

/-! sheave/ewtok.Shown -/

def ewtok_Shown_ret (s2 : List (Int × ((List UInt8) × Unit))) : Option AV := some (.dat (.sl (.pair (.int .i64) (.pair (.sl .byte) .unit))) s2 (some (2, 28)))
def ewtok_Shown_l4_b (k0 : List (Int × ((List UInt8) × Unit)) → Option AV) (next : List (Int × ((List UInt8) × Unit)) → List (Int × ((List UInt8) × Unit)) → List Bool → Int → Int → Option AV) (_n : Nat) (out3 : List (Int × ((List UInt8) × Unit))) (l4 : List (Int × ((List UInt8) × Unit))) (s10 : List Bool) (s11 : Int) (s12 : Int) : Option AV :=
  bif (decide (s12 < s11)) then
    bif ((decide ((0 : Int) ≤ s12)) && (decide (s12 < (List.length s10 : Nat)))) then
      bif (!(List.getD s10 (Int.toNat s12) false)) then
        bif ((decide ((0 : Int) ≤ s12)) && (decide (s12 < (List.length l4 : Nat)))) then
          bif (decide (List.length out3 + List.length ([(List.getD l4 (Int.toNat s12) ((0 : Int), (([] : List UInt8), ())))] : List (Int × ((List UInt8) × Unit))) ≤ room)) then
            next (out3 ++ ([(List.getD l4 (Int.toNat s12) ((0 : Int), (([] : List UInt8), ())))] : List (Int × ((List UInt8) × Unit)))) l4 s10 s11 (IntKind.wrap .i64 (s12 + (1 : Int)))
          else none
        else none
      else
        next out3 l4 s10 s11 (IntKind.wrap .i64 (s12 + (1 : Int)))
    else none
  else
    k0 out3
def ewtok_Shown_l4 (k0 : List (Int × ((List UInt8) × Unit)) → Option AV) : Nat → List (Int × ((List UInt8) × Unit)) → List (Int × ((List UInt8) × Unit)) → List Bool → Int → Int → Option AV
  | 0 => fun _ _ _ _ _ => none
  | n + 1 => ewtok_Shown_l4_b k0 (ewtok_Shown_l4 k0 n) n
def ewtok_Shown_k4_0 (_n : Nat) (out3 : List (Int × ((List UInt8) × Unit))) : Option AV :=
  ewtok_Shown_ret out3
def ewtok_Shown_sh (n : Nat) (s0 : List UInt8) : Option AV :=
  bif ((ewtok_Pieces_ok s0) && true) then
    bif ((ewtok_Hidden_ok (ewtok_Pieces s0)) && true) then
      ewtok_Shown_l4 (ewtok_Shown_k4_0 n) n ([] : List (Int × ((List UInt8) × Unit))) (ewtok_Pieces s0) (ewtok_Hidden (ewtok_Pieces s0)) ((List.length (ewtok_Hidden (ewtok_Pieces s0)) : Nat) : Int) (0 : Int)
    else none
  else none

/-! sheave/ewtok.Join -/

def ewtok_Join_ret (s2 : List UInt8) : Option AV := some (.dat (.sl .byte) s2 (some (2, 5)))
def ewtok_Join_l3_b (k0 : List UInt8 → Option AV) (next : List UInt8 → List (Int × ((List UInt8) × Unit)) → Int → Int → Option AV) (_n : Nat) (out3 : List UInt8) (s6 : List (Int × ((List UInt8) × Unit))) (s7 : Int) (s8 : Int) : Option AV :=
  bif (decide (s8 < s7)) then
    bif ((decide ((0 : Int) ≤ s8)) && (decide (s8 < (List.length s6 : Nat)))) then
      bif (decide (List.length out3 + List.length (List.getD s6 (Int.toNat s8) ((0 : Int), (([] : List UInt8), ()))).2.1 ≤ room)) then
        next (out3 ++ (List.getD s6 (Int.toNat s8) ((0 : Int), (([] : List UInt8), ()))).2.1) s6 s7 (IntKind.wrap .i64 (s8 + (1 : Int)))
      else none
    else none
  else
    k0 out3
def ewtok_Join_l3 (k0 : List UInt8 → Option AV) : Nat → List UInt8 → List (Int × ((List UInt8) × Unit)) → Int → Int → Option AV
  | 0 => fun _ _ _ _ => none
  | n + 1 => ewtok_Join_l3_b k0 (ewtok_Join_l3 k0 n) n
def ewtok_Join_k3_0 (_n : Nat) (out3 : List UInt8) : Option AV :=
  ewtok_Join_ret out3
def ewtok_Join_sh (n : Nat) (l0 : List (Int × ((List UInt8) × Unit))) : Option AV :=
  ewtok_Join_l3 (ewtok_Join_k3_0 n) n ([] : List UInt8) l0 ((List.length l0 : Nat) : Int) (0 : Int)

/-! sheave/ewtok.Words -/

def ewtok_Words_ret (s2 : Int) : Option AV := some (.dat (.int .i64) s2 none)
def ewtok_Words_l3_b (k0 : Int → Option AV) (next : Int → List (Int × ((List UInt8) × Unit)) → Int → Int → Option AV) (_n : Nat) (n3 : Int) (s7 : List (Int × ((List UInt8) × Unit))) (s8 : Int) (s9 : Int) : Option AV :=
  bif (decide (s9 < s8)) then
    bif ((decide ((0 : Int) ≤ s9)) && (decide (s9 < (List.length s7 : Nat)))) then
      bif ((List.getD s7 (Int.toNat s9) ((0 : Int), (([] : List UInt8), ()))).1 == (3 : Int)) then
        next (IntKind.wrap .i64 (n3 + (1 : Int))) s7 s8 (IntKind.wrap .i64 (s9 + (1 : Int)))
      else
        next n3 s7 s8 (IntKind.wrap .i64 (s9 + (1 : Int)))
    else none
  else
    k0 n3
def ewtok_Words_l3 (k0 : Int → Option AV) : Nat → Int → List (Int × ((List UInt8) × Unit)) → Int → Int → Option AV
  | 0 => fun _ _ _ _ => none
  | n + 1 => ewtok_Words_l3_b k0 (ewtok_Words_l3 k0 n) n
def ewtok_Words_k3_0 (_n : Nat) (n3 : Int) : Option AV :=
  ewtok_Words_ret n3
def ewtok_Words_sh (n : Nat) (s0 : List UInt8) : Option AV :=
  bif ((ewtok_Pieces_ok s0) && true) then
    ewtok_Words_l3 (ewtok_Words_k3_0 n) n (0 : Int) (ewtok_Pieces s0) ((List.length (ewtok_Pieces s0) : Nat) : Int) (0 : Int)
  else none

/-! sheave/sheaveref32.gap -/

def ref32_gap_ret (s2 : Bool) : Option AV := some (.dat .bool s2 none)
def ref32_gap_sh (_n : Nat) (c0 : UInt8) : Option AV :=
  bif (c0 == (32 : UInt8)) then
    ref32_gap_ret true
  else
    bif (c0 == (9 : UInt8)) then
      ref32_gap_ret true
    else
      bif (c0 == (13 : UInt8)) then
        ref32_gap_ret true
      else
        ref32_gap_ret (c0 == (10 : UInt8))

/-! sheave/sheaveref29.code -/

def ref29_code_ret (s2 : Int) : Option AV := some (.dat (.int .i64) s2 none)
def ref29_code_sh (_n : Nat) (c0 : UInt8) : Option AV :=
  bif ((ref01_Lower c0) == (98 : UInt8)) then
    ref29_code_ret (1 : Int)
  else
    bif ((ref01_Lower c0) == (113 : UInt8)) then
      ref29_code_ret (2 : Int)
    else
      ref29_code_ret (0 : Int)

/-! sheave/sheaveref29.cut -/

def ref29_cut_ret (s2 : List (List UInt8)) : Option AV := some (.dat (.sl (.sl .byte)) s2 none)
def ref29_cut_l3_b (k0 : List (List UInt8) → Option AV) (next : List UInt8 → List (List UInt8) → Int → Option AV) (_n : Nat) (s0 : List UInt8) (out3 : List (List UInt8)) (i4 : Int) : Option AV :=
  bif (decide (i4 < ((List.length s0 : Nat) : Int))) then
    bif ((decide ((0 : Int) ≤ i4)) && (decide (i4 < (List.length s0 : Nat)))) then
      bif ((List.getD s0 (Int.toNat i4) (0 : UInt8)) == (63 : UInt8)) then
        bif (decide (List.length out3 + List.length ([([] : List UInt8)] : List (List UInt8)) ≤ room)) then
          next s0 (out3 ++ ([([] : List UInt8)] : List (List UInt8))) (IntKind.wrap .i64 (i4 + (1 : Int)))
        else none
      else
        bif ((decide ((0 : Int) ≤ (IntKind.wrap .i64 (((List.length out3 : Nat) : Int) - (1 : Int))))) && (decide ((IntKind.wrap .i64 (((List.length out3 : Nat) : Int) - (1 : Int))) < (List.length out3 : Nat)))) then
          bif ((decide ((0 : Int) ≤ i4)) && (decide (i4 < (List.length s0 : Nat)))) then
            bif (decide (List.length (List.getD out3 (Int.toNat (IntKind.wrap .i64 (((List.length out3 : Nat) : Int) - (1 : Int)))) ([] : List UInt8)) + List.length ([(List.getD s0 (Int.toNat i4) (0 : UInt8))] : List UInt8) ≤ room)) then
              bif ((decide ((0 : Int) ≤ (IntKind.wrap .i64 (((List.length out3 : Nat) : Int) - (1 : Int))))) && (decide ((IntKind.wrap .i64 (((List.length out3 : Nat) : Int) - (1 : Int))) < (List.length out3 : Nat)))) then
                bif (((Int.toNat (IntKind.wrap .i64 (((List.length out3 : Nat) : Int) - (1 : Int)))) == (Int.toNat (IntKind.wrap .i64 (((List.length out3 : Nat) : Int) - (1 : Int))))) && true) then
                  next s0 (List.set out3 (Int.toNat (IntKind.wrap .i64 (((List.length out3 : Nat) : Int) - (1 : Int)))) ((List.getD out3 (Int.toNat (IntKind.wrap .i64 (((List.length out3 : Nat) : Int) - (1 : Int)))) ([] : List UInt8)) ++ ([(List.getD s0 (Int.toNat i4) (0 : UInt8))] : List UInt8))) (IntKind.wrap .i64 (i4 + (1 : Int)))
                else none
              else none
            else none
          else none
        else none
    else none
  else
    k0 out3
def ref29_cut_l3 (k0 : List (List UInt8) → Option AV) : Nat → List UInt8 → List (List UInt8) → Int → Option AV
  | 0 => fun _ _ _ => none
  | n + 1 => ref29_cut_l3_b k0 (ref29_cut_l3 k0 n) n
def ref29_cut_k3_0 (_n : Nat) (out3 : List (List UInt8)) : Option AV :=
  ref29_cut_ret out3
def ref29_cut_sh (n : Nat) (s0 : List UInt8) : Option AV :=
  ref29_cut_l3 (ref29_cut_k3_0 n) n s0 ([([] : List UInt8)] : List (List UInt8)) (0 : Int)

/-! sheave/sheaveref29.Parse -/

def ref29_Parse_ret (s2 : (List UInt8) × (Int × ((List UInt8) × Unit))) (s3 : Int) : Option AV := some (.tup [(.dat (.pair (.sl .byte) (.pair (.int .i64) (.pair (.sl .byte) .unit))) s2 none), (.dat (.int .i64) s3 none)])
def ref29_Parse_sh (_n : Nat) (s0 : List UInt8) : Option AV :=
  bif ((ref29_cut_ok s0) && true) then
    bif (((List.length (ref29_cut s0) : Nat) : Int) != (5 : Int)) then
      ref29_Parse_ret (([] : List UInt8), ((0 : Int), (([] : List UInt8), ()))) (3 : Int)
    else
      bif ((decide ((0 : Int) ≤ (0 : Int))) && (decide ((0 : Int) < (List.length (ref29_cut s0) : Nat)))) then
        bif ((List.getD (ref29_cut s0) (Int.toNat (0 : Int)) ([] : List UInt8)) != ([61] : List UInt8)) then
          ref29_Parse_ret (([] : List UInt8), ((0 : Int), (([] : List UInt8), ()))) (3 : Int)
        else
          bif ((decide ((0 : Int) ≤ (4 : Int))) && (decide ((4 : Int) < (List.length (ref29_cut s0) : Nat)))) then
            bif ((List.getD (ref29_cut s0) (Int.toNat (4 : Int)) ([] : List UInt8)) != ([61] : List UInt8)) then
              ref29_Parse_ret (([] : List UInt8), ((0 : Int), (([] : List UInt8), ()))) (3 : Int)
            else
              bif ((decide ((0 : Int) ≤ (2 : Int))) && (decide ((2 : Int) < (List.length (ref29_cut s0) : Nat)))) then
                bif (((List.length (List.getD (ref29_cut s0) (Int.toNat (2 : Int)) ([] : List UInt8)) : Nat) : Int) != (1 : Int)) then
                  ref29_Parse_ret (([] : List UInt8), ((0 : Int), (([] : List UInt8), ()))) (3 : Int)
                else
                  bif ((decide ((0 : Int) ≤ (2 : Int))) && (decide ((2 : Int) < (List.length (ref29_cut s0) : Nat)))) then
                    bif ((decide ((0 : Int) ≤ (0 : Int))) && (decide ((0 : Int) < (List.length (List.getD (ref29_cut s0) (Int.toNat (2 : Int)) ([] : List UInt8)) : Nat)))) then
                      bif ((ref29_code (List.getD (List.getD (ref29_cut s0) (Int.toNat (2 : Int)) ([] : List UInt8)) (Int.toNat (0 : Int)) (0 : UInt8))) == (0 : Int)) then
                        ref29_Parse_ret (([] : List UInt8), ((0 : Int), (([] : List UInt8), ()))) (3 : Int)
                      else
                        bif ((decide ((0 : Int) ≤ (1 : Int))) && (decide ((1 : Int) < (List.length (ref29_cut s0) : Nat)))) then
                          bif (((List.length (List.getD (ref29_cut s0) (Int.toNat (1 : Int)) ([] : List UInt8)) : Nat) : Int) == (0 : Int)) then
                            ref29_Parse_ret (([] : List UInt8), ((0 : Int), (([] : List UInt8), ()))) (3 : Int)
                          else
                            bif ((decide ((0 : Int) ≤ (1 : Int))) && (decide ((1 : Int) < (List.length (ref29_cut s0) : Nat)))) then
                              bif ((decide ((0 : Int) ≤ (1 : Int))) && (decide ((1 : Int) < (List.length (ref29_cut s0) : Nat)))) then
                                bif ((ref01_Count_ok (List.getD (ref29_cut s0) (Int.toNat (1 : Int)) ([] : List UInt8)) (64 : Int)) && true) then
                                  bif ((ref01_Count (List.getD (ref29_cut s0) (Int.toNat (1 : Int)) ([] : List UInt8)) (64 : Int)) != ((List.length (List.getD (ref29_cut s0) (Int.toNat (1 : Int)) ([] : List UInt8)) : Nat) : Int)) then
                                    ref29_Parse_ret (([] : List UInt8), ((0 : Int), (([] : List UInt8), ()))) (3 : Int)
                                  else
                                    bif ((decide ((0 : Int) ≤ (3 : Int))) && (decide ((3 : Int) < (List.length (ref29_cut s0) : Nat)))) then
                                      bif (((List.length (List.getD (ref29_cut s0) (Int.toNat (3 : Int)) ([] : List UInt8)) : Nat) : Int) == (0 : Int)) then
                                        ref29_Parse_ret (([] : List UInt8), ((0 : Int), (([] : List UInt8), ()))) (3 : Int)
                                      else
                                        bif ((decide ((0 : Int) ≤ (3 : Int))) && (decide ((3 : Int) < (List.length (ref29_cut s0) : Nat)))) then
                                          bif ((decide ((0 : Int) ≤ (3 : Int))) && (decide ((3 : Int) < (List.length (ref29_cut s0) : Nat)))) then
                                            bif ((ref01_Count_ok (List.getD (ref29_cut s0) (Int.toNat (3 : Int)) ([] : List UInt8)) (4 : Int)) && true) then
                                              bif ((ref01_Count (List.getD (ref29_cut s0) (Int.toNat (3 : Int)) ([] : List UInt8)) (4 : Int)) != ((List.length (List.getD (ref29_cut s0) (Int.toNat (3 : Int)) ([] : List UInt8)) : Nat) : Int)) then
                                                ref29_Parse_ret (([] : List UInt8), ((0 : Int), (([] : List UInt8), ()))) (3 : Int)
                                              else
                                                bif (decide ((75 : Int) < ((List.length s0 : Nat) : Int))) then
                                                  ref29_Parse_ret (([] : List UInt8), ((0 : Int), (([] : List UInt8), ()))) (12 : Int)
                                                else
                                                  bif ((decide ((0 : Int) ≤ (1 : Int))) && (decide ((1 : Int) < (List.length (ref29_cut s0) : Nat)))) then
                                                    bif ((decide ((0 : Int) ≤ (2 : Int))) && (decide ((2 : Int) < (List.length (ref29_cut s0) : Nat)))) then
                                                      bif ((decide ((0 : Int) ≤ (0 : Int))) && (decide ((0 : Int) < (List.length (List.getD (ref29_cut s0) (Int.toNat (2 : Int)) ([] : List UInt8)) : Nat)))) then
                                                        bif ((decide ((0 : Int) ≤ (3 : Int))) && (decide ((3 : Int) < (List.length (ref29_cut s0) : Nat)))) then
                                                          ref29_Parse_ret ((List.getD (ref29_cut s0) (Int.toNat (1 : Int)) ([] : List UInt8)), ((ref29_code (List.getD (List.getD (ref29_cut s0) (Int.toNat (2 : Int)) ([] : List UInt8)) (Int.toNat (0 : Int)) (0 : UInt8))), ((List.getD (ref29_cut s0) (Int.toNat (3 : Int)) ([] : List UInt8)), ()))) (0 : Int)
                                                        else none
                                                      else none
                                                    else none
                                                  else none
                                            else none
                                          else none
                                        else none
                                    else none
                                else none
                              else none
                            else none
                        else none
                    else none
                  else none
              else none
          else none
      else none
  else none

/-! sheave/sheaveref32.Kind -/

def ref32_Kind_ret (s2 : Int) : Option AV := some (.dat (.int .i64) s2 none)
def ref32_Kind_l3_b (k0 : List UInt8 → Bool → Option AV) (next : List UInt8 → Bool → Int → Option AV) (_n : Nat) (run0 : List UInt8) (all3 : Bool) (i4 : Int) : Option AV :=
  bif (decide (i4 < ((List.length run0 : Nat) : Int))) then
    bif all3 then
      bif ((decide ((0 : Int) ≤ i4)) && (decide (i4 < (List.length run0 : Nat)))) then
        next run0 (ref32_gap (List.getD run0 (Int.toNat i4) (0 : UInt8))) (IntKind.wrap .i64 (i4 + (1 : Int)))
      else none
    else
      next run0 false (IntKind.wrap .i64 (i4 + (1 : Int)))
  else
    k0 run0 all3
def ref32_Kind_l3 (k0 : List UInt8 → Bool → Option AV) : Nat → List UInt8 → Bool → Int → Option AV
  | 0 => fun _ _ _ => none
  | n + 1 => ref32_Kind_l3_b k0 (ref32_Kind_l3 k0 n) n
def ref32_Kind_k3_0 (_n : Nat) (run0 : List UInt8) (all3 : Bool) : Option AV :=
  bif all3 then
    ref32_Kind_ret (1 : Int)
  else
    bif ((ref29_Parse_ok run0) && true) then
      bif (((ref29_Parse run0).2) == (0 : Int)) then
        ref32_Kind_ret (3 : Int)
      else
        ref32_Kind_ret (2 : Int)
    else none
def ref32_Kind_sh (n : Nat) (run0 : List UInt8) : Option AV :=
  ref32_Kind_l3 (ref32_Kind_k3_0 n) n run0 (decide ((0 : Int) < ((List.length run0 : Nat) : Int))) (0 : Int)

/-! sheave/sheaveref32.Pieces -/

def ref32_Pieces_ret (s2 : List (Int × ((List UInt8) × Unit))) : Option AV := some (.dat (.sl (.pair (.int .i64) (.pair (.sl .byte) .unit))) s2 (some (2, 27)))
def ref32_Pieces_l5_b (k2 : List UInt8 → List (Int × ((List UInt8) × Unit)) → Int → Int → Option AV) (next : List UInt8 → List (Int × ((List UInt8) × Unit)) → Int → Int → Option AV) (_n : Nat) (s0 : List UInt8) (out3 : List (Int × ((List UInt8) × Unit))) (i4 : Int) (k5 : Int) : Option AV :=
  bif (decide (k5 < ((List.length s0 : Nat) : Int))) then
    bif ((decide ((0 : Int) ≤ k5)) && (decide (k5 < (List.length s0 : Nat)))) then
      bif ((decide ((0 : Int) ≤ i4)) && (decide (i4 < (List.length s0 : Nat)))) then
        bif ((ref32_gap (List.getD s0 (Int.toNat k5) (0 : UInt8))) == (ref32_gap (List.getD s0 (Int.toNat i4) (0 : UInt8)))) then
          next s0 out3 i4 (IntKind.wrap .i64 (k5 + (1 : Int)))
        else
          k2 s0 out3 i4 k5
      else none
    else none
  else
    k2 s0 out3 i4 k5
def ref32_Pieces_l5 (k2 : List UInt8 → List (Int × ((List UInt8) × Unit)) → Int → Int → Option AV) : Nat → List UInt8 → List (Int × ((List UInt8) × Unit)) → Int → Int → Option AV
  | 0 => fun _ _ _ _ => none
  | n + 1 => ref32_Pieces_l5_b k2 (ref32_Pieces_l5 k2 n) n
def ref32_Pieces_k5_2 (_k0 : List (Int × ((List UInt8) × Unit)) → Option AV) (next : List UInt8 → List (Int × ((List UInt8) × Unit)) → Int → Option AV) (_n : Nat) (s0 : List UInt8) (out3 : List (Int × ((List UInt8) × Unit))) (i4 : Int) (k5 : Int) : Option AV :=
  bif (((decide ((0 : Int) ≤ i4)) && (decide (i4 ≤ k5))) && (decide (k5 ≤ ((List.length s0 : Nat) : Int)))) then
    bif (((decide ((0 : Int) ≤ i4)) && (decide (i4 ≤ k5))) && (decide (k5 ≤ ((List.length s0 : Nat) : Int)))) then
      bif ((ref32_Kind_ok (List.drop (Int.toNat i4) (List.take (Int.toNat k5) s0))) && true) then
        bif (decide (List.length out3 + List.length ([((ref32_Kind (List.drop (Int.toNat i4) (List.take (Int.toNat k5) s0))), ((List.drop (Int.toNat i4) (List.take (Int.toNat k5) s0)), ()))] : List (Int × ((List UInt8) × Unit))) ≤ room)) then
          next s0 (out3 ++ ([((ref32_Kind (List.drop (Int.toNat i4) (List.take (Int.toNat k5) s0))), ((List.drop (Int.toNat i4) (List.take (Int.toNat k5) s0)), ()))] : List (Int × ((List UInt8) × Unit)))) k5
        else none
      else none
    else none
  else none
def ref32_Pieces_l3_b (k0 : List (Int × ((List UInt8) × Unit)) → Option AV) (next : List UInt8 → List (Int × ((List UInt8) × Unit)) → Int → Option AV) (n : Nat) (s0 : List UInt8) (out3 : List (Int × ((List UInt8) × Unit))) (i4 : Int) : Option AV :=
  bif (decide (i4 < ((List.length s0 : Nat) : Int))) then
    ref32_Pieces_l5 (ref32_Pieces_k5_2 k0 next n) n s0 out3 i4 i4
  else
    k0 out3
def ref32_Pieces_l3 (k0 : List (Int × ((List UInt8) × Unit)) → Option AV) : Nat → List UInt8 → List (Int × ((List UInt8) × Unit)) → Int → Option AV
  | 0 => fun _ _ _ => none
  | n + 1 => ref32_Pieces_l3_b k0 (ref32_Pieces_l3 k0 n) n
def ref32_Pieces_k3_0 (_n : Nat) (out3 : List (Int × ((List UInt8) × Unit))) : Option AV :=
  ref32_Pieces_ret out3
def ref32_Pieces_sh (n : Nat) (s0 : List UInt8) : Option AV :=
  ref32_Pieces_l3 (ref32_Pieces_k3_0 n) n s0 ([] : List (Int × ((List UInt8) × Unit))) (0 : Int)

/-! sheave/sheaveref32.Hidden -/

def ref32_Hidden_ret (s4 : Bool) : Option AV := some (.dat .bool s4 none)
def ref32_Hidden_sh (_n : Nat) (l0 : List (Int × ((List UInt8) × Unit))) (i1 : Int) : Option AV :=
  bif ((decide ((0 : Int) ≤ i1)) && (decide (i1 < (List.length l0 : Nat)))) then
    bif ((List.getD l0 (Int.toNat i1) ((0 : Int), (([] : List UInt8), ()))).1 == (1 : Int)) then
      bif (decide ((0 : Int) < i1)) then
        bif (decide ((IntKind.wrap .i64 (i1 + (1 : Int))) < ((List.length l0 : Nat) : Int))) then
          bif ((decide ((0 : Int) ≤ (IntKind.wrap .i64 (i1 - (1 : Int))))) && (decide ((IntKind.wrap .i64 (i1 - (1 : Int))) < (List.length l0 : Nat)))) then
            bif ((List.getD l0 (Int.toNat (IntKind.wrap .i64 (i1 - (1 : Int)))) ((0 : Int), (([] : List UInt8), ()))).1 == (3 : Int)) then
              bif ((decide ((0 : Int) ≤ (IntKind.wrap .i64 (i1 + (1 : Int))))) && (decide ((IntKind.wrap .i64 (i1 + (1 : Int))) < (List.length l0 : Nat)))) then
                ref32_Hidden_ret ((List.getD l0 (Int.toNat (IntKind.wrap .i64 (i1 + (1 : Int)))) ((0 : Int), (([] : List UInt8), ()))).1 == (3 : Int))
              else none
            else
              ref32_Hidden_ret false
          else none
        else
          ref32_Hidden_ret false
      else
        ref32_Hidden_ret false
    else
      ref32_Hidden_ret false
  else none

/-! sheave/sheaveref32.Shown -/

def ref32_Shown_ret (s2 : List (Int × ((List UInt8) × Unit))) : Option AV := some (.dat (.sl (.pair (.int .i64) (.pair (.sl .byte) .unit))) s2 (some (2, 27)))
def ref32_Shown_l4_b (k0 : List (Int × ((List UInt8) × Unit)) → Option AV) (next : List (Int × ((List UInt8) × Unit)) → List (Int × ((List UInt8) × Unit)) → Int → Option AV) (_n : Nat) (l3 : List (Int × ((List UInt8) × Unit))) (out4 : List (Int × ((List UInt8) × Unit))) (i5 : Int) : Option AV :=
  bif (decide (i5 < ((List.length l3 : Nat) : Int))) then
    bif ((ref32_Hidden_ok l3 i5) && true) then
      bif (!(ref32_Hidden l3 i5)) then
        bif ((decide ((0 : Int) ≤ i5)) && (decide (i5 < (List.length l3 : Nat)))) then
          bif (decide (List.length out4 + List.length ([(List.getD l3 (Int.toNat i5) ((0 : Int), (([] : List UInt8), ())))] : List (Int × ((List UInt8) × Unit))) ≤ room)) then
            next l3 (out4 ++ ([(List.getD l3 (Int.toNat i5) ((0 : Int), (([] : List UInt8), ())))] : List (Int × ((List UInt8) × Unit)))) (IntKind.wrap .i64 (i5 + (1 : Int)))
          else none
        else none
      else
        next l3 out4 (IntKind.wrap .i64 (i5 + (1 : Int)))
    else none
  else
    k0 out4
def ref32_Shown_l4 (k0 : List (Int × ((List UInt8) × Unit)) → Option AV) : Nat → List (Int × ((List UInt8) × Unit)) → List (Int × ((List UInt8) × Unit)) → Int → Option AV
  | 0 => fun _ _ _ => none
  | n + 1 => ref32_Shown_l4_b k0 (ref32_Shown_l4 k0 n) n
def ref32_Shown_k4_0 (_n : Nat) (out4 : List (Int × ((List UInt8) × Unit))) : Option AV :=
  ref32_Shown_ret out4
def ref32_Shown_sh (n : Nat) (s0 : List UInt8) : Option AV :=
  bif ((ref32_Pieces_ok s0) && true) then
    ref32_Shown_l4 (ref32_Shown_k4_0 n) n (ref32_Pieces s0) ([] : List (Int × ((List UInt8) × Unit))) (0 : Int)
  else none

/-! sheave/sheavelaw32.same -/

def law32_same_ret (s4 : Bool) : Option AV := some (.dat .bool s4 none)
def law32_same_l4_b (ret : Bool → Option AV) (k0 : Option AV) (next : List (Int × ((List UInt8) × Unit)) → List (Int × ((List UInt8) × Unit)) → Int → Int → Option AV) (_n : Nat) (a0 : List (Int × ((List UInt8) × Unit))) (b1 : List (Int × ((List UInt8) × Unit))) (s12 : Int) (s13 : Int) : Option AV :=
  bif (decide (s13 < s12)) then
    bif ((decide ((0 : Int) ≤ s13)) && (decide (s13 < (List.length a0 : Nat)))) then
      bif ((decide ((0 : Int) ≤ s13)) && (decide (s13 < (List.length b1 : Nat)))) then
        bif ((List.getD a0 (Int.toNat s13) ((0 : Int), (([] : List UInt8), ()))).1 != (List.getD b1 (Int.toNat s13) ((0 : Int), (([] : List UInt8), ()))).1) then
          ret false
        else
          bif ((decide ((0 : Int) ≤ s13)) && (decide (s13 < (List.length a0 : Nat)))) then
            bif ((decide ((0 : Int) ≤ s13)) && (decide (s13 < (List.length b1 : Nat)))) then
              bif ((ref01_Like_ok (List.getD a0 (Int.toNat s13) ((0 : Int), (([] : List UInt8), ()))).2.1 (List.getD b1 (Int.toNat s13) ((0 : Int), (([] : List UInt8), ()))).2.1) && true) then
                bif (!(ref01_Like (List.getD a0 (Int.toNat s13) ((0 : Int), (([] : List UInt8), ()))).2.1 (List.getD b1 (Int.toNat s13) ((0 : Int), (([] : List UInt8), ()))).2.1)) then
                  ret false
                else
                  next a0 b1 s12 (IntKind.wrap .i64 (s13 + (1 : Int)))
              else none
            else none
          else none
      else none
    else none
  else
    k0
def law32_same_l4 (ret : Bool → Option AV) (k0 : Option AV) : Nat → List (Int × ((List UInt8) × Unit)) → List (Int × ((List UInt8) × Unit)) → Int → Int → Option AV
  | 0 => fun _ _ _ _ => none
  | n + 1 => law32_same_l4_b ret k0 (law32_same_l4 ret k0 n) n
def law32_same_k4_0 (_n : Nat) : Option AV :=
  law32_same_ret true
def law32_same_sh (n : Nat) (a0 : List (Int × ((List UInt8) × Unit))) (b1 : List (Int × ((List UInt8) × Unit))) : Option AV :=
  bif (((List.length a0 : Nat) : Int) != ((List.length b1 : Nat) : Int)) then
    law32_same_ret false
  else
    law32_same_l4 law32_same_ret (law32_same_k4_0 n) n a0 b1 ((List.length a0 : Nat) : Int) (0 : Int)

/-! sheave/sheavelaw32.alive -/

def law32_alive_ret (s0 : Bool) : Option AV := some (.dat .bool s0 none)
def law32_alive_sh (_n : Nat) : Option AV :=
  bif ((ewtok_Pieces_ok ([(97 : UInt8), (32 : UInt8), (61 : UInt8), (63 : UInt8), (117 : UInt8), (116 : UInt8), (102 : UInt8), (45 : UInt8), (56 : UInt8), (63 : UInt8), (81 : UInt8), (63 : UInt8), (98 : UInt8), (63 : UInt8), (61 : UInt8), (32 : UInt8), (61 : UInt8), (63 : UInt8), (117 : UInt8), (116 : UInt8), (102 : UInt8), (45 : UInt8), (56 : UInt8), (63 : UInt8), (81 : UInt8), (63 : UInt8), (99 : UInt8), (63 : UInt8), (61 : UInt8)] : List UInt8)) && true) then
    bif ((ewtok_Hidden_ok (ewtok_Pieces ([(97 : UInt8), (32 : UInt8), (61 : UInt8), (63 : UInt8), (117 : UInt8), (116 : UInt8), (102 : UInt8), (45 : UInt8), (56 : UInt8), (63 : UInt8), (81 : UInt8), (63 : UInt8), (98 : UInt8), (63 : UInt8), (61 : UInt8), (32 : UInt8), (61 : UInt8), (63 : UInt8), (117 : UInt8), (116 : UInt8), (102 : UInt8), (45 : UInt8), (56 : UInt8), (63 : UInt8), (81 : UInt8), (63 : UInt8), (99 : UInt8), (63 : UInt8), (61 : UInt8)] : List UInt8))) && true) then
      bif (((List.length (ewtok_Pieces ([(97 : UInt8), (32 : UInt8), (61 : UInt8), (63 : UInt8), (117 : UInt8), (116 : UInt8), (102 : UInt8), (45 : UInt8), (56 : UInt8), (63 : UInt8), (81 : UInt8), (63 : UInt8), (98 : UInt8), (63 : UInt8), (61 : UInt8), (32 : UInt8), (61 : UInt8), (63 : UInt8), (117 : UInt8), (116 : UInt8), (102 : UInt8), (45 : UInt8), (56 : UInt8), (63 : UInt8), (81 : UInt8), (63 : UInt8), (99 : UInt8), (63 : UInt8), (61 : UInt8)] : List UInt8)) : Nat) : Int) == (5 : Int)) then
        bif (((List.length (ewtok_Hidden (ewtok_Pieces ([(97 : UInt8), (32 : UInt8), (61 : UInt8), (63 : UInt8), (117 : UInt8), (116 : UInt8), (102 : UInt8), (45 : UInt8), (56 : UInt8), (63 : UInt8), (81 : UInt8), (63 : UInt8), (98 : UInt8), (63 : UInt8), (61 : UInt8), (32 : UInt8), (61 : UInt8), (63 : UInt8), (117 : UInt8), (116 : UInt8), (102 : UInt8), (45 : UInt8), (56 : UInt8), (63 : UInt8), (81 : UInt8), (63 : UInt8), (99 : UInt8), (63 : UInt8), (61 : UInt8)] : List UInt8))) : Nat) : Int) == (5 : Int)) then
          bif ((decide ((0 : Int) ≤ (0 : Int))) && (decide ((0 : Int) < (List.length (ewtok_Pieces ([(97 : UInt8), (32 : UInt8), (61 : UInt8), (63 : UInt8), (117 : UInt8), (116 : UInt8), (102 : UInt8), (45 : UInt8), (56 : UInt8), (63 : UInt8), (81 : UInt8), (63 : UInt8), (98 : UInt8), (63 : UInt8), (61 : UInt8), (32 : UInt8), (61 : UInt8), (63 : UInt8), (117 : UInt8), (116 : UInt8), (102 : UInt8), (45 : UInt8), (56 : UInt8), (63 : UInt8), (81 : UInt8), (63 : UInt8), (99 : UInt8), (63 : UInt8), (61 : UInt8)] : List UInt8)) : Nat)))) then
            bif ((List.getD (ewtok_Pieces ([(97 : UInt8), (32 : UInt8), (61 : UInt8), (63 : UInt8), (117 : UInt8), (116 : UInt8), (102 : UInt8), (45 : UInt8), (56 : UInt8), (63 : UInt8), (81 : UInt8), (63 : UInt8), (98 : UInt8), (63 : UInt8), (61 : UInt8), (32 : UInt8), (61 : UInt8), (63 : UInt8), (117 : UInt8), (116 : UInt8), (102 : UInt8), (45 : UInt8), (56 : UInt8), (63 : UInt8), (81 : UInt8), (63 : UInt8), (99 : UInt8), (63 : UInt8), (61 : UInt8)] : List UInt8)) (Int.toNat (0 : Int)) ((0 : Int), (([] : List UInt8), ()))).1 == (2 : Int)) then
              bif ((decide ((0 : Int) ≤ (1 : Int))) && (decide ((1 : Int) < (List.length (ewtok_Pieces ([(97 : UInt8), (32 : UInt8), (61 : UInt8), (63 : UInt8), (117 : UInt8), (116 : UInt8), (102 : UInt8), (45 : UInt8), (56 : UInt8), (63 : UInt8), (81 : UInt8), (63 : UInt8), (98 : UInt8), (63 : UInt8), (61 : UInt8), (32 : UInt8), (61 : UInt8), (63 : UInt8), (117 : UInt8), (116 : UInt8), (102 : UInt8), (45 : UInt8), (56 : UInt8), (63 : UInt8), (81 : UInt8), (63 : UInt8), (99 : UInt8), (63 : UInt8), (61 : UInt8)] : List UInt8)) : Nat)))) then
                bif ((List.getD (ewtok_Pieces ([(97 : UInt8), (32 : UInt8), (61 : UInt8), (63 : UInt8), (117 : UInt8), (116 : UInt8), (102 : UInt8), (45 : UInt8), (56 : UInt8), (63 : UInt8), (81 : UInt8), (63 : UInt8), (98 : UInt8), (63 : UInt8), (61 : UInt8), (32 : UInt8), (61 : UInt8), (63 : UInt8), (117 : UInt8), (116 : UInt8), (102 : UInt8), (45 : UInt8), (56 : UInt8), (63 : UInt8), (81 : UInt8), (63 : UInt8), (99 : UInt8), (63 : UInt8), (61 : UInt8)] : List UInt8)) (Int.toNat (1 : Int)) ((0 : Int), (([] : List UInt8), ()))).1 == (1 : Int)) then
                  bif ((decide ((0 : Int) ≤ (1 : Int))) && (decide ((1 : Int) < (List.length (ewtok_Hidden (ewtok_Pieces ([(97 : UInt8), (32 : UInt8), (61 : UInt8), (63 : UInt8), (117 : UInt8), (116 : UInt8), (102 : UInt8), (45 : UInt8), (56 : UInt8), (63 : UInt8), (81 : UInt8), (63 : UInt8), (98 : UInt8), (63 : UInt8), (61 : UInt8), (32 : UInt8), (61 : UInt8), (63 : UInt8), (117 : UInt8), (116 : UInt8), (102 : UInt8), (45 : UInt8), (56 : UInt8), (63 : UInt8), (81 : UInt8), (63 : UInt8), (99 : UInt8), (63 : UInt8), (61 : UInt8)] : List UInt8))) : Nat)))) then
                    bif (!(List.getD (ewtok_Hidden (ewtok_Pieces ([(97 : UInt8), (32 : UInt8), (61 : UInt8), (63 : UInt8), (117 : UInt8), (116 : UInt8), (102 : UInt8), (45 : UInt8), (56 : UInt8), (63 : UInt8), (81 : UInt8), (63 : UInt8), (98 : UInt8), (63 : UInt8), (61 : UInt8), (32 : UInt8), (61 : UInt8), (63 : UInt8), (117 : UInt8), (116 : UInt8), (102 : UInt8), (45 : UInt8), (56 : UInt8), (63 : UInt8), (81 : UInt8), (63 : UInt8), (99 : UInt8), (63 : UInt8), (61 : UInt8)] : List UInt8))) (Int.toNat (1 : Int)) false)) then
                      bif ((decide ((0 : Int) ≤ (2 : Int))) && (decide ((2 : Int) < (List.length (ewtok_Pieces ([(97 : UInt8), (32 : UInt8), (61 : UInt8), (63 : UInt8), (117 : UInt8), (116 : UInt8), (102 : UInt8), (45 : UInt8), (56 : UInt8), (63 : UInt8), (81 : UInt8), (63 : UInt8), (98 : UInt8), (63 : UInt8), (61 : UInt8), (32 : UInt8), (61 : UInt8), (63 : UInt8), (117 : UInt8), (116 : UInt8), (102 : UInt8), (45 : UInt8), (56 : UInt8), (63 : UInt8), (81 : UInt8), (63 : UInt8), (99 : UInt8), (63 : UInt8), (61 : UInt8)] : List UInt8)) : Nat)))) then
                        bif ((List.getD (ewtok_Pieces ([(97 : UInt8), (32 : UInt8), (61 : UInt8), (63 : UInt8), (117 : UInt8), (116 : UInt8), (102 : UInt8), (45 : UInt8), (56 : UInt8), (63 : UInt8), (81 : UInt8), (63 : UInt8), (98 : UInt8), (63 : UInt8), (61 : UInt8), (32 : UInt8), (61 : UInt8), (63 : UInt8), (117 : UInt8), (116 : UInt8), (102 : UInt8), (45 : UInt8), (56 : UInt8), (63 : UInt8), (81 : UInt8), (63 : UInt8), (99 : UInt8), (63 : UInt8), (61 : UInt8)] : List UInt8)) (Int.toNat (2 : Int)) ((0 : Int), (([] : List UInt8), ()))).1 == (3 : Int)) then
                          bif ((decide ((0 : Int) ≤ (3 : Int))) && (decide ((3 : Int) < (List.length (ewtok_Hidden (ewtok_Pieces ([(97 : UInt8), (32 : UInt8), (61 : UInt8), (63 : UInt8), (117 : UInt8), (116 : UInt8), (102 : UInt8), (45 : UInt8), (56 : UInt8), (63 : UInt8), (81 : UInt8), (63 : UInt8), (98 : UInt8), (63 : UInt8), (61 : UInt8), (32 : UInt8), (61 : UInt8), (63 : UInt8), (117 : UInt8), (116 : UInt8), (102 : UInt8), (45 : UInt8), (56 : UInt8), (63 : UInt8), (81 : UInt8), (63 : UInt8), (99 : UInt8), (63 : UInt8), (61 : UInt8)] : List UInt8))) : Nat)))) then
                            law32_alive_ret (List.getD (ewtok_Hidden (ewtok_Pieces ([(97 : UInt8), (32 : UInt8), (61 : UInt8), (63 : UInt8), (117 : UInt8), (116 : UInt8), (102 : UInt8), (45 : UInt8), (56 : UInt8), (63 : UInt8), (81 : UInt8), (63 : UInt8), (98 : UInt8), (63 : UInt8), (61 : UInt8), (32 : UInt8), (61 : UInt8), (63 : UInt8), (117 : UInt8), (116 : UInt8), (102 : UInt8), (45 : UInt8), (56 : UInt8), (63 : UInt8), (81 : UInt8), (63 : UInt8), (99 : UInt8), (63 : UInt8), (61 : UInt8)] : List UInt8))) (Int.toNat (3 : Int)) false)
                          else none
                        else
                          law32_alive_ret false
                      else none
                    else
                      law32_alive_ret false
                  else none
                else
                  law32_alive_ret false
              else none
            else
              law32_alive_ret false
          else none
        else
          law32_alive_ret false
      else
        law32_alive_ret false
    else none
  else none

/-! sheave/sheavelaw32.EwtokHidden -/

def law32_EwtokHidden_ret (s2 : Bool) : Option AV := some (.dat .bool s2 none)
def law32_EwtokHidden_l6_b (ret : Bool → Option AV) (k0 : List (Int × ((List UInt8) × Unit)) → List (Int × ((List UInt8) × Unit)) → List UInt8 → Option AV) (next : List (Int × ((List UInt8) × Unit)) → List (Int × ((List UInt8) × Unit)) → List UInt8 → List (Int × ((List UInt8) × Unit)) → Int → Int → Option AV) (_n : Nat) (l0 : List (Int × ((List UInt8) × Unit))) (x3 : List (Int × ((List UInt8) × Unit))) (all4 : List UInt8) (s13 : List (Int × ((List UInt8) × Unit))) (s14 : Int) (s15 : Int) : Option AV :=
  bif (decide (s15 < s14)) then
    bif ((decide ((0 : Int) ≤ s15)) && (decide (s15 < (List.length s13 : Nat)))) then
      bif (decide ((200 : Int) < ((List.length (List.getD s13 (Int.toNat s15) ((0 : Int), (([] : List UInt8), ()))).2.1 : Nat) : Int))) then
        ret law32_alive
      else
        bif (decide (List.length x3 + List.length ([((List.getD s13 (Int.toNat s15) ((0 : Int), (([] : List UInt8), ()))).1, ((List.getD s13 (Int.toNat s15) ((0 : Int), (([] : List UInt8), ()))).2.1, ()))] : List (Int × ((List UInt8) × Unit))) ≤ room)) then
          bif (decide (List.length all4 + List.length (List.getD s13 (Int.toNat s15) ((0 : Int), (([] : List UInt8), ()))).2.1 ≤ room)) then
            next l0 (x3 ++ ([((List.getD s13 (Int.toNat s15) ((0 : Int), (([] : List UInt8), ()))).1, ((List.getD s13 (Int.toNat s15) ((0 : Int), (([] : List UInt8), ()))).2.1, ()))] : List (Int × ((List UInt8) × Unit)))) (all4 ++ (List.getD s13 (Int.toNat s15) ((0 : Int), (([] : List UInt8), ()))).2.1) s13 s14 (IntKind.wrap .i64 (s15 + (1 : Int)))
          else none
        else none
    else none
  else
    k0 l0 x3 all4
def law32_EwtokHidden_l6 (ret : Bool → Option AV) (k0 : List (Int × ((List UInt8) × Unit)) → List (Int × ((List UInt8) × Unit)) → List UInt8 → Option AV) : Nat → List (Int × ((List UInt8) × Unit)) → List (Int × ((List UInt8) × Unit)) → List UInt8 → List (Int × ((List UInt8) × Unit)) → Int → Int → Option AV
  | 0 => fun _ _ _ _ _ _ => none
  | n + 1 => law32_EwtokHidden_l6_b ret k0 (law32_EwtokHidden_l6 ret k0 n) n
def law32_EwtokHidden_l17_b (ret : Bool → Option AV) (k2 : List (Int × ((List UInt8) × Unit)) → List UInt8 → Option AV) (next : List (Int × ((List UInt8) × Unit)) → List (Int × ((List UInt8) × Unit)) → List UInt8 → List Bool → Int → Int → Option AV) (_n : Nat) (l0 : List (Int × ((List UInt8) × Unit))) (x3 : List (Int × ((List UInt8) × Unit))) (all4 : List UInt8) (h7 : List Bool) (s45 : Int) (s46 : Int) : Option AV :=
  bif (decide (s46 < s45)) then
    bif ((decide ((0 : Int) ≤ s46)) && (decide (s46 < (List.length h7 : Nat)))) then
      bif ((ref32_Hidden_ok l0 s46) && true) then
        bif ((List.getD h7 (Int.toNat s46) false) != (ref32_Hidden l0 s46)) then
          ret false
        else
          next l0 x3 all4 h7 s45 (IntKind.wrap .i64 (s46 + (1 : Int)))
      else none
    else none
  else
    k2 x3 all4
def law32_EwtokHidden_l17 (ret : Bool → Option AV) (k2 : List (Int × ((List UInt8) × Unit)) → List UInt8 → Option AV) : Nat → List (Int × ((List UInt8) × Unit)) → List (Int × ((List UInt8) × Unit)) → List UInt8 → List Bool → Int → Int → Option AV
  | 0 => fun _ _ _ _ _ _ => none
  | n + 1 => law32_EwtokHidden_l17_b ret k2 (law32_EwtokHidden_l17 ret k2 n) n
def law32_EwtokHidden_k17_2 (_n : Nat) (x3 : List (Int × ((List UInt8) × Unit))) (all4 : List UInt8) : Option AV :=
  bif ((ewtok_Join_ok x3) && true) then
    bif ((ref01_Like_ok (ewtok_Join x3) all4) && true) then
      bif (ref01_Like (ewtok_Join x3) all4) then
        law32_EwtokHidden_ret law32_alive
      else
        law32_EwtokHidden_ret false
    else none
  else none
def law32_EwtokHidden_k6_0 (n : Nat) (l0 : List (Int × ((List UInt8) × Unit))) (x3 : List (Int × ((List UInt8) × Unit))) (all4 : List UInt8) : Option AV :=
  bif ((ewtok_Hidden_ok x3) && true) then
    bif (((List.length (ewtok_Hidden x3) : Nat) : Int) != ((List.length l0 : Nat) : Int)) then
      law32_EwtokHidden_ret false
    else
      law32_EwtokHidden_l17 law32_EwtokHidden_ret (law32_EwtokHidden_k17_2 n) n l0 x3 all4 (ewtok_Hidden x3) ((List.length l0 : Nat) : Int) (0 : Int)
  else none
def law32_EwtokHidden_sh (n : Nat) (l0 : List (Int × ((List UInt8) × Unit))) : Option AV :=
  bif (decide ((40 : Int) < ((List.length l0 : Nat) : Int))) then
    law32_EwtokHidden_ret law32_alive
  else
    law32_EwtokHidden_l6 law32_EwtokHidden_ret (law32_EwtokHidden_k6_0 n) n l0 ([] : List (Int × ((List UInt8) × Unit))) ([] : List UInt8) l0 ((List.length l0 : Nat) : Int) (0 : Int)

/-! sheave/sheavelaw32.EwtokWhole -/

def law32_EwtokWhole_ret (s2 : Bool) : Option AV := some (.dat .bool s2 none)
def law32_EwtokWhole_l5_b (ret : Bool → Option AV) (k0 : List UInt8 → List (Int × ((List UInt8) × Unit)) → Option AV) (next : List UInt8 → List (Int × ((List UInt8) × Unit)) → List (Int × ((List UInt8) × Unit)) → Int → Int → Option AV) (_n : Nat) (s0 : List UInt8) (l3 : List (Int × ((List UInt8) × Unit))) (s18 : List (Int × ((List UInt8) × Unit))) (s19 : Int) (s20 : Int) : Option AV :=
  bif (decide (s20 < s19)) then
    bif ((decide ((0 : Int) ≤ s20)) && (decide (s20 < (List.length s18 : Nat)))) then
      bif (((List.length (List.getD s18 (Int.toNat s20) ((0 : Int), (([] : List UInt8), ()))).2.1 : Nat) : Int) == (0 : Int)) then
        ret false
      else
        bif (decide ((0 : Int) < s20)) then
          bif ((decide ((0 : Int) ≤ (IntKind.wrap .i64 (s20 - (1 : Int))))) && (decide ((IntKind.wrap .i64 (s20 - (1 : Int))) < (List.length l3 : Nat)))) then
            bif (((List.getD l3 (Int.toNat (IntKind.wrap .i64 (s20 - (1 : Int)))) ((0 : Int), (([] : List UInt8), ()))).1 == (1 : Int)) == ((List.getD s18 (Int.toNat s20) ((0 : Int), (([] : List UInt8), ()))).1 == (1 : Int))) then
              ret false
            else
              both (
              bif ((ewtok_Kind_ok (List.getD s18 (Int.toNat s20) ((0 : Int), (([] : List UInt8), ()))).2.1) && true) then
                bif ((List.getD s18 (Int.toNat s20) ((0 : Int), (([] : List UInt8), ()))).1 != (ewtok_Kind (List.getD s18 (Int.toNat s20) ((0 : Int), (([] : List UInt8), ()))).2.1)) then
                  ret false
                else
                  next s0 l3 s18 s19 (IntKind.wrap .i64 (s20 + (1 : Int)))
              else none) (
              both (
              bif ((ewtok_Kind_ok (List.getD s18 (Int.toNat s20) ((0 : Int), (([] : List UInt8), ()))).2.1) && true) then
                bif ((List.getD s18 (Int.toNat s20) ((0 : Int), (([] : List UInt8), ()))).1 != (ewtok_Kind (List.getD s18 (Int.toNat s20) ((0 : Int), (([] : List UInt8), ()))).2.1)) then
                  ret false
                else
                  next s0 l3 s18 s19 (IntKind.wrap .i64 (s20 + (1 : Int)))
              else none) (
              bif ((ewtok_Kind_ok (List.getD s18 (Int.toNat s20) ((0 : Int), (([] : List UInt8), ()))).2.1) && true) then
                bif ((List.getD s18 (Int.toNat s20) ((0 : Int), (([] : List UInt8), ()))).1 != (ewtok_Kind (List.getD s18 (Int.toNat s20) ((0 : Int), (([] : List UInt8), ()))).2.1)) then
                  ret false
                else
                  next s0 l3 s18 s19 (IntKind.wrap .i64 (s20 + (1 : Int)))
              else none))
          else none
        else
          both (
          bif ((ewtok_Kind_ok (List.getD s18 (Int.toNat s20) ((0 : Int), (([] : List UInt8), ()))).2.1) && true) then
            bif ((List.getD s18 (Int.toNat s20) ((0 : Int), (([] : List UInt8), ()))).1 != (ewtok_Kind (List.getD s18 (Int.toNat s20) ((0 : Int), (([] : List UInt8), ()))).2.1)) then
              ret false
            else
              next s0 l3 s18 s19 (IntKind.wrap .i64 (s20 + (1 : Int)))
          else none) (
          both (
          bif ((ewtok_Kind_ok (List.getD s18 (Int.toNat s20) ((0 : Int), (([] : List UInt8), ()))).2.1) && true) then
            bif ((List.getD s18 (Int.toNat s20) ((0 : Int), (([] : List UInt8), ()))).1 != (ewtok_Kind (List.getD s18 (Int.toNat s20) ((0 : Int), (([] : List UInt8), ()))).2.1)) then
              ret false
            else
              next s0 l3 s18 s19 (IntKind.wrap .i64 (s20 + (1 : Int)))
          else none) (
          bif ((ewtok_Kind_ok (List.getD s18 (Int.toNat s20) ((0 : Int), (([] : List UInt8), ()))).2.1) && true) then
            bif ((List.getD s18 (Int.toNat s20) ((0 : Int), (([] : List UInt8), ()))).1 != (ewtok_Kind (List.getD s18 (Int.toNat s20) ((0 : Int), (([] : List UInt8), ()))).2.1)) then
              ret false
            else
              next s0 l3 s18 s19 (IntKind.wrap .i64 (s20 + (1 : Int)))
          else none))
    else none
  else
    k0 s0 l3
def law32_EwtokWhole_l5 (ret : Bool → Option AV) (k0 : List UInt8 → List (Int × ((List UInt8) × Unit)) → Option AV) : Nat → List UInt8 → List (Int × ((List UInt8) × Unit)) → List (Int × ((List UInt8) × Unit)) → Int → Int → Option AV
  | 0 => fun _ _ _ _ _ => none
  | n + 1 => law32_EwtokWhole_l5_b ret k0 (law32_EwtokWhole_l5 ret k0 n) n
def law32_EwtokWhole_l12_b (k2 : List UInt8 → List (Int × ((List UInt8) × Unit)) → Int → Option AV) (next : List UInt8 → List (Int × ((List UInt8) × Unit)) → Int → List (Int × ((List UInt8) × Unit)) → Int → Int → Option AV) (_n : Nat) (s0 : List UInt8) (l3 : List (Int × ((List UInt8) × Unit))) (many6 : Int) (s56 : List (Int × ((List UInt8) × Unit))) (s57 : Int) (s58 : Int) : Option AV :=
  bif (decide (s58 < s57)) then
    bif ((decide ((0 : Int) ≤ s58)) && (decide (s58 < (List.length s56 : Nat)))) then
      bif ((List.getD s56 (Int.toNat s58) ((0 : Int), (([] : List UInt8), ()))).1 != (1 : Int)) then
        next s0 l3 (IntKind.wrap .i64 (many6 + (1 : Int))) s56 s57 (IntKind.wrap .i64 (s58 + (1 : Int)))
      else
        next s0 l3 many6 s56 s57 (IntKind.wrap .i64 (s58 + (1 : Int)))
    else none
  else
    k2 s0 l3 many6
def law32_EwtokWhole_l12 (k2 : List UInt8 → List (Int × ((List UInt8) × Unit)) → Int → Option AV) : Nat → List UInt8 → List (Int × ((List UInt8) × Unit)) → Int → List (Int × ((List UInt8) × Unit)) → Int → Int → Option AV
  | 0 => fun _ _ _ _ _ _ => none
  | n + 1 => law32_EwtokWhole_l12_b k2 (law32_EwtokWhole_l12 k2 n) n
def law32_EwtokWhole_l19_b (k4 : List UInt8 → List (Int × ((List UInt8) × Unit)) → Int → Int → Option AV) (next : List UInt8 → List (Int × ((List UInt8) × Unit)) → Int → Int → List (Int × ((List UInt8) × Unit)) → Int → Int → Option AV) (_n : Nat) (s0 : List UInt8) (l3 : List (Int × ((List UInt8) × Unit))) (many6 : Int) (runs9 : Int) (s68 : List (Int × ((List UInt8) × Unit))) (s69 : Int) (s70 : Int) : Option AV :=
  bif (decide (s70 < s69)) then
    bif ((decide ((0 : Int) ≤ s70)) && (decide (s70 < (List.length s68 : Nat)))) then
      bif ((List.getD s68 (Int.toNat s70) ((0 : Int), (([] : List UInt8), ()))).1 != (1 : Int)) then
        next s0 l3 many6 (IntKind.wrap .i64 (runs9 + (1 : Int))) s68 s69 (IntKind.wrap .i64 (s70 + (1 : Int)))
      else
        next s0 l3 many6 runs9 s68 s69 (IntKind.wrap .i64 (s70 + (1 : Int)))
    else none
  else
    k4 s0 l3 many6 runs9
def law32_EwtokWhole_l19 (k4 : List UInt8 → List (Int × ((List UInt8) × Unit)) → Int → Int → Option AV) : Nat → List UInt8 → List (Int × ((List UInt8) × Unit)) → Int → Int → List (Int × ((List UInt8) × Unit)) → Int → Int → Option AV
  | 0 => fun _ _ _ _ _ _ _ => none
  | n + 1 => law32_EwtokWhole_l19_b k4 (law32_EwtokWhole_l19 k4 n) n
def law32_EwtokWhole_k19_4 (_n : Nat) (s0 : List UInt8) (l3 : List (Int × ((List UInt8) × Unit))) (many6 : Int) (runs9 : Int) : Option AV :=
  bif ((ewtok_Join_ok l3) && true) then
    bif ((ref01_Like_ok (ewtok_Join l3) s0) && true) then
      bif (ref01_Like (ewtok_Join l3) s0) then
        bif (many6 == runs9) then
          law32_EwtokWhole_ret law32_alive
        else
          law32_EwtokWhole_ret false
      else
        law32_EwtokWhole_ret false
    else none
  else none
def law32_EwtokWhole_k12_2 (n : Nat) (s0 : List UInt8) (l3 : List (Int × ((List UInt8) × Unit))) (many6 : Int) : Option AV :=
  law32_EwtokWhole_l19 (law32_EwtokWhole_k19_4 n) n s0 l3 many6 (0 : Int) l3 ((List.length l3 : Nat) : Int) (0 : Int)
def law32_EwtokWhole_k5_0 (n : Nat) (s0 : List UInt8) (l3 : List (Int × ((List UInt8) × Unit))) : Option AV :=
  bif ((ewtok_Shown_ok s0) && true) then
    law32_EwtokWhole_l12 (law32_EwtokWhole_k12_2 n) n s0 l3 (0 : Int) (ewtok_Shown s0) ((List.length (ewtok_Shown s0) : Nat) : Int) (0 : Int)
  else none
def law32_EwtokWhole_sh (n : Nat) (s0 : List UInt8) : Option AV :=
  bif (decide ((500 : Int) < ((List.length s0 : Nat) : Int))) then
    law32_EwtokWhole_ret law32_alive
  else
    bif ((ewtok_Pieces_ok s0) && true) then
      law32_EwtokWhole_l5 law32_EwtokWhole_ret (law32_EwtokWhole_k5_0 n) n s0 (ewtok_Pieces s0) (ewtok_Pieces s0) ((List.length (ewtok_Pieces s0) : Nat) : Int) (0 : Int)
    else none

/-! sheave/sheavelaw32.EwtokPieces -/

def law32_EwtokPieces_ret (s2 : Bool) : Option AV := some (.dat .bool s2 none)
def law32_EwtokPieces_l5_b (k0 : List UInt8 → Int → Option AV) (next : List UInt8 → Int → List (Int × ((List UInt8) × Unit)) → Int → Int → Option AV) (_n : Nat) (s0 : List UInt8) (words3 : Int) (s11 : List (Int × ((List UInt8) × Unit))) (s12 : Int) (s13 : Int) : Option AV :=
  bif (decide (s13 < s12)) then
    bif ((decide ((0 : Int) ≤ s13)) && (decide (s13 < (List.length s11 : Nat)))) then
      bif ((List.getD s11 (Int.toNat s13) ((0 : Int), (([] : List UInt8), ()))).1 == (3 : Int)) then
        next s0 (IntKind.wrap .i64 (words3 + (1 : Int))) s11 s12 (IntKind.wrap .i64 (s13 + (1 : Int)))
      else
        next s0 words3 s11 s12 (IntKind.wrap .i64 (s13 + (1 : Int)))
    else none
  else
    k0 s0 words3
def law32_EwtokPieces_l5 (k0 : List UInt8 → Int → Option AV) : Nat → List UInt8 → Int → List (Int × ((List UInt8) × Unit)) → Int → Int → Option AV
  | 0 => fun _ _ _ _ _ => none
  | n + 1 => law32_EwtokPieces_l5_b k0 (law32_EwtokPieces_l5 k0 n) n
def law32_EwtokPieces_k5_0 (_n : Nat) (s0 : List UInt8) (words3 : Int) : Option AV :=
  bif ((ewtok_Pieces_ok s0) && true) then
    bif ((ref32_Pieces_ok s0) && true) then
      bif ((law32_same_ok (ewtok_Pieces s0) (ref32_Pieces s0)) && true) then
        bif (law32_same (ewtok_Pieces s0) (ref32_Pieces s0)) then
          bif ((ewtok_Shown_ok s0) && true) then
            bif ((ref32_Shown_ok s0) && true) then
              bif ((law32_same_ok (ewtok_Shown s0) (ref32_Shown s0)) && true) then
                bif (law32_same (ewtok_Shown s0) (ref32_Shown s0)) then
                  bif ((ewtok_Kind_ok s0) && true) then
                    bif ((ref32_Kind_ok s0) && true) then
                      bif ((ewtok_Kind s0) == (ref32_Kind s0)) then
                        bif ((ewtok_Words_ok s0) && true) then
                          bif ((ewtok_Words s0) == words3) then
                            law32_EwtokPieces_ret law32_alive
                          else
                            law32_EwtokPieces_ret false
                        else none
                      else
                        law32_EwtokPieces_ret false
                    else none
                  else none
                else
                  law32_EwtokPieces_ret false
              else none
            else none
          else none
        else
          law32_EwtokPieces_ret false
      else none
    else none
  else none
def law32_EwtokPieces_sh (n : Nat) (s0 : List UInt8) : Option AV :=
  bif (decide ((500 : Int) < ((List.length s0 : Nat) : Int))) then
    law32_EwtokPieces_ret law32_alive
  else
    bif ((ref32_Pieces_ok s0) && true) then
      law32_EwtokPieces_l5 (law32_EwtokPieces_k5_0 n) n s0 (0 : Int) (ref32_Pieces s0) ((List.length (ref32_Pieces s0) : Nat) : Int) (0 : Int)
    else none
end
end Go.Av
