import Derived.Test.YtcfhfjjohmdaoaaDoorFoM
namespace Go.Av
set_option linter.unusedVariables false

/-! internal/stringslite.IndexByte -/

def internal_stringslite_IndexByte_ret (s4 : Int) : Option AV := some (.dat (.int .i64) s4 none)
def internal_stringslite_IndexByte_sh (_n : Nat) (s0 : List UInt8) (c1 : UInt8) : Option AV :=
  internal_stringslite_IndexByte_ret (internal_bytealg_IndexByteString s0 c1)

/-! strings.IndexByte -/

def strings_IndexByte_ret (s4 : Int) : Option AV := some (.dat (.int .i64) s4 none)
def strings_IndexByte_sh (_n : Nat) (s0 : List UInt8) (c1 : UInt8) : Option AV :=
  strings_IndexByte_ret (internal_stringslite_IndexByte s0 c1)

/-! sheave/octet.plain -/

def octet_plain_ret (s2 : Int) : Option AV := some (.dat (.int .i64) s2 none)
def octet_plain_sh (_n : Nat) (c0 : UInt8) : Option AV :=
  bif (decide (c0 < (32 : UInt8))) then
    bif (c0 == (32 : UInt8)) then
      octet_plain_ret (bits .or .i64 (bits .or .i64 (0 : Int) (1 : Int)) (2 : Int))
    else
      bif (c0 == (9 : UInt8)) then
        octet_plain_ret (bits .or .i64 (bits .or .i64 (0 : Int) (1 : Int)) (2 : Int))
      else
        bif (decide ((48 : UInt8) ≤ c0)) then
          bif (decide (c0 ≤ (57 : UInt8))) then
            octet_plain_ret (bits .or .i64 (bits .or .i64 (0 : Int) (1 : Int)) (648 : Int))
          else
            bif (decide ((65 : UInt8) ≤ c0)) then
              bif (decide (c0 ≤ (90 : UInt8))) then
                bif (decide (c0 ≤ (90 : UInt8))) then
                  octet_plain_ret (bits .or .i64 (bits .or .i64 (0 : Int) (1 : Int)) (656 : Int))
                else
                  octet_plain_ret (bits .or .i64 (0 : Int) (1 : Int))
              else
                bif (decide ((97 : UInt8) ≤ c0)) then
                  bif (decide (c0 ≤ (122 : UInt8))) then
                    octet_plain_ret (bits .or .i64 (bits .or .i64 (0 : Int) (1 : Int)) (656 : Int))
                  else
                    octet_plain_ret (bits .or .i64 (0 : Int) (1 : Int))
                else
                  octet_plain_ret (bits .or .i64 (0 : Int) (1 : Int))
            else
              bif (decide ((97 : UInt8) ≤ c0)) then
                bif (decide (c0 ≤ (122 : UInt8))) then
                  octet_plain_ret (bits .or .i64 (bits .or .i64 (0 : Int) (1 : Int)) (656 : Int))
                else
                  octet_plain_ret (bits .or .i64 (0 : Int) (1 : Int))
              else
                octet_plain_ret (bits .or .i64 (0 : Int) (1 : Int))
        else
          bif (decide ((65 : UInt8) ≤ c0)) then
            bif (decide (c0 ≤ (90 : UInt8))) then
              bif (decide (c0 ≤ (90 : UInt8))) then
                octet_plain_ret (bits .or .i64 (bits .or .i64 (0 : Int) (1 : Int)) (656 : Int))
              else
                octet_plain_ret (bits .or .i64 (0 : Int) (1 : Int))
            else
              bif (decide ((97 : UInt8) ≤ c0)) then
                bif (decide (c0 ≤ (122 : UInt8))) then
                  octet_plain_ret (bits .or .i64 (bits .or .i64 (0 : Int) (1 : Int)) (656 : Int))
                else
                  octet_plain_ret (bits .or .i64 (0 : Int) (1 : Int))
              else
                octet_plain_ret (bits .or .i64 (0 : Int) (1 : Int))
          else
            bif (decide ((97 : UInt8) ≤ c0)) then
              bif (decide (c0 ≤ (122 : UInt8))) then
                octet_plain_ret (bits .or .i64 (bits .or .i64 (0 : Int) (1 : Int)) (656 : Int))
              else
                octet_plain_ret (bits .or .i64 (0 : Int) (1 : Int))
            else
              octet_plain_ret (bits .or .i64 (0 : Int) (1 : Int))
  else
    bif (c0 == (127 : UInt8)) then
      bif (c0 == (32 : UInt8)) then
        octet_plain_ret (bits .or .i64 (bits .or .i64 (0 : Int) (1 : Int)) (2 : Int))
      else
        bif (c0 == (9 : UInt8)) then
          octet_plain_ret (bits .or .i64 (bits .or .i64 (0 : Int) (1 : Int)) (2 : Int))
        else
          bif (decide ((48 : UInt8) ≤ c0)) then
            bif (decide (c0 ≤ (57 : UInt8))) then
              octet_plain_ret (bits .or .i64 (bits .or .i64 (0 : Int) (1 : Int)) (648 : Int))
            else
              bif (decide ((65 : UInt8) ≤ c0)) then
                bif (decide (c0 ≤ (90 : UInt8))) then
                  bif (decide (c0 ≤ (90 : UInt8))) then
                    octet_plain_ret (bits .or .i64 (bits .or .i64 (0 : Int) (1 : Int)) (656 : Int))
                  else
                    octet_plain_ret (bits .or .i64 (0 : Int) (1 : Int))
                else
                  bif (decide ((97 : UInt8) ≤ c0)) then
                    bif (decide (c0 ≤ (122 : UInt8))) then
                      octet_plain_ret (bits .or .i64 (bits .or .i64 (0 : Int) (1 : Int)) (656 : Int))
                    else
                      octet_plain_ret (bits .or .i64 (0 : Int) (1 : Int))
                  else
                    octet_plain_ret (bits .or .i64 (0 : Int) (1 : Int))
              else
                bif (decide ((97 : UInt8) ≤ c0)) then
                  bif (decide (c0 ≤ (122 : UInt8))) then
                    octet_plain_ret (bits .or .i64 (bits .or .i64 (0 : Int) (1 : Int)) (656 : Int))
                  else
                    octet_plain_ret (bits .or .i64 (0 : Int) (1 : Int))
                else
                  octet_plain_ret (bits .or .i64 (0 : Int) (1 : Int))
          else
            bif (decide ((65 : UInt8) ≤ c0)) then
              bif (decide (c0 ≤ (90 : UInt8))) then
                bif (decide (c0 ≤ (90 : UInt8))) then
                  octet_plain_ret (bits .or .i64 (bits .or .i64 (0 : Int) (1 : Int)) (656 : Int))
                else
                  octet_plain_ret (bits .or .i64 (0 : Int) (1 : Int))
              else
                bif (decide ((97 : UInt8) ≤ c0)) then
                  bif (decide (c0 ≤ (122 : UInt8))) then
                    octet_plain_ret (bits .or .i64 (bits .or .i64 (0 : Int) (1 : Int)) (656 : Int))
                  else
                    octet_plain_ret (bits .or .i64 (0 : Int) (1 : Int))
                else
                  octet_plain_ret (bits .or .i64 (0 : Int) (1 : Int))
            else
              bif (decide ((97 : UInt8) ≤ c0)) then
                bif (decide (c0 ≤ (122 : UInt8))) then
                  octet_plain_ret (bits .or .i64 (bits .or .i64 (0 : Int) (1 : Int)) (656 : Int))
                else
                  octet_plain_ret (bits .or .i64 (0 : Int) (1 : Int))
              else
                octet_plain_ret (bits .or .i64 (0 : Int) (1 : Int))
    else
      bif (c0 == (32 : UInt8)) then
        octet_plain_ret (bits .or .i64 (0 : Int) (2 : Int))
      else
        bif (c0 == (9 : UInt8)) then
          octet_plain_ret (bits .or .i64 (0 : Int) (2 : Int))
        else
          bif (decide ((48 : UInt8) ≤ c0)) then
            bif (decide (c0 ≤ (57 : UInt8))) then
              octet_plain_ret (bits .or .i64 (0 : Int) (648 : Int))
            else
              bif (decide ((65 : UInt8) ≤ c0)) then
                bif (decide (c0 ≤ (90 : UInt8))) then
                  bif (decide (c0 ≤ (90 : UInt8))) then
                    octet_plain_ret (bits .or .i64 (0 : Int) (656 : Int))
                  else
                    octet_plain_ret (0 : Int)
                else
                  bif (decide ((97 : UInt8) ≤ c0)) then
                    bif (decide (c0 ≤ (122 : UInt8))) then
                      octet_plain_ret (bits .or .i64 (0 : Int) (656 : Int))
                    else
                      octet_plain_ret (0 : Int)
                  else
                    octet_plain_ret (0 : Int)
              else
                bif (decide ((97 : UInt8) ≤ c0)) then
                  bif (decide (c0 ≤ (122 : UInt8))) then
                    octet_plain_ret (bits .or .i64 (0 : Int) (656 : Int))
                  else
                    octet_plain_ret (0 : Int)
                else
                  octet_plain_ret (0 : Int)
          else
            bif (decide ((65 : UInt8) ≤ c0)) then
              bif (decide (c0 ≤ (90 : UInt8))) then
                bif (decide (c0 ≤ (90 : UInt8))) then
                  octet_plain_ret (bits .or .i64 (0 : Int) (656 : Int))
                else
                  octet_plain_ret (0 : Int)
              else
                bif (decide ((97 : UInt8) ≤ c0)) then
                  bif (decide (c0 ≤ (122 : UInt8))) then
                    octet_plain_ret (bits .or .i64 (0 : Int) (656 : Int))
                  else
                    octet_plain_ret (0 : Int)
                else
                  octet_plain_ret (0 : Int)
            else
              bif (decide ((97 : UInt8) ≤ c0)) then
                bif (decide (c0 ≤ (122 : UInt8))) then
                  octet_plain_ret (bits .or .i64 (0 : Int) (656 : Int))
                else
                  octet_plain_ret (0 : Int)
              else
                octet_plain_ret (0 : Int)

/-! sheave/octet.in -/

def octet_in_ret (s4 : Bool) : Option AV := some (.dat .bool s4 none)
def octet_in_sh (_n : Nat) (s0 : List UInt8) (c1 : UInt8) : Option AV :=
  octet_in_ret (decide ((0 : Int) ≤ (strings_IndexByte s0 c1)))

/-! sheave/octet.Kinds -/

def octet_Kinds_ret (s2 : Int) : Option AV := some (.dat (.int .i64) s2 none)
def octet_Kinds_sh (_n : Nat) (c0 : UInt8) : Option AV :=
  bif (decide (c0 < (33 : UInt8))) then
    octet_Kinds_ret (octet_plain c0)
  else
    bif (decide ((126 : UInt8) < c0)) then
      octet_Kinds_ret (octet_plain c0)
    else
      bif (octet_in ([33, 42, 43, 45, 47] : List UInt8) c0) then
        bif (octet_in ([43, 47] : List UInt8) c0) then
          bif (octet_in ([40, 41, 60, 62, 64, 44, 59, 58, 92, 34, 47, 91, 93, 63, 61] : List UInt8) c0) then
            octet_Kinds_ret (bits .or .i64 (bits .or .i64 (bits .or .i64 (bits .or .i64 (octet_plain c0) (4 : Int)) (128 : Int)) (512 : Int)) (32 : Int))
          else
            bif (!(octet_in ([42, 39, 37] : List UInt8) c0)) then
              octet_Kinds_ret (bits .or .i64 (bits .or .i64 (bits .or .i64 (bits .or .i64 (bits .or .i64 (octet_plain c0) (4 : Int)) (128 : Int)) (512 : Int)) (64 : Int)) (256 : Int))
            else
              octet_Kinds_ret (bits .or .i64 (bits .or .i64 (bits .or .i64 (bits .or .i64 (octet_plain c0) (4 : Int)) (128 : Int)) (512 : Int)) (64 : Int))
        else
          bif (octet_in ([40, 41, 60, 62, 64, 44, 59, 58, 92, 34, 47, 91, 93, 63, 61] : List UInt8) c0) then
            octet_Kinds_ret (bits .or .i64 (bits .or .i64 (bits .or .i64 (octet_plain c0) (4 : Int)) (128 : Int)) (32 : Int))
          else
            bif (!(octet_in ([42, 39, 37] : List UInt8) c0)) then
              octet_Kinds_ret (bits .or .i64 (bits .or .i64 (bits .or .i64 (bits .or .i64 (octet_plain c0) (4 : Int)) (128 : Int)) (64 : Int)) (256 : Int))
            else
              octet_Kinds_ret (bits .or .i64 (bits .or .i64 (bits .or .i64 (octet_plain c0) (4 : Int)) (128 : Int)) (64 : Int))
      else
        bif (octet_in ([43, 47] : List UInt8) c0) then
          bif (octet_in ([40, 41, 60, 62, 64, 44, 59, 58, 92, 34, 47, 91, 93, 63, 61] : List UInt8) c0) then
            octet_Kinds_ret (bits .or .i64 (bits .or .i64 (bits .or .i64 (octet_plain c0) (4 : Int)) (512 : Int)) (32 : Int))
          else
            bif (!(octet_in ([42, 39, 37] : List UInt8) c0)) then
              octet_Kinds_ret (bits .or .i64 (bits .or .i64 (bits .or .i64 (bits .or .i64 (octet_plain c0) (4 : Int)) (512 : Int)) (64 : Int)) (256 : Int))
            else
              octet_Kinds_ret (bits .or .i64 (bits .or .i64 (bits .or .i64 (octet_plain c0) (4 : Int)) (512 : Int)) (64 : Int))
        else
          bif (octet_in ([40, 41, 60, 62, 64, 44, 59, 58, 92, 34, 47, 91, 93, 63, 61] : List UInt8) c0) then
            octet_Kinds_ret (bits .or .i64 (bits .or .i64 (octet_plain c0) (4 : Int)) (32 : Int))
          else
            bif (!(octet_in ([42, 39, 37] : List UInt8) c0)) then
              octet_Kinds_ret (bits .or .i64 (bits .or .i64 (bits .or .i64 (octet_plain c0) (4 : Int)) (64 : Int)) (256 : Int))
            else
              octet_Kinds_ret (bits .or .i64 (bits .or .i64 (octet_plain c0) (4 : Int)) (64 : Int))

/-! sheave/octet.Is -/

def octet_Is_ret (s4 : Bool) : Option AV := some (.dat .bool s4 none)
def octet_Is_sh (_n : Nat) (c0 : UInt8) (kinds1 : Int) : Option AV :=
  octet_Is_ret ((bits .and .i64 (octet_Kinds c0) kinds1) != (0 : Int))

/-! bytes.Cut -/

def bytes_Cut_ret (before4 : List UInt8) (after5 : List UInt8) (found6 : Bool) : Option AV := some (.tup [(.dat (.sl .byte) before4 none), (.dat (.sl .byte) after5 none), (.dat .bool found6 none)])
def bytes_Cut_sh (_n : Nat) (s0 : List UInt8) (sep1 : List UInt8) : Option AV :=
  bif ((bytes_Index_ok s0 sep1) && true) then
    bif (decide ((0 : Int) ≤ (bytes_Index s0 sep1))) then
      bif (((decide ((0 : Int) ≤ ((0 : Nat) : Int))) && (decide (((0 : Nat) : Int) ≤ (bytes_Index s0 sep1)))) && (decide ((bytes_Index s0 sep1) ≤ ((List.length s0 : Nat) : Int)))) then
        bif (((decide ((0 : Int) ≤ (IntKind.wrap .i64 ((bytes_Index s0 sep1) + ((List.length sep1 : Nat) : Int))))) && (decide ((IntKind.wrap .i64 ((bytes_Index s0 sep1) + ((List.length sep1 : Nat) : Int))) ≤ ((List.length s0 : Nat) : Int)))) && (decide (((List.length s0 : Nat) : Int) ≤ ((List.length s0 : Nat) : Int)))) then
          bytes_Cut_ret (List.drop (Int.toNat ((0 : Nat) : Int)) (List.take (Int.toNat (bytes_Index s0 sep1)) s0)) (List.drop (Int.toNat (IntKind.wrap .i64 ((bytes_Index s0 sep1) + ((List.length sep1 : Nat) : Int)))) (List.take (Int.toNat ((List.length s0 : Nat) : Int)) s0)) true
        else none
      else none
    else
      bytes_Cut_ret s0 ([] : List UInt8) false
  else none

/-! sheave/fold.Unfold -/

def fold_Unfold_ret (s2 : List UInt8) : Option AV := some (.dat (.sl .byte) s2 (some (2, 5)))
def fold_Unfold_l2_b (ret : List UInt8 → Option AV) (next : List UInt8 → List UInt8 → Option AV) (_n : Nat) (s0 : List UInt8) (out3 : List UInt8) : Option AV :=
  bif ((bytes_Cut_ok s0 ([(13 : UInt8), (10 : UInt8)] : List UInt8)) && true) then
    bif (decide (List.length out3 + List.length ((bytes_Cut s0 ([(13 : UInt8), (10 : UInt8)] : List UInt8)).1) ≤ room)) then
      bif (!((bytes_Cut s0 ([(13 : UInt8), (10 : UInt8)] : List UInt8)).2.2)) then
        ret (out3 ++ ((bytes_Cut s0 ([(13 : UInt8), (10 : UInt8)] : List UInt8)).1))
      else
        bif (((List.length ((bytes_Cut s0 ([(13 : UInt8), (10 : UInt8)] : List UInt8)).2.1) : Nat) : Int) == (0 : Int)) then
          bif (decide (List.length (out3 ++ ((bytes_Cut s0 ([(13 : UInt8), (10 : UInt8)] : List UInt8)).1)) + List.length ([13, 10] : List UInt8) ≤ room)) then
            next ((bytes_Cut s0 ([(13 : UInt8), (10 : UInt8)] : List UInt8)).2.1) ((out3 ++ ((bytes_Cut s0 ([(13 : UInt8), (10 : UInt8)] : List UInt8)).1)) ++ ([13, 10] : List UInt8))
          else none
        else
          bif ((decide ((0 : Int) ≤ (0 : Int))) && (decide ((0 : Int) < (List.length ((bytes_Cut s0 ([(13 : UInt8), (10 : UInt8)] : List UInt8)).2.1) : Nat)))) then
            bif (!(octet_Is (List.getD ((bytes_Cut s0 ([(13 : UInt8), (10 : UInt8)] : List UInt8)).2.1) (Int.toNat (0 : Int)) (0 : UInt8)) (2 : Int))) then
              bif (decide (List.length (out3 ++ ((bytes_Cut s0 ([(13 : UInt8), (10 : UInt8)] : List UInt8)).1)) + List.length ([13, 10] : List UInt8) ≤ room)) then
                next ((bytes_Cut s0 ([(13 : UInt8), (10 : UInt8)] : List UInt8)).2.1) ((out3 ++ ((bytes_Cut s0 ([(13 : UInt8), (10 : UInt8)] : List UInt8)).1)) ++ ([13, 10] : List UInt8))
              else none
            else
              next ((bytes_Cut s0 ([(13 : UInt8), (10 : UInt8)] : List UInt8)).2.1) (out3 ++ ((bytes_Cut s0 ([(13 : UInt8), (10 : UInt8)] : List UInt8)).1))
          else none
    else none
  else none
def fold_Unfold_l2 (ret : List UInt8 → Option AV) : Nat → List UInt8 → List UInt8 → Option AV
  | 0 => fun _ _ => none
  | n + 1 => fold_Unfold_l2_b ret (fold_Unfold_l2 ret n) n
def fold_Unfold_sh (n : Nat) (s0 : List UInt8) : Option AV :=
  fold_Unfold_l2 fold_Unfold_ret n s0 ([] : List UInt8)

/-! sheave/fold.Folds -/

def fold_Folds_ret (s2 : Int) : Option AV := some (.dat (.int .i64) s2 none)
def fold_Folds_sh (_n : Nat) (s0 : List UInt8) : Option AV :=
  bif ((fold_Unfold_ok s0) && true) then
    fold_Folds_ret (IntKind.wrap .i64 (Int.tdiv (IntKind.wrap .i64 (((List.length s0 : Nat) : Int) - ((List.length (fold_Unfold s0) : Nat) : Int))) (2 : Int)))
  else none

/-! bytes.makeASCIISet -/

def bytes_makeASCIISet_ret (as2 : List Bool) (ok3 : Bool) : Option AV := some (.tup [(.dat (.arr 256 .bool) as2 none), (.dat .bool ok3 none)])
def bytes_makeASCIISet_l2_b (ret : List Bool → Bool → Option AV) (k0 : List Bool → Option AV) (next : List UInt8 → List Bool → Int → Option AV) (_n : Nat) (chars0 : List UInt8) (as2 : List Bool) (i4 : Int) : Option AV :=
  bif (decide (i4 < ((List.length chars0 : Nat) : Int))) then
    bif ((decide ((0 : Int) ≤ i4)) && (decide (i4 < (List.length chars0 : Nat)))) then
      bif (decide ((128 : UInt8) ≤ (List.getD chars0 (Int.toNat i4) (0 : UInt8)))) then
        ret as2 false
      else
        bif ((decide ((0 : Int) ≤ ((UInt8.toNat (List.getD chars0 (Int.toNat i4) (0 : UInt8)) : Nat) : Int))) && (decide (((UInt8.toNat (List.getD chars0 (Int.toNat i4) (0 : UInt8)) : Nat) : Int) < (256 : Nat)))) then
          next chars0 (List.set as2 (Int.toNat ((UInt8.toNat (List.getD chars0 (Int.toNat i4) (0 : UInt8)) : Nat) : Int)) true) (IntKind.wrap .i64 (i4 + (1 : Int)))
        else none
    else none
  else
    k0 as2
def bytes_makeASCIISet_l2 (ret : List Bool → Bool → Option AV) (k0 : List Bool → Option AV) : Nat → List UInt8 → List Bool → Int → Option AV
  | 0 => fun _ _ _ => none
  | n + 1 => bytes_makeASCIISet_l2_b ret k0 (bytes_makeASCIISet_l2 ret k0 n) n
def bytes_makeASCIISet_k2_0 (_n : Nat) (as2 : List Bool) : Option AV :=
  bytes_makeASCIISet_ret as2 true
def bytes_makeASCIISet_sh (n : Nat) (chars0 : List UInt8) : Option AV :=
  bytes_makeASCIISet_l2 bytes_makeASCIISet_ret (bytes_makeASCIISet_k2_0 n) n chars0 (List.replicate 256 false) (0 : Int)

/-! bytes.shouldUseASCIISet -/

def bytes_shouldUseASCIISet_ret (s2 : Bool) : Option AV := some (.dat .bool s2 none)
def bytes_shouldUseASCIISet_sh (_n : Nat) (bufLen0 : Int) : Option AV :=
  bytes_shouldUseASCIISet_ret (decide ((8 : Int) < bufLen0))

/-! (*bytes.asciiSet).contains -/

def __bytes_asciiSet__contains_ret (s4 : Bool) : Option AV := some (.dat .bool s4 none)
def __bytes_asciiSet__contains_sh (_n : Nat) (as0 : List Bool) (c1 : UInt8) : Option AV :=
  bif ((decide ((0 : Int) ≤ ((UInt8.toNat c1 : Nat) : Int))) && (decide (((UInt8.toNat c1 : Nat) : Int) < (256 : Nat)))) then
    __bytes_asciiSet__contains_ret (List.getD as0 (Int.toNat ((UInt8.toNat c1 : Nat) : Int)) false)
  else none

/-! bytes.IndexAny -/

def bytes_IndexAny_ret (s4 : Int) : Option AV := some (.dat (.int .i64) s4 none)
def bytes_IndexAny_l7_b (m0 : Int) (ret : Int → Option AV) (k0 : Option AV) (next : List UInt8 → Nat → Option AV) (_n : Nat) (s28 : List UInt8) (s28p : Nat) : Option AV :=
  bif (decide (s28p < List.length s28)) then
    bif (decide (s28p < List.length s28)) then
      bif ((decL s28 s28p).1 == (65533 : Int)) then
        ret (0 : Int)
      else
        next s28 (bif (decide (s28p < List.length s28)) then s28p + (decL s28 s28p).2 else s28p)
    else none
  else
    k0
def bytes_IndexAny_l7 (m0 : Int) (ret : Int → Option AV) (k0 : Option AV) : Nat → List UInt8 → Nat → Option AV
  | 0 => fun _ _ => none
  | n + 1 => (bytes_IndexAny_l7_b m0) ret k0 ((bytes_IndexAny_l7 m0) ret k0 n) n
def bytes_IndexAny_k7_0 (m0 : Int) (_n : Nat) : Option AV :=
  bytes_IndexAny_ret (-1 : Int)
def bytes_IndexAny_l24_b (m0 : Int) (ret : Int → Option AV) (k2 : Option AV) (next : List Bool → List UInt8 → Int → Int → Option AV) (_n : Nat) (as7 : List Bool) (s60 : List UInt8) (s61 : Int) (s62 : Int) : Option AV :=
  bif (decide (s62 < s61)) then
    bif ((decide ((0 : Int) ≤ s62)) && (decide (s62 < (List.length s60 : Nat)))) then
      bif (__bytes_asciiSet__contains as7 (List.getD s60 (Int.toNat s62) (0 : UInt8))) then
        ret s62
      else
        next as7 s60 s61 (IntKind.wrap .i64 (s62 + (1 : Int)))
    else none
  else
    k2
def bytes_IndexAny_l24 (m0 : Int) (ret : Int → Option AV) (k2 : Option AV) : Nat → List Bool → List UInt8 → Int → Int → Option AV
  | 0 => fun _ _ _ _ => none
  | n + 1 => (bytes_IndexAny_l24_b m0) ret k2 ((bytes_IndexAny_l24 m0) ret k2 n) n
def bytes_IndexAny_k24_2 (m0 : Int) (_n : Nat) : Option AV :=
  bytes_IndexAny_ret (-1 : Int)
def bytes_IndexAny_l48_b (m0 : Int) (ret : Int → Option AV) (k6 : List UInt8 → List UInt8 → Int → Int → Option AV) (next : List UInt8 → List UInt8 → Int → Int → Int → List UInt8 → Nat → Option AV) (_n : Nat) (s0 : List UInt8) (chars1 : List UInt8) (width11 : Int) (i12 : Int) (r13 : Int) (s121 : List UInt8) (s121p : Nat) : Option AV :=
  bif (decide (s121p < List.length s121)) then
    bif (decide (s121p < List.length s121)) then
      bif (r13 == (decL s121 s121p).1) then
        ret i12
      else
        next s0 chars1 width11 i12 r13 s121 (bif (decide (s121p < List.length s121)) then s121p + (decL s121 s121p).2 else s121p)
    else none
  else
    k6 s0 chars1 width11 i12
def bytes_IndexAny_l48 (m0 : Int) (ret : Int → Option AV) (k6 : List UInt8 → List UInt8 → Int → Int → Option AV) : Nat → List UInt8 → List UInt8 → Int → Int → Int → List UInt8 → Nat → Option AV
  | 0 => fun _ _ _ _ _ _ _ => none
  | n + 1 => (bytes_IndexAny_l48_b m0) ret k6 ((bytes_IndexAny_l48 m0) ret k6 n) n
def bytes_IndexAny_k48_6 (m0 : Int) (_ret : Int → Option AV) (_k4 : Option AV) (next : List UInt8 → List UInt8 → Int → Option AV) (_n : Nat) (s0 : List UInt8) (chars1 : List UInt8) (width11 : Int) (i12 : Int) : Option AV :=
  next s0 chars1 (IntKind.wrap .i64 (i12 + width11))
def bytes_IndexAny_l32_b (m0 : Int) (ret : Int → Option AV) (k4 : Option AV) (next : List UInt8 → List UInt8 → Int → Option AV) (n : Nat) (s0 : List UInt8) (chars1 : List UInt8) (i12 : Int) : Option AV :=
  bif (decide (i12 < ((List.length s0 : Nat) : Int))) then
    bif ((decide ((0 : Int) ≤ i12)) && (decide (i12 < (List.length s0 : Nat)))) then
      bif (decide ((IntKind.wrap .i32 ((UInt8.toNat (List.getD s0 (Int.toNat i12) (0 : UInt8)) : Nat) : Int)) < (128 : Int))) then
        bif ((decide ((0 : Int) ≤ i12)) && (decide (i12 < (List.length s0 : Nat)))) then
          bif (decide ((0 : Int) ≤ (internal_bytealg_IndexByteString chars1 (List.getD s0 (Int.toNat i12) (0 : UInt8))))) then
            ret i12
          else
            next s0 chars1 (IntKind.wrap .i64 (i12 + (1 : Int)))
        else none
      else
        bif (((decide ((0 : Int) ≤ i12)) && (decide (i12 ≤ ((List.length s0 : Nat) : Int)))) && (decide (((List.length s0 : Nat) : Int) ≤ ((List.length s0 : Nat) : Int)))) then
          bif ((unicode_utf8_DecodeRune_ok (List.drop (Int.toNat i12) (List.take (Int.toNat ((List.length s0 : Nat) : Int)) s0))) && true) then
            bif (((unicode_utf8_DecodeRune (List.drop (Int.toNat i12) (List.take (Int.toNat ((List.length s0 : Nat) : Int)) s0))).1) != (65533 : Int)) then
              bif (((List.length chars1 : Nat) : Int) == ((unicode_utf8_DecodeRune (List.drop (Int.toNat i12) (List.take (Int.toNat ((List.length s0 : Nat) : Int)) s0))).2)) then
                bif (chars1 == (Utf8.encode ((unicode_utf8_DecodeRune (List.drop (Int.toNat i12) (List.take (Int.toNat ((List.length s0 : Nat) : Int)) s0))).1)).data.toList) then
                  ret i12
                else
                  next s0 chars1 (IntKind.wrap .i64 (i12 + ((unicode_utf8_DecodeRune (List.drop (Int.toNat i12) (List.take (Int.toNat ((List.length s0 : Nat) : Int)) s0))).2)))
              else
                bif (decide (((unicode_utf8_DecodeRune (List.drop (Int.toNat i12) (List.take (Int.toNat ((List.length s0 : Nat) : Int)) s0))).2) ≤ m0)) then
                  bif ((internal_bytealg_IndexString_ok m0 chars1 (Utf8.encode ((unicode_utf8_DecodeRune (List.drop (Int.toNat i12) (List.take (Int.toNat ((List.length s0 : Nat) : Int)) s0))).1)).data.toList) && true) then
                    bif (decide ((0 : Int) ≤ (internal_bytealg_IndexString chars1 (Utf8.encode ((unicode_utf8_DecodeRune (List.drop (Int.toNat i12) (List.take (Int.toNat ((List.length s0 : Nat) : Int)) s0))).1)).data.toList))) then
                      ret i12
                    else
                      next s0 chars1 (IntKind.wrap .i64 (i12 + ((unicode_utf8_DecodeRune (List.drop (Int.toNat i12) (List.take (Int.toNat ((List.length s0 : Nat) : Int)) s0))).2)))
                  else none
                else
                  (bytes_IndexAny_l48 m0) ret ((bytes_IndexAny_k48_6 m0) ret k4 next n) n s0 chars1 ((unicode_utf8_DecodeRune (List.drop (Int.toNat i12) (List.take (Int.toNat ((List.length s0 : Nat) : Int)) s0))).2) i12 ((unicode_utf8_DecodeRune (List.drop (Int.toNat i12) (List.take (Int.toNat ((List.length s0 : Nat) : Int)) s0))).1) chars1 0
            else
              (bytes_IndexAny_l48 m0) ret ((bytes_IndexAny_k48_6 m0) ret k4 next n) n s0 chars1 ((unicode_utf8_DecodeRune (List.drop (Int.toNat i12) (List.take (Int.toNat ((List.length s0 : Nat) : Int)) s0))).2) i12 ((unicode_utf8_DecodeRune (List.drop (Int.toNat i12) (List.take (Int.toNat ((List.length s0 : Nat) : Int)) s0))).1) chars1 0
          else none
        else none
    else none
  else
    k4
def bytes_IndexAny_l32 (m0 : Int) (ret : Int → Option AV) (k4 : Option AV) : Nat → List UInt8 → List UInt8 → Int → Option AV
  | 0 => fun _ _ _ => none
  | n + 1 => (bytes_IndexAny_l32_b m0) ret k4 ((bytes_IndexAny_l32 m0) ret k4 n) n
def bytes_IndexAny_k32_4 (m0 : Int) (_n : Nat) : Option AV :=
  bytes_IndexAny_ret (-1 : Int)
def bytes_IndexAny_sh (m0 : Int) (n : Nat) (s0 : List UInt8) (chars1 : List UInt8) : Option AV :=
  bif (chars1 == ([] : List UInt8)) then
    bytes_IndexAny_ret (-1 : Int)
  else
    bif (((List.length s0 : Nat) : Int) == (1 : Int)) then
      bif ((decide ((0 : Int) ≤ (0 : Int))) && (decide ((0 : Int) < (List.length s0 : Nat)))) then
        bif (decide ((128 : Int) ≤ (IntKind.wrap .i32 ((UInt8.toNat (List.getD s0 (Int.toNat (0 : Int)) (0 : UInt8)) : Nat) : Int)))) then
          (bytes_IndexAny_l7 m0) bytes_IndexAny_ret ((bytes_IndexAny_k7_0 m0) n) n chars1 0
        else
          bif ((decide ((0 : Int) ≤ (0 : Int))) && (decide ((0 : Int) < (List.length s0 : Nat)))) then
            bif (decide ((0 : Int) ≤ (internal_bytealg_IndexByteString chars1 (List.getD s0 (Int.toNat (0 : Int)) (0 : UInt8))))) then
              bytes_IndexAny_ret (0 : Int)
            else
              bytes_IndexAny_ret (-1 : Int)
          else none
      else none
    else
      bif (((List.length chars1 : Nat) : Int) == (1 : Int)) then
        bif ((decide ((0 : Int) ≤ (0 : Int))) && (decide ((0 : Int) < (List.length chars1 : Nat)))) then
          bif (decide ((128 : Int) ≤ (IntKind.wrap .i32 ((UInt8.toNat (List.getD chars1 (Int.toNat (0 : Int)) (0 : UInt8)) : Nat) : Int)))) then
            bif ((bytes_IndexRune_ok s0 (65533 : Int)) && true) then
              bytes_IndexAny_ret (bytes_IndexRune s0 (65533 : Int))
            else none
          else
            bif ((bytes_IndexRune_ok s0 (IntKind.wrap .i32 ((UInt8.toNat (List.getD chars1 (Int.toNat (0 : Int)) (0 : UInt8)) : Nat) : Int))) && true) then
              bytes_IndexAny_ret (bytes_IndexRune s0 (IntKind.wrap .i32 ((UInt8.toNat (List.getD chars1 (Int.toNat (0 : Int)) (0 : UInt8)) : Nat) : Int)))
            else none
        else none
      else
        bif (bytes_shouldUseASCIISet ((List.length s0 : Nat) : Int)) then
          bif ((bytes_makeASCIISet_ok chars1) && true) then
            bif ((bytes_makeASCIISet chars1).2) then
              (bytes_IndexAny_l24 m0) bytes_IndexAny_ret ((bytes_IndexAny_k24_2 m0) n) n ((bytes_makeASCIISet chars1).1) s0 ((List.length s0 : Nat) : Int) (0 : Int)
            else
              (bytes_IndexAny_l32 m0) bytes_IndexAny_ret ((bytes_IndexAny_k32_4 m0) n) n s0 chars1 (0 : Int)
          else none
        else
          (bytes_IndexAny_l32 m0) bytes_IndexAny_ret ((bytes_IndexAny_k32_4 m0) n) n s0 chars1 (0 : Int)

/-! bytes.ContainsAny -/

def bytes_ContainsAny_ret (s4 : Bool) : Option AV := some (.dat .bool s4 none)
def bytes_ContainsAny_sh (_n : Nat) (b0 : List UInt8) (chars1 : List UInt8) : Option AV :=
  bif ((bytes_IndexAny_ok b0 chars1) && true) then
    bytes_ContainsAny_ret (decide ((0 : Int) ≤ (bytes_IndexAny b0 chars1)))
  else none

/-! sheave/fold.Right -/

def fold_Right_ret (s2 : Bool) : Option AV := some (.dat .bool s2 none)
def fold_Right_sh (_n : Nat) (s0 : List UInt8) : Option AV :=
  bif ((fold_Unfold_ok s0) && true) then
    bif ((bytes_ContainsAny_ok (fold_Unfold s0) ([13, 10] : List UInt8)) && true) then
      fold_Right_ret (!(bytes_ContainsAny (fold_Unfold s0) ([13, 10] : List UInt8)))
    else none
  else none

/-! sheave/fold.check -/

def fold_check_ret (s6 : Int) : Option AV := some (.dat (.int .i64) s6 none)
def fold_check_l4_b (ret : Int → Option AV) (k0 : Option AV) (next : List UInt8 → Int → Int → Option AV) (_n : Nat) (s24 : List UInt8) (s25 : Int) (s26 : Int) : Option AV :=
  bif (decide (s26 < s25)) then
    bif ((decide ((0 : Int) ≤ s26)) && (decide (s26 < (List.length s24 : Nat)))) then
      bif (decide ((List.getD s24 (Int.toNat s26) (0 : UInt8)) < (32 : UInt8))) then
        ret (3 : Int)
      else
        bif (decide ((126 : UInt8) < (List.getD s24 (Int.toNat s26) (0 : UInt8)))) then
          ret (3 : Int)
        else
          next s24 s25 (IntKind.wrap .i64 (s26 + (1 : Int)))
    else none
  else
    k0
def fold_check_l4 (ret : Int → Option AV) (k0 : Option AV) : Nat → List UInt8 → Int → Int → Option AV
  | 0 => fun _ _ _ => none
  | n + 1 => fold_check_l4_b ret k0 (fold_check_l4 ret k0 n) n
def fold_check_k4_0 (_n : Nat) : Option AV :=
  fold_check_ret (0 : Int)
def fold_check_sh (n : Nat) (s0 : List UInt8) (first1 : Int) (most2 : Int) : Option AV :=
  bif (decide (most2 < (1 : Int))) then
    fold_check_ret (1 : Int)
  else
    bif (decide ((1000 : Int) < most2)) then
      fold_check_ret (1 : Int)
    else
      bif (decide (first1 < (0 : Int))) then
        fold_check_ret (1 : Int)
      else
        bif (decide (most2 < first1)) then
          fold_check_ret (1 : Int)
        else
          fold_check_l4 fold_check_ret (fold_check_k4_0 n) n s0 ((List.length s0 : Nat) : Int) (0 : Int)

/-! sheave/lines.Join -/

def lines_Join_ret (s2 : List UInt8) : Option AV := some (.dat (.sl .byte) s2 (some (2, 5)))
def lines_Join_l3_b (k0 : List UInt8 → Option AV) (next : List UInt8 → List (List UInt8) → Int → Int → Option AV) (_n : Nat) (out3 : List UInt8) (s6 : List (List UInt8)) (s7 : Int) (s8 : Int) : Option AV :=
  bif (decide (s8 < s7)) then
    bif ((decide ((0 : Int) ≤ s8)) && (decide (s8 < (List.length s6 : Nat)))) then
      bif (decide (List.length out3 + List.length (List.getD s6 (Int.toNat s8) ([] : List UInt8)) ≤ room)) then
        bif (decide (List.length (out3 ++ (List.getD s6 (Int.toNat s8) ([] : List UInt8))) + List.length ([13, 10] : List UInt8) ≤ room)) then
          next ((out3 ++ (List.getD s6 (Int.toNat s8) ([] : List UInt8))) ++ ([13, 10] : List UInt8)) s6 s7 (IntKind.wrap .i64 (s8 + (1 : Int)))
        else none
      else none
    else none
  else
    k0 out3
def lines_Join_l3 (k0 : List UInt8 → Option AV) : Nat → List UInt8 → List (List UInt8) → Int → Int → Option AV
  | 0 => fun _ _ _ _ => none
  | n + 1 => lines_Join_l3_b k0 (lines_Join_l3 k0 n) n
def lines_Join_k3_0 (_n : Nat) (out3 : List UInt8) : Option AV :=
  lines_Join_ret out3
def lines_Join_sh (n : Nat) (l0 : List (List UInt8)) : Option AV :=
  lines_Join_l3 (lines_Join_k3_0 n) n ([] : List UInt8) l0 ((List.length l0 : Nat) : Int) (0 : Int)

/-! sheave/fold.Fold -/

def fold_Fold_ret (s6 : List UInt8) (s7 : Int) : Option AV := some (.tup [(.dat (.sl .byte) s6 none), (.dat (.int .i64) s7 none)])
def fold_Fold_l8_b (k1 : List UInt8 → Int → List (List UInt8) → Int → Option AV) (k2 : Option AV) (next : List UInt8 → Int → List (List UInt8) → Int → Option AV) (_n : Nat) (s0 : List UInt8) (most2 : Int) (l9 : List (List UInt8)) (at11 : Int) : Option AV :=
  bif (decide ((0 : Int) < at11)) then
    bif ((decide ((0 : Int) ≤ at11)) && (decide (at11 < (List.length s0 : Nat)))) then
      bif ((List.getD s0 (Int.toNat at11) (0 : UInt8)) == (32 : UInt8)) then
        bif (((decide ((0 : Int) ≤ ((0 : Nat) : Int))) && (decide (((0 : Nat) : Int) ≤ at11))) && (decide (at11 ≤ ((List.length s0 : Nat) : Int)))) then
          bif (decide (List.length l9 + List.length ([(List.drop (Int.toNat ((0 : Nat) : Int)) (List.take (Int.toNat at11) s0))] : List (List UInt8)) ≤ room)) then
            bif (((decide ((0 : Int) ≤ at11)) && (decide (at11 ≤ ((List.length s0 : Nat) : Int)))) && (decide (((List.length s0 : Nat) : Int) ≤ ((List.length s0 : Nat) : Int)))) then
              k1 (List.drop (Int.toNat at11) (List.take (Int.toNat ((List.length s0 : Nat) : Int)) s0)) most2 (l9 ++ ([(List.drop (Int.toNat ((0 : Nat) : Int)) (List.take (Int.toNat at11) s0))] : List (List UInt8))) most2
            else none
          else none
        else none
      else
        next s0 most2 l9 (IntKind.wrap .i64 (at11 - (1 : Int)))
    else none
  else
    k2
def fold_Fold_l8 (k1 : List UInt8 → Int → List (List UInt8) → Int → Option AV) (k2 : Option AV) : Nat → List UInt8 → Int → List (List UInt8) → Int → Option AV
  | 0 => fun _ _ _ _ => none
  | n + 1 => fold_Fold_l8_b k1 k2 (fold_Fold_l8 k1 k2 n) n
def fold_Fold_k8_1 (_ret : List UInt8 → Int → Option AV) (_k0 : List UInt8 → List (List UInt8) → Option AV) (next : List UInt8 → Int → List (List UInt8) → Int → Option AV) (_n : Nat) (s0 : List UInt8) (most2 : Int) (l9 : List (List UInt8)) (room10 : Int) : Option AV :=
  next s0 most2 l9 room10
def fold_Fold_k8_2 (ret : List UInt8 → Int → Option AV) (_k0 : List UInt8 → List (List UInt8) → Option AV) (_next : List UInt8 → Int → List (List UInt8) → Int → Option AV) (_n : Nat) : Option AV :=
  ret ([] : List UInt8) (12 : Int)
def fold_Fold_l6_b (ret : List UInt8 → Int → Option AV) (k0 : List UInt8 → List (List UInt8) → Option AV) (next : List UInt8 → Int → List (List UInt8) → Int → Option AV) (n : Nat) (s0 : List UInt8) (most2 : Int) (l9 : List (List UInt8)) (room10 : Int) : Option AV :=
  bif (decide (room10 < ((List.length s0 : Nat) : Int))) then
    fold_Fold_l8 (fold_Fold_k8_1 ret k0 next n) (fold_Fold_k8_2 ret k0 next n) n s0 most2 l9 room10
  else
    k0 s0 l9
def fold_Fold_l6 (ret : List UInt8 → Int → Option AV) (k0 : List UInt8 → List (List UInt8) → Option AV) : Nat → List UInt8 → Int → List (List UInt8) → Int → Option AV
  | 0 => fun _ _ _ _ => none
  | n + 1 => fold_Fold_l6_b ret k0 (fold_Fold_l6 ret k0 n) n
def fold_Fold_k6_0 (_n : Nat) (s0 : List UInt8) (l9 : List (List UInt8)) : Option AV :=
  bif ((lines_Join_ok l9) && true) then
    bif (decide (List.length (lines_Join l9) + List.length s0 ≤ room)) then
      fold_Fold_ret ((lines_Join l9) ++ s0) (0 : Int)
    else none
  else none
def fold_Fold_sh (n : Nat) (s0 : List UInt8) (first1 : Int) (most2 : Int) : Option AV :=
  bif ((fold_check_ok s0 first1 most2) && true) then
    bif ((fold_check s0 first1 most2) != (0 : Int)) then
      fold_Fold_ret ([] : List UInt8) (fold_check s0 first1 most2)
    else
      fold_Fold_l6 fold_Fold_ret (fold_Fold_k6_0 n) n s0 most2 ([] : List (List UInt8)) first1
  else none

/-! sheave/sheavelaw27.alive -/

def law27_alive_ret (s0 : Bool) : Option AV := some (.dat .bool s0 none)
def law27_alive_sh (_n : Nat) : Option AV :=
  bif ((fold_Fold_ok ([(97 : UInt8), (98 : UInt8), (32 : UInt8), (99 : UInt8), (100 : UInt8), (32 : UInt8), (101 : UInt8), (102 : UInt8)] : List UInt8) (5 : Int) (6 : Int)) && true) then
    bif ((fold_Fold_ok ([(97 : UInt8), (98 : UInt8), (99 : UInt8)] : List UInt8) (2 : Int) (2 : Int)) && true) then
      bif (((fold_Fold ([(97 : UInt8), (98 : UInt8), (32 : UInt8), (99 : UInt8), (100 : UInt8), (32 : UInt8), (101 : UInt8), (102 : UInt8)] : List UInt8) (5 : Int) (6 : Int)).1) == ([97, 98, 32, 99, 100, 13, 10, 32, 101, 102] : List UInt8)) then
        bif (((fold_Fold ([(97 : UInt8), (98 : UInt8), (32 : UInt8), (99 : UInt8), (100 : UInt8), (32 : UInt8), (101 : UInt8), (102 : UInt8)] : List UInt8) (5 : Int) (6 : Int)).2) == (0 : Int)) then
          bif ((fold_Unfold_ok ((fold_Fold ([(97 : UInt8), (98 : UInt8), (32 : UInt8), (99 : UInt8), (100 : UInt8), (32 : UInt8), (101 : UInt8), (102 : UInt8)] : List UInt8) (5 : Int) (6 : Int)).1)) && true) then
            bif ((fold_Unfold ((fold_Fold ([(97 : UInt8), (98 : UInt8), (32 : UInt8), (99 : UInt8), (100 : UInt8), (32 : UInt8), (101 : UInt8), (102 : UInt8)] : List UInt8) (5 : Int) (6 : Int)).1)) == ([97, 98, 32, 99, 100, 32, 101, 102] : List UInt8)) then
              bif ((fold_Folds_ok ((fold_Fold ([(97 : UInt8), (98 : UInt8), (32 : UInt8), (99 : UInt8), (100 : UInt8), (32 : UInt8), (101 : UInt8), (102 : UInt8)] : List UInt8) (5 : Int) (6 : Int)).1)) && true) then
                bif ((fold_Folds ((fold_Fold ([(97 : UInt8), (98 : UInt8), (32 : UInt8), (99 : UInt8), (100 : UInt8), (32 : UInt8), (101 : UInt8), (102 : UInt8)] : List UInt8) (5 : Int) (6 : Int)).1)) == (1 : Int)) then
                  bif (((fold_Fold ([(97 : UInt8), (98 : UInt8), (99 : UInt8)] : List UInt8) (2 : Int) (2 : Int)).2) == (12 : Int)) then
                    bif ((fold_Right_ok ((fold_Fold ([(97 : UInt8), (98 : UInt8), (32 : UInt8), (99 : UInt8), (100 : UInt8), (32 : UInt8), (101 : UInt8), (102 : UInt8)] : List UInt8) (5 : Int) (6 : Int)).1)) && true) then
                      bif (fold_Right ((fold_Fold ([(97 : UInt8), (98 : UInt8), (32 : UInt8), (99 : UInt8), (100 : UInt8), (32 : UInt8), (101 : UInt8), (102 : UInt8)] : List UInt8) (5 : Int) (6 : Int)).1)) then
                        bif ((fold_Right_ok ([(97 : UInt8), (10 : UInt8)] : List UInt8)) && true) then
                          law27_alive_ret (!(fold_Right ([(97 : UInt8), (10 : UInt8)] : List UInt8)))
                        else none
                      else
                        law27_alive_ret false
                    else none
                  else
                    law27_alive_ret false
                else
                  law27_alive_ret false
              else none
            else
              law27_alive_ret false
          else none
        else
          law27_alive_ret false
      else
        law27_alive_ret false
    else none
  else none

/-! sheave/sheaveref27.folds -/

def ref27_folds_ret (s4 : Bool) : Option AV := some (.dat .bool s4 none)
def ref27_folds_sh (_n : Nat) (s0 : List UInt8) (i1 : Int) : Option AV :=
  bif (decide ((IntKind.wrap .i64 (i1 + (2 : Int))) < ((List.length s0 : Nat) : Int))) then
    bif ((decide ((0 : Int) ≤ i1)) && (decide (i1 < (List.length s0 : Nat)))) then
      bif ((List.getD s0 (Int.toNat i1) (0 : UInt8)) == (13 : UInt8)) then
        bif ((decide ((0 : Int) ≤ (IntKind.wrap .i64 (i1 + (1 : Int))))) && (decide ((IntKind.wrap .i64 (i1 + (1 : Int))) < (List.length s0 : Nat)))) then
          bif ((List.getD s0 (Int.toNat (IntKind.wrap .i64 (i1 + (1 : Int)))) (0 : UInt8)) == (10 : UInt8)) then
            bif ((decide ((0 : Int) ≤ (IntKind.wrap .i64 (i1 + (2 : Int))))) && (decide ((IntKind.wrap .i64 (i1 + (2 : Int))) < (List.length s0 : Nat)))) then
              bif ((List.getD s0 (Int.toNat (IntKind.wrap .i64 (i1 + (2 : Int)))) (0 : UInt8)) == (32 : UInt8)) then
                ref27_folds_ret true
              else
                bif ((decide ((0 : Int) ≤ (IntKind.wrap .i64 (i1 + (2 : Int))))) && (decide ((IntKind.wrap .i64 (i1 + (2 : Int))) < (List.length s0 : Nat)))) then
                  ref27_folds_ret ((List.getD s0 (Int.toNat (IntKind.wrap .i64 (i1 + (2 : Int)))) (0 : UInt8)) == (9 : UInt8))
                else none
            else none
          else
            ref27_folds_ret false
        else none
      else
        ref27_folds_ret false
    else none
  else
    ref27_folds_ret false

/-! sheave/sheaveref27.Unfold -/

def ref27_Unfold_ret (s2 : List UInt8) (s3 : Int) : Option AV := some (.tup [(.dat (.sl .byte) s2 none), (.dat (.int .i64) s3 none)])
def ref27_Unfold_l4_b (k0 : List UInt8 → Int → Option AV) (next : List UInt8 → List UInt8 → Int → Int → Option AV) (_n : Nat) (s0 : List UInt8) (out4 : List UInt8) (n5 : Int) (i6 : Int) : Option AV :=
  bif (decide (i6 < ((List.length s0 : Nat) : Int))) then
    bif ((ref27_folds_ok s0 i6) && true) then
      bif (ref27_folds s0 i6) then
        next s0 out4 (IntKind.wrap .i64 (n5 + (1 : Int))) (IntKind.wrap .i64 ((IntKind.wrap .i64 (i6 + (1 : Int))) + (1 : Int)))
      else
        bif ((decide ((0 : Int) ≤ i6)) && (decide (i6 < (List.length s0 : Nat)))) then
          bif (decide (List.length out4 + List.length ([(List.getD s0 (Int.toNat i6) (0 : UInt8))] : List UInt8) ≤ room)) then
            next s0 (out4 ++ ([(List.getD s0 (Int.toNat i6) (0 : UInt8))] : List UInt8)) n5 (IntKind.wrap .i64 (i6 + (1 : Int)))
          else none
        else none
    else none
  else
    k0 out4 n5
def ref27_Unfold_l4 (k0 : List UInt8 → Int → Option AV) : Nat → List UInt8 → List UInt8 → Int → Int → Option AV
  | 0 => fun _ _ _ _ => none
  | n + 1 => ref27_Unfold_l4_b k0 (ref27_Unfold_l4 k0 n) n
def ref27_Unfold_k4_0 (_n : Nat) (out4 : List UInt8) (n5 : Int) : Option AV :=
  ref27_Unfold_ret out4 n5
def ref27_Unfold_sh (n : Nat) (s0 : List UInt8) : Option AV :=
  ref27_Unfold_l4 (ref27_Unfold_k4_0 n) n s0 ([] : List UInt8) (0 : Int) (0 : Int)

/-! sheave/sheaveref01.Like -/

def ref01_Like_ret (s4 : Bool) : Option AV := some (.dat .bool s4 none)
def ref01_Like_l4_b (ret : Bool → Option AV) (k0 : Option AV) (next : List UInt8 → List UInt8 → Int → Option AV) (_n : Nat) (a0 : List UInt8) (b1 : List UInt8) (i5 : Int) : Option AV :=
  bif (decide (i5 < ((List.length a0 : Nat) : Int))) then
    bif ((decide ((0 : Int) ≤ i5)) && (decide (i5 < (List.length a0 : Nat)))) then
      bif ((decide ((0 : Int) ≤ i5)) && (decide (i5 < (List.length b1 : Nat)))) then
        bif ((List.getD a0 (Int.toNat i5) (0 : UInt8)) != (List.getD b1 (Int.toNat i5) (0 : UInt8))) then
          ret false
        else
          next a0 b1 (IntKind.wrap .i64 (i5 + (1 : Int)))
      else none
    else none
  else
    k0
def ref01_Like_l4 (ret : Bool → Option AV) (k0 : Option AV) : Nat → List UInt8 → List UInt8 → Int → Option AV
  | 0 => fun _ _ _ => none
  | n + 1 => ref01_Like_l4_b ret k0 (ref01_Like_l4 ret k0 n) n
def ref01_Like_k4_0 (_n : Nat) : Option AV :=
  ref01_Like_ret true
def ref01_Like_sh (n : Nat) (a0 : List UInt8) (b1 : List UInt8) : Option AV :=
  bif (((List.length a0 : Nat) : Int) != ((List.length b1 : Nat) : Int)) then
    ref01_Like_ret false
  else
    ref01_Like_l4 ref01_Like_ret (ref01_Like_k4_0 n) n a0 b1 (0 : Int)

/-! sheave/sheaveref27.Right -/

def ref27_Right_ret (s2 : Bool) : Option AV := some (.dat .bool s2 none)
def ref27_Right_l3_b (ret : Bool → Option AV) (k0 : Option AV) (next : List UInt8 → Int → Option AV) (_n : Nat) (out3 : List UInt8) (i5 : Int) : Option AV :=
  bif (decide (i5 < ((List.length out3 : Nat) : Int))) then
    bif ((decide ((0 : Int) ≤ i5)) && (decide (i5 < (List.length out3 : Nat)))) then
      bif ((List.getD out3 (Int.toNat i5) (0 : UInt8)) == (13 : UInt8)) then
        ret false
      else
        bif ((decide ((0 : Int) ≤ i5)) && (decide (i5 < (List.length out3 : Nat)))) then
          bif ((List.getD out3 (Int.toNat i5) (0 : UInt8)) == (10 : UInt8)) then
            ret false
          else
            next out3 (IntKind.wrap .i64 (i5 + (1 : Int)))
        else none
    else none
  else
    k0
def ref27_Right_l3 (ret : Bool → Option AV) (k0 : Option AV) : Nat → List UInt8 → Int → Option AV
  | 0 => fun _ _ => none
  | n + 1 => ref27_Right_l3_b ret k0 (ref27_Right_l3 ret k0 n) n
def ref27_Right_k3_0 (_n : Nat) : Option AV :=
  ref27_Right_ret true
def ref27_Right_sh (n : Nat) (s0 : List UInt8) : Option AV :=
  bif ((ref27_Unfold_ok s0) && true) then
    ref27_Right_l3 ref27_Right_ret (ref27_Right_k3_0 n) n ((ref27_Unfold s0).1) (0 : Int)
  else none

/-! sheave/sheavelaw27.FoldUnfolds -/

def law27_FoldUnfolds_ret (s2 : Bool) : Option AV := some (.dat .bool s2 none)
def law27_FoldUnfolds_sh (_n : Nat) (s0 : List UInt8) : Option AV :=
  bif (decide ((1000 : Int) < ((List.length s0 : Nat) : Int))) then
    law27_FoldUnfolds_ret law27_alive
  else
    bif ((ref27_Unfold_ok s0) && true) then
      bif ((fold_Unfold_ok s0) && true) then
        bif ((ref01_Like_ok (fold_Unfold s0) ((ref27_Unfold s0).1)) && true) then
          bif (ref01_Like (fold_Unfold s0) ((ref27_Unfold s0).1)) then
            bif ((fold_Folds_ok s0) && true) then
              bif ((fold_Folds s0) == ((ref27_Unfold s0).2)) then
                bif ((fold_Right_ok s0) && true) then
                  bif ((ref27_Right_ok s0) && true) then
                    bif ((fold_Right s0) == (ref27_Right s0)) then
                      law27_FoldUnfolds_ret law27_alive
                    else
                      law27_FoldUnfolds_ret false
                  else none
                else none
              else
                law27_FoldUnfolds_ret false
            else none
          else
            law27_FoldUnfolds_ret false
        else none
      else none
    else none

/-! sheave/sheavelaw27.FoldBack -/

def law27_FoldBack_ret (s6 : Bool) : Option AV := some (.dat .bool s6 none)
def law27_FoldBack_l10_b (ret : Bool → Option AV) (k0 : Int → Int → Option AV) (next : Int → List UInt8 → Int → Int → Int → Option AV) (_n : Nat) (most2 : Int) (a7 : List UInt8) (long9 : Int) (room10 : Int) (i11 : Int) : Option AV :=
  bif (decide (i11 < ((List.length a7 : Nat) : Int))) then
    bif ((decide ((0 : Int) ≤ i11)) && (decide (i11 < (List.length a7 : Nat)))) then
      bif ((List.getD a7 (Int.toNat i11) (0 : UInt8)) != (13 : UInt8)) then
        next most2 a7 (IntKind.wrap .i64 (long9 + (1 : Int))) room10 (IntKind.wrap .i64 (i11 + (1 : Int)))
      else
        bif (decide (room10 < long9)) then
          ret false
        else
          bif (long9 == (0 : Int)) then
            ret false
          else
            bif (decide (((List.length a7 : Nat) : Int) ≤ (IntKind.wrap .i64 (i11 + (2 : Int))))) then
              ret false
            else
              bif ((decide ((0 : Int) ≤ (IntKind.wrap .i64 (i11 + (1 : Int))))) && (decide ((IntKind.wrap .i64 (i11 + (1 : Int))) < (List.length a7 : Nat)))) then
                bif ((List.getD a7 (Int.toNat (IntKind.wrap .i64 (i11 + (1 : Int)))) (0 : UInt8)) != (10 : UInt8)) then
                  ret false
                else
                  bif ((decide ((0 : Int) ≤ (IntKind.wrap .i64 (i11 + (2 : Int))))) && (decide ((IntKind.wrap .i64 (i11 + (2 : Int))) < (List.length a7 : Nat)))) then
                    bif ((List.getD a7 (Int.toNat (IntKind.wrap .i64 (i11 + (2 : Int)))) (0 : UInt8)) != (32 : UInt8)) then
                      ret false
                    else
                      next most2 a7 (0 : Int) most2 (IntKind.wrap .i64 ((IntKind.wrap .i64 (i11 + (1 : Int))) + (1 : Int)))
                  else none
              else none
    else none
  else
    k0 long9 room10
def law27_FoldBack_l10 (ret : Bool → Option AV) (k0 : Int → Int → Option AV) : Nat → Int → List UInt8 → Int → Int → Int → Option AV
  | 0 => fun _ _ _ _ _ => none
  | n + 1 => law27_FoldBack_l10_b ret k0 (law27_FoldBack_l10 ret k0 n) n
def law27_FoldBack_k10_0 (_n : Nat) (long9 : Int) (room10 : Int) : Option AV :=
  bif (decide (long9 ≤ room10)) then
    law27_FoldBack_ret law27_alive
  else
    law27_FoldBack_ret false
def law27_FoldBack_sh (n : Nat) (s0 : List UInt8) (first1 : Int) (most2 : Int) : Option AV :=
  bif (decide ((600 : Int) < ((List.length s0 : Nat) : Int))) then
    law27_FoldBack_ret law27_alive
  else
    bif ((fold_Fold_ok s0 first1 most2) && true) then
      bif (((fold_Fold s0 first1 most2).2) != (0 : Int)) then
        bif (((List.length ((fold_Fold s0 first1 most2).1) : Nat) : Int) == (0 : Int)) then
          law27_FoldBack_ret law27_alive
        else
          law27_FoldBack_ret false
      else
        bif ((fold_Unfold_ok ((fold_Fold s0 first1 most2).1)) && true) then
          bif ((ref01_Like_ok (fold_Unfold ((fold_Fold s0 first1 most2).1)) s0) && true) then
            bif (!(ref01_Like (fold_Unfold ((fold_Fold s0 first1 most2).1)) s0)) then
              law27_FoldBack_ret false
            else
              bif ((fold_Right_ok ((fold_Fold s0 first1 most2).1)) && true) then
                bif (!(fold_Right ((fold_Fold s0 first1 most2).1))) then
                  law27_FoldBack_ret false
                else
                  bif (decide (((List.length s0 : Nat) : Int) ≤ first1)) then
                    bif ((ref01_Like_ok ((fold_Fold s0 first1 most2).1) s0) && true) then
                      bif (!(ref01_Like ((fold_Fold s0 first1 most2).1) s0)) then
                        law27_FoldBack_ret false
                      else
                        law27_FoldBack_l10 law27_FoldBack_ret (law27_FoldBack_k10_0 n) n most2 ((fold_Fold s0 first1 most2).1) (0 : Int) first1 (0 : Int)
                    else none
                  else
                    law27_FoldBack_l10 law27_FoldBack_ret (law27_FoldBack_k10_0 n) n most2 ((fold_Fold s0 first1 most2).1) (0 : Int) first1 (0 : Int)
              else none
          else none
        else none
    else none

/-! sheave/sheaveref27.Fold -/

def ref27_Fold_ret (s6 : List UInt8) (s7 : Int) : Option AV := some (.tup [(.dat (.sl .byte) s6 none), (.dat (.int .i64) s7 none)])
def ref27_Fold_l4_b (ret : List UInt8 → Int → Option AV) (k0 : List UInt8 → Int → Int → Option AV) (next : List UInt8 → Int → Int → Int → Option AV) (_n : Nat) (s0 : List UInt8) (first1 : Int) (most2 : Int) (i8 : Int) : Option AV :=
  bif (decide (i8 < ((List.length s0 : Nat) : Int))) then
    bif ((decide ((0 : Int) ≤ i8)) && (decide (i8 < (List.length s0 : Nat)))) then
      bif (decide ((List.getD s0 (Int.toNat i8) (0 : UInt8)) < (32 : UInt8))) then
        ret ([] : List UInt8) (3 : Int)
      else
        bif ((decide ((0 : Int) ≤ i8)) && (decide (i8 < (List.length s0 : Nat)))) then
          bif (decide ((126 : UInt8) < (List.getD s0 (Int.toNat i8) (0 : UInt8)))) then
            ret ([] : List UInt8) (3 : Int)
          else
            next s0 first1 most2 (IntKind.wrap .i64 (i8 + (1 : Int)))
        else none
    else none
  else
    k0 s0 first1 most2
def ref27_Fold_l4 (ret : List UInt8 → Int → Option AV) (k0 : List UInt8 → Int → Int → Option AV) : Nat → List UInt8 → Int → Int → Int → Option AV
  | 0 => fun _ _ _ _ => none
  | n + 1 => ref27_Fold_l4_b ret k0 (ref27_Fold_l4 ret k0 n) n
def ref27_Fold_l13_b (k4 : List UInt8 → Int → List UInt8 → Int → Int → Option AV) (next : List UInt8 → Int → List UInt8 → Int → Int → Int → Int → Option AV) (_n : Nat) (s0 : List UInt8) (most2 : Int) (out9 : List UInt8) (from10 : Int) (room11 : Int) (next12 : Int) (i13 : Int) : Option AV :=
  bif (decide (i13 ≤ (IntKind.wrap .i64 (from10 + room11)))) then
    bif (decide (i13 < ((List.length s0 : Nat) : Int))) then
      bif ((decide ((0 : Int) ≤ i13)) && (decide (i13 < (List.length s0 : Nat)))) then
        bif ((List.getD s0 (Int.toNat i13) (0 : UInt8)) == (32 : UInt8)) then
          next s0 most2 out9 from10 room11 i13 (IntKind.wrap .i64 (i13 + (1 : Int)))
        else
          next s0 most2 out9 from10 room11 next12 (IntKind.wrap .i64 (i13 + (1 : Int)))
      else none
    else
      k4 s0 most2 out9 from10 next12
  else
    k4 s0 most2 out9 from10 next12
def ref27_Fold_l13 (k4 : List UInt8 → Int → List UInt8 → Int → Int → Option AV) : Nat → List UInt8 → Int → List UInt8 → Int → Int → Int → Int → Option AV
  | 0 => fun _ _ _ _ _ _ _ => none
  | n + 1 => ref27_Fold_l13_b k4 (ref27_Fold_l13 k4 n) n
def ref27_Fold_k13_4 (ret : List UInt8 → Int → Option AV) (_k2 : List UInt8 → List UInt8 → Int → Option AV) (next : List UInt8 → Int → List UInt8 → Int → Int → Option AV) (_n : Nat) (s0 : List UInt8) (most2 : Int) (out9 : List UInt8) (from10 : Int) (next12 : Int) : Option AV :=
  bif (decide (next12 < (0 : Int))) then
    ret ([] : List UInt8) (12 : Int)
  else
    bif (((decide ((0 : Int) ≤ from10)) && (decide (from10 ≤ next12))) && (decide (next12 ≤ ((List.length s0 : Nat) : Int)))) then
      bif (decide (List.length out9 + List.length (List.drop (Int.toNat from10) (List.take (Int.toNat next12) s0)) ≤ room)) then
        bif (decide (List.length (out9 ++ (List.drop (Int.toNat from10) (List.take (Int.toNat next12) s0))) + List.length ([(13 : UInt8), (10 : UInt8)] : List UInt8) ≤ room)) then
          next s0 most2 ((out9 ++ (List.drop (Int.toNat from10) (List.take (Int.toNat next12) s0))) ++ ([(13 : UInt8), (10 : UInt8)] : List UInt8)) next12 most2
        else none
      else none
    else none
def ref27_Fold_l10_b (ret : List UInt8 → Int → Option AV) (k2 : List UInt8 → List UInt8 → Int → Option AV) (next : List UInt8 → Int → List UInt8 → Int → Int → Option AV) (n : Nat) (s0 : List UInt8) (most2 : Int) (out9 : List UInt8) (from10 : Int) (room11 : Int) : Option AV :=
  bif (decide (room11 < (IntKind.wrap .i64 (((List.length s0 : Nat) : Int) - from10)))) then
    ref27_Fold_l13 (ref27_Fold_k13_4 ret k2 next n) n s0 most2 out9 from10 room11 (-1 : Int) (IntKind.wrap .i64 (from10 + (1 : Int)))
  else
    k2 s0 out9 from10
def ref27_Fold_l10 (ret : List UInt8 → Int → Option AV) (k2 : List UInt8 → List UInt8 → Int → Option AV) : Nat → List UInt8 → Int → List UInt8 → Int → Int → Option AV
  | 0 => fun _ _ _ _ _ => none
  | n + 1 => ref27_Fold_l10_b ret k2 (ref27_Fold_l10 ret k2 n) n
def ref27_Fold_k10_2 (_n : Nat) (s0 : List UInt8) (out9 : List UInt8) (from10 : Int) : Option AV :=
  bif (((decide ((0 : Int) ≤ from10)) && (decide (from10 ≤ ((List.length s0 : Nat) : Int)))) && (decide (((List.length s0 : Nat) : Int) ≤ ((List.length s0 : Nat) : Int)))) then
    bif (decide (List.length out9 + List.length (List.drop (Int.toNat from10) (List.take (Int.toNat ((List.length s0 : Nat) : Int)) s0)) ≤ room)) then
      ref27_Fold_ret (out9 ++ (List.drop (Int.toNat from10) (List.take (Int.toNat ((List.length s0 : Nat) : Int)) s0))) (0 : Int)
    else none
  else none
def ref27_Fold_k4_0 (n : Nat) (s0 : List UInt8) (first1 : Int) (most2 : Int) : Option AV :=
  ref27_Fold_l10 ref27_Fold_ret (ref27_Fold_k10_2 n) n s0 most2 ([] : List UInt8) (0 : Int) first1
def ref27_Fold_sh (n : Nat) (s0 : List UInt8) (first1 : Int) (most2 : Int) : Option AV :=
  bif (decide (most2 < (1 : Int))) then
    ref27_Fold_ret ([] : List UInt8) (1 : Int)
  else
    bif (decide ((1000 : Int) < most2)) then
      ref27_Fold_ret ([] : List UInt8) (1 : Int)
    else
      bif (decide (first1 < (0 : Int))) then
        ref27_Fold_ret ([] : List UInt8) (1 : Int)
      else
        bif (decide (most2 < first1)) then
          ref27_Fold_ret ([] : List UInt8) (1 : Int)
        else
          ref27_Fold_l4 ref27_Fold_ret (ref27_Fold_k4_0 n) n s0 first1 most2 (0 : Int)

/-! sheave/fold.Again -/

def fold_Again_ret (s6 : List UInt8) (s7 : Int) : Option AV := some (.tup [(.dat (.sl .byte) s6 none), (.dat (.int .i64) s7 none)])
def fold_Again_sh (_n : Nat) (s0 : List UInt8) (first1 : Int) (most2 : Int) : Option AV :=
  bif ((fold_Unfold_ok s0) && true) then
    bif ((fold_Fold_ok (fold_Unfold s0) first1 most2) && true) then
      fold_Again_ret ((fold_Fold (fold_Unfold s0) first1 most2).1) ((fold_Fold (fold_Unfold s0) first1 most2).2)
    else none
  else none

/-! sheave/sheavelaw27.FoldFolds -/

def law27_FoldFolds_ret (s6 : Bool) : Option AV := some (.dat .bool s6 none)
def law27_FoldFolds_sh (_n : Nat) (s0 : List UInt8) (first1 : Int) (most2 : Int) : Option AV :=
  bif (decide ((600 : Int) < ((List.length s0 : Nat) : Int))) then
    law27_FoldFolds_ret law27_alive
  else
    bif ((fold_Fold_ok s0 first1 most2) && true) then
      bif ((ref27_Fold_ok s0 first1 most2) && true) then
        bif ((fold_Again_ok s0 first1 most2) && true) then
          bif ((ref27_Unfold_ok s0) && true) then
            bif ((ref27_Fold_ok ((ref27_Unfold s0).1) first1 most2) && true) then
              bif ((ref01_Like_ok ((fold_Fold s0 first1 most2).1) ((ref27_Fold s0 first1 most2).1)) && true) then
                bif (ref01_Like ((fold_Fold s0 first1 most2).1) ((ref27_Fold s0 first1 most2).1)) then
                  bif (((fold_Fold s0 first1 most2).2) == ((ref27_Fold s0 first1 most2).2)) then
                    bif ((ref01_Like_ok ((fold_Again s0 first1 most2).1) ((ref27_Fold ((ref27_Unfold s0).1) first1 most2).1)) && true) then
                      bif (ref01_Like ((fold_Again s0 first1 most2).1) ((ref27_Fold ((ref27_Unfold s0).1) first1 most2).1)) then
                        bif (((fold_Again s0 first1 most2).2) == ((ref27_Fold ((ref27_Unfold s0).1) first1 most2).2)) then
                          law27_FoldFolds_ret law27_alive
                        else
                          law27_FoldFolds_ret false
                      else
                        law27_FoldFolds_ret false
                    else none
                  else
                    law27_FoldFolds_ret false
                else
                  law27_FoldFolds_ret false
              else none
            else none
          else none
        else none
      else none
    else none
end Go.Av
