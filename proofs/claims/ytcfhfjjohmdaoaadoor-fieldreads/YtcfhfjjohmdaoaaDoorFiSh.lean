import Derived.Test.YtcfhfjjohmdaoaaDoorFiM
namespace Go.Av
set_option linter.unusedVariables false
noncomputable section

/-! internal/stringslite.IndexByte -/

def internal_stringslite_IndexByte_ret (s4 : Int) : Option AV := some (.dat (.int .i64) s4 none)
def internal_stringslite_IndexByte_sh (_n : Nat) (s0 : List UInt8) (c1 : UInt8) : Option AV :=
  internal_stringslite_IndexByte_ret (internal_bytealg_IndexByteString s0 c1)

/-! strings.IndexByte -/

def strings_IndexByte_ret (s4 : Int) : Option AV := some (.dat (.int .i64) s4 none)
def strings_IndexByte_sh (_n : Nat) (s0 : List UInt8) (c1 : UInt8) : Option AV :=
  strings_IndexByte_ret (internal_stringslite_IndexByte s0 c1)

/-! sheave/octet.plain -/

def octet_plain_ret (s2 : Int) : Option AV := some (.dat (.int .i64) s2 none)
def octet_plain_sh (_n : Nat) (c0 : UInt8) : Option AV :=
  bif (decide (c0 < (32 : UInt8))) then
    bif (c0 == (32 : UInt8)) then
      octet_plain_ret (bits .or .i64 (bits .or .i64 (0 : Int) (1 : Int)) (2 : Int))
    else
      bif (c0 == (9 : UInt8)) then
        octet_plain_ret (bits .or .i64 (bits .or .i64 (0 : Int) (1 : Int)) (2 : Int))
      else
        bif (decide ((48 : UInt8) ≤ c0)) then
          bif (decide (c0 ≤ (57 : UInt8))) then
            octet_plain_ret (bits .or .i64 (bits .or .i64 (0 : Int) (1 : Int)) (648 : Int))
          else
            bif (decide ((65 : UInt8) ≤ c0)) then
              bif (decide (c0 ≤ (90 : UInt8))) then
                bif (decide (c0 ≤ (90 : UInt8))) then
                  octet_plain_ret (bits .or .i64 (bits .or .i64 (0 : Int) (1 : Int)) (656 : Int))
                else
                  octet_plain_ret (bits .or .i64 (0 : Int) (1 : Int))
              else
                bif (decide ((97 : UInt8) ≤ c0)) then
                  bif (decide (c0 ≤ (122 : UInt8))) then
                    octet_plain_ret (bits .or .i64 (bits .or .i64 (0 : Int) (1 : Int)) (656 : Int))
                  else
                    octet_plain_ret (bits .or .i64 (0 : Int) (1 : Int))
                else
                  octet_plain_ret (bits .or .i64 (0 : Int) (1 : Int))
            else
              bif (decide ((97 : UInt8) ≤ c0)) then
                bif (decide (c0 ≤ (122 : UInt8))) then
                  octet_plain_ret (bits .or .i64 (bits .or .i64 (0 : Int) (1 : Int)) (656 : Int))
                else
                  octet_plain_ret (bits .or .i64 (0 : Int) (1 : Int))
              else
                octet_plain_ret (bits .or .i64 (0 : Int) (1 : Int))
        else
          bif (decide ((65 : UInt8) ≤ c0)) then
            bif (decide (c0 ≤ (90 : UInt8))) then
              bif (decide (c0 ≤ (90 : UInt8))) then
                octet_plain_ret (bits .or .i64 (bits .or .i64 (0 : Int) (1 : Int)) (656 : Int))
              else
                octet_plain_ret (bits .or .i64 (0 : Int) (1 : Int))
            else
              bif (decide ((97 : UInt8) ≤ c0)) then
                bif (decide (c0 ≤ (122 : UInt8))) then
                  octet_plain_ret (bits .or .i64 (bits .or .i64 (0 : Int) (1 : Int)) (656 : Int))
                else
                  octet_plain_ret (bits .or .i64 (0 : Int) (1 : Int))
              else
                octet_plain_ret (bits .or .i64 (0 : Int) (1 : Int))
          else
            bif (decide ((97 : UInt8) ≤ c0)) then
              bif (decide (c0 ≤ (122 : UInt8))) then
                octet_plain_ret (bits .or .i64 (bits .or .i64 (0 : Int) (1 : Int)) (656 : Int))
              else
                octet_plain_ret (bits .or .i64 (0 : Int) (1 : Int))
            else
              octet_plain_ret (bits .or .i64 (0 : Int) (1 : Int))
  else
    bif (c0 == (127 : UInt8)) then
      bif (c0 == (32 : UInt8)) then
        octet_plain_ret (bits .or .i64 (bits .or .i64 (0 : Int) (1 : Int)) (2 : Int))
      else
        bif (c0 == (9 : UInt8)) then
          octet_plain_ret (bits .or .i64 (bits .or .i64 (0 : Int) (1 : Int)) (2 : Int))
        else
          bif (decide ((48 : UInt8) ≤ c0)) then
            bif (decide (c0 ≤ (57 : UInt8))) then
              octet_plain_ret (bits .or .i64 (bits .or .i64 (0 : Int) (1 : Int)) (648 : Int))
            else
              bif (decide ((65 : UInt8) ≤ c0)) then
                bif (decide (c0 ≤ (90 : UInt8))) then
                  bif (decide (c0 ≤ (90 : UInt8))) then
                    octet_plain_ret (bits .or .i64 (bits .or .i64 (0 : Int) (1 : Int)) (656 : Int))
                  else
                    octet_plain_ret (bits .or .i64 (0 : Int) (1 : Int))
                else
                  bif (decide ((97 : UInt8) ≤ c0)) then
                    bif (decide (c0 ≤ (122 : UInt8))) then
                      octet_plain_ret (bits .or .i64 (bits .or .i64 (0 : Int) (1 : Int)) (656 : Int))
                    else
                      octet_plain_ret (bits .or .i64 (0 : Int) (1 : Int))
                  else
                    octet_plain_ret (bits .or .i64 (0 : Int) (1 : Int))
              else
                bif (decide ((97 : UInt8) ≤ c0)) then
                  bif (decide (c0 ≤ (122 : UInt8))) then
                    octet_plain_ret (bits .or .i64 (bits .or .i64 (0 : Int) (1 : Int)) (656 : Int))
                  else
                    octet_plain_ret (bits .or .i64 (0 : Int) (1 : Int))
                else
                  octet_plain_ret (bits .or .i64 (0 : Int) (1 : Int))
          else
            bif (decide ((65 : UInt8) ≤ c0)) then
              bif (decide (c0 ≤ (90 : UInt8))) then
                bif (decide (c0 ≤ (90 : UInt8))) then
                  octet_plain_ret (bits .or .i64 (bits .or .i64 (0 : Int) (1 : Int)) (656 : Int))
                else
                  octet_plain_ret (bits .or .i64 (0 : Int) (1 : Int))
              else
                bif (decide ((97 : UInt8) ≤ c0)) then
                  bif (decide (c0 ≤ (122 : UInt8))) then
                    octet_plain_ret (bits .or .i64 (bits .or .i64 (0 : Int) (1 : Int)) (656 : Int))
                  else
                    octet_plain_ret (bits .or .i64 (0 : Int) (1 : Int))
                else
                  octet_plain_ret (bits .or .i64 (0 : Int) (1 : Int))
            else
              bif (decide ((97 : UInt8) ≤ c0)) then
                bif (decide (c0 ≤ (122 : UInt8))) then
                  octet_plain_ret (bits .or .i64 (bits .or .i64 (0 : Int) (1 : Int)) (656 : Int))
                else
                  octet_plain_ret (bits .or .i64 (0 : Int) (1 : Int))
              else
                octet_plain_ret (bits .or .i64 (0 : Int) (1 : Int))
    else
      bif (c0 == (32 : UInt8)) then
        octet_plain_ret (bits .or .i64 (0 : Int) (2 : Int))
      else
        bif (c0 == (9 : UInt8)) then
          octet_plain_ret (bits .or .i64 (0 : Int) (2 : Int))
        else
          bif (decide ((48 : UInt8) ≤ c0)) then
            bif (decide (c0 ≤ (57 : UInt8))) then
              octet_plain_ret (bits .or .i64 (0 : Int) (648 : Int))
            else
              bif (decide ((65 : UInt8) ≤ c0)) then
                bif (decide (c0 ≤ (90 : UInt8))) then
                  bif (decide (c0 ≤ (90 : UInt8))) then
                    octet_plain_ret (bits .or .i64 (0 : Int) (656 : Int))
                  else
                    octet_plain_ret (0 : Int)
                else
                  bif (decide ((97 : UInt8) ≤ c0)) then
                    bif (decide (c0 ≤ (122 : UInt8))) then
                      octet_plain_ret (bits .or .i64 (0 : Int) (656 : Int))
                    else
                      octet_plain_ret (0 : Int)
                  else
                    octet_plain_ret (0 : Int)
              else
                bif (decide ((97 : UInt8) ≤ c0)) then
                  bif (decide (c0 ≤ (122 : UInt8))) then
                    octet_plain_ret (bits .or .i64 (0 : Int) (656 : Int))
                  else
                    octet_plain_ret (0 : Int)
                else
                  octet_plain_ret (0 : Int)
          else
            bif (decide ((65 : UInt8) ≤ c0)) then
              bif (decide (c0 ≤ (90 : UInt8))) then
                bif (decide (c0 ≤ (90 : UInt8))) then
                  octet_plain_ret (bits .or .i64 (0 : Int) (656 : Int))
                else
                  octet_plain_ret (0 : Int)
              else
                bif (decide ((97 : UInt8) ≤ c0)) then
                  bif (decide (c0 ≤ (122 : UInt8))) then
                    octet_plain_ret (bits .or .i64 (0 : Int) (656 : Int))
                  else
                    octet_plain_ret (0 : Int)
                else
                  octet_plain_ret (0 : Int)
            else
              bif (decide ((97 : UInt8) ≤ c0)) then
                bif (decide (c0 ≤ (122 : UInt8))) then
                  octet_plain_ret (bits .or .i64 (0 : Int) (656 : Int))
                else
                  octet_plain_ret (0 : Int)
              else
                octet_plain_ret (0 : Int)

/-! sheave/octet.in -/

def octet_in_ret (s4 : Bool) : Option AV := some (.dat .bool s4 none)
def octet_in_sh (_n : Nat) (s0 : List UInt8) (c1 : UInt8) : Option AV :=
  octet_in_ret (decide ((0 : Int) ≤ (strings_IndexByte s0 c1)))

/-! sheave/octet.Kinds -/

def octet_Kinds_ret (s2 : Int) : Option AV := some (.dat (.int .i64) s2 none)
def octet_Kinds_sh (_n : Nat) (c0 : UInt8) : Option AV :=
  bif (decide (c0 < (33 : UInt8))) then
    octet_Kinds_ret (octet_plain c0)
  else
    bif (decide ((126 : UInt8) < c0)) then
      octet_Kinds_ret (octet_plain c0)
    else
      bif (octet_in ([33, 42, 43, 45, 47] : List UInt8) c0) then
        bif (octet_in ([43, 47] : List UInt8) c0) then
          bif (octet_in ([40, 41, 60, 62, 64, 44, 59, 58, 92, 34, 47, 91, 93, 63, 61] : List UInt8) c0) then
            octet_Kinds_ret (bits .or .i64 (bits .or .i64 (bits .or .i64 (bits .or .i64 (octet_plain c0) (4 : Int)) (128 : Int)) (512 : Int)) (32 : Int))
          else
            bif (!(octet_in ([42, 39, 37] : List UInt8) c0)) then
              octet_Kinds_ret (bits .or .i64 (bits .or .i64 (bits .or .i64 (bits .or .i64 (bits .or .i64 (octet_plain c0) (4 : Int)) (128 : Int)) (512 : Int)) (64 : Int)) (256 : Int))
            else
              octet_Kinds_ret (bits .or .i64 (bits .or .i64 (bits .or .i64 (bits .or .i64 (octet_plain c0) (4 : Int)) (128 : Int)) (512 : Int)) (64 : Int))
        else
          bif (octet_in ([40, 41, 60, 62, 64, 44, 59, 58, 92, 34, 47, 91, 93, 63, 61] : List UInt8) c0) then
            octet_Kinds_ret (bits .or .i64 (bits .or .i64 (bits .or .i64 (octet_plain c0) (4 : Int)) (128 : Int)) (32 : Int))
          else
            bif (!(octet_in ([42, 39, 37] : List UInt8) c0)) then
              octet_Kinds_ret (bits .or .i64 (bits .or .i64 (bits .or .i64 (bits .or .i64 (octet_plain c0) (4 : Int)) (128 : Int)) (64 : Int)) (256 : Int))
            else
              octet_Kinds_ret (bits .or .i64 (bits .or .i64 (bits .or .i64 (octet_plain c0) (4 : Int)) (128 : Int)) (64 : Int))
      else
        bif (octet_in ([43, 47] : List UInt8) c0) then
          bif (octet_in ([40, 41, 60, 62, 64, 44, 59, 58, 92, 34, 47, 91, 93, 63, 61] : List UInt8) c0) then
            octet_Kinds_ret (bits .or .i64 (bits .or .i64 (bits .or .i64 (octet_plain c0) (4 : Int)) (512 : Int)) (32 : Int))
          else
            bif (!(octet_in ([42, 39, 37] : List UInt8) c0)) then
              octet_Kinds_ret (bits .or .i64 (bits .or .i64 (bits .or .i64 (bits .or .i64 (octet_plain c0) (4 : Int)) (512 : Int)) (64 : Int)) (256 : Int))
            else
              octet_Kinds_ret (bits .or .i64 (bits .or .i64 (bits .or .i64 (octet_plain c0) (4 : Int)) (512 : Int)) (64 : Int))
        else
          bif (octet_in ([40, 41, 60, 62, 64, 44, 59, 58, 92, 34, 47, 91, 93, 63, 61] : List UInt8) c0) then
            octet_Kinds_ret (bits .or .i64 (bits .or .i64 (octet_plain c0) (4 : Int)) (32 : Int))
          else
            bif (!(octet_in ([42, 39, 37] : List UInt8) c0)) then
              octet_Kinds_ret (bits .or .i64 (bits .or .i64 (bits .or .i64 (octet_plain c0) (4 : Int)) (64 : Int)) (256 : Int))
            else
              octet_Kinds_ret (bits .or .i64 (bits .or .i64 (octet_plain c0) (4 : Int)) (64 : Int))

/-! sheave/octet.Is -/

def octet_Is_ret (s4 : Bool) : Option AV := some (.dat .bool s4 none)
def octet_Is_sh (_n : Nat) (c0 : UInt8) (kinds1 : Int) : Option AV :=
  octet_Is_ret ((bits .and .i64 (octet_Kinds c0) kinds1) != (0 : Int))

/-! bytes.Cut -/

def bytes_Cut_ret (before4 : List UInt8) (after5 : List UInt8) (found6 : Bool) : Option AV := some (.tup [(.dat (.sl .byte) before4 none), (.dat (.sl .byte) after5 none), (.dat .bool found6 none)])
def bytes_Cut_sh (_n : Nat) (s0 : List UInt8) (sep1 : List UInt8) : Option AV :=
  bif ((bytes_Index_ok s0 sep1) && true) then
    bif (decide ((0 : Int) ≤ (bytes_Index s0 sep1))) then
      bif (((decide ((0 : Int) ≤ ((0 : Nat) : Int))) && (decide (((0 : Nat) : Int) ≤ (bytes_Index s0 sep1)))) && (decide ((bytes_Index s0 sep1) ≤ ((List.length s0 : Nat) : Int)))) then
        bif (((decide ((0 : Int) ≤ (IntKind.wrap .i64 ((bytes_Index s0 sep1) + ((List.length sep1 : Nat) : Int))))) && (decide ((IntKind.wrap .i64 ((bytes_Index s0 sep1) + ((List.length sep1 : Nat) : Int))) ≤ ((List.length s0 : Nat) : Int)))) && (decide (((List.length s0 : Nat) : Int) ≤ ((List.length s0 : Nat) : Int)))) then
          bytes_Cut_ret (List.drop (Int.toNat ((0 : Nat) : Int)) (List.take (Int.toNat (bytes_Index s0 sep1)) s0)) (List.drop (Int.toNat (IntKind.wrap .i64 ((bytes_Index s0 sep1) + ((List.length sep1 : Nat) : Int)))) (List.take (Int.toNat ((List.length s0 : Nat) : Int)) s0)) true
        else none
      else none
    else
      bytes_Cut_ret s0 ([] : List UInt8) false
  else none

/-! sheave/fold.Unfold -/

def fold_Unfold_ret (s2 : List UInt8) : Option AV := some (.dat (.sl .byte) s2 (some (2, 5)))
def fold_Unfold_l2_b (ret : List UInt8 → Option AV) (next : List UInt8 → List UInt8 → Option AV) (_n : Nat) (s0 : List UInt8) (out3 : List UInt8) : Option AV :=
  bif ((bytes_Cut_ok s0 ([(13 : UInt8), (10 : UInt8)] : List UInt8)) && true) then
    bif (decide (List.length out3 + List.length ((bytes_Cut s0 ([(13 : UInt8), (10 : UInt8)] : List UInt8)).1) ≤ room)) then
      bif (!((bytes_Cut s0 ([(13 : UInt8), (10 : UInt8)] : List UInt8)).2.2)) then
        ret (out3 ++ ((bytes_Cut s0 ([(13 : UInt8), (10 : UInt8)] : List UInt8)).1))
      else
        bif (((List.length ((bytes_Cut s0 ([(13 : UInt8), (10 : UInt8)] : List UInt8)).2.1) : Nat) : Int) == (0 : Int)) then
          bif (decide (List.length (out3 ++ ((bytes_Cut s0 ([(13 : UInt8), (10 : UInt8)] : List UInt8)).1)) + List.length ([13, 10] : List UInt8) ≤ room)) then
            next ((bytes_Cut s0 ([(13 : UInt8), (10 : UInt8)] : List UInt8)).2.1) ((out3 ++ ((bytes_Cut s0 ([(13 : UInt8), (10 : UInt8)] : List UInt8)).1)) ++ ([13, 10] : List UInt8))
          else none
        else
          bif ((decide ((0 : Int) ≤ (0 : Int))) && (decide ((0 : Int) < (List.length ((bytes_Cut s0 ([(13 : UInt8), (10 : UInt8)] : List UInt8)).2.1) : Nat)))) then
            bif (!(octet_Is (List.getD ((bytes_Cut s0 ([(13 : UInt8), (10 : UInt8)] : List UInt8)).2.1) (Int.toNat (0 : Int)) (0 : UInt8)) (2 : Int))) then
              bif (decide (List.length (out3 ++ ((bytes_Cut s0 ([(13 : UInt8), (10 : UInt8)] : List UInt8)).1)) + List.length ([13, 10] : List UInt8) ≤ room)) then
                next ((bytes_Cut s0 ([(13 : UInt8), (10 : UInt8)] : List UInt8)).2.1) ((out3 ++ ((bytes_Cut s0 ([(13 : UInt8), (10 : UInt8)] : List UInt8)).1)) ++ ([13, 10] : List UInt8))
              else none
            else
              next ((bytes_Cut s0 ([(13 : UInt8), (10 : UInt8)] : List UInt8)).2.1) (out3 ++ ((bytes_Cut s0 ([(13 : UInt8), (10 : UInt8)] : List UInt8)).1))
          else none
    else none
  else none
def fold_Unfold_l2 (ret : List UInt8 → Option AV) : Nat → List UInt8 → List UInt8 → Option AV
  | 0 => fun _ _ => none
  | n + 1 => fold_Unfold_l2_b ret (fold_Unfold_l2 ret n) n
def fold_Unfold_sh (n : Nat) (s0 : List UInt8) : Option AV :=
  fold_Unfold_l2 fold_Unfold_ret n s0 ([] : List UInt8)

/-! sheave/fold.Folds -/

def fold_Folds_ret (s2 : Int) : Option AV := some (.dat (.int .i64) s2 none)
def fold_Folds_sh (_n : Nat) (s0 : List UInt8) : Option AV :=
  bif ((fold_Unfold_ok s0) && true) then
    fold_Folds_ret (IntKind.wrap .i64 (Int.tdiv (IntKind.wrap .i64 (((List.length s0 : Nat) : Int) - ((List.length (fold_Unfold s0) : Nat) : Int))) (2 : Int)))
  else none

/-! bytes.makeASCIISet -/

def bytes_makeASCIISet_ret (as2 : List Bool) (ok3 : Bool) : Option AV := some (.tup [(.dat (.arr 256 .bool) as2 none), (.dat .bool ok3 none)])
def bytes_makeASCIISet_l2_b (ret : List Bool → Bool → Option AV) (k0 : List Bool → Option AV) (next : List UInt8 → List Bool → Int → Option AV) (_n : Nat) (chars0 : List UInt8) (as2 : List Bool) (i4 : Int) : Option AV :=
  bif (decide (i4 < ((List.length chars0 : Nat) : Int))) then
    bif ((decide ((0 : Int) ≤ i4)) && (decide (i4 < (List.length chars0 : Nat)))) then
      bif (decide ((128 : UInt8) ≤ (List.getD chars0 (Int.toNat i4) (0 : UInt8)))) then
        ret as2 false
      else
        bif ((decide ((0 : Int) ≤ ((UInt8.toNat (List.getD chars0 (Int.toNat i4) (0 : UInt8)) : Nat) : Int))) && (decide (((UInt8.toNat (List.getD chars0 (Int.toNat i4) (0 : UInt8)) : Nat) : Int) < (256 : Nat)))) then
          next chars0 (List.set as2 (Int.toNat ((UInt8.toNat (List.getD chars0 (Int.toNat i4) (0 : UInt8)) : Nat) : Int)) true) (IntKind.wrap .i64 (i4 + (1 : Int)))
        else none
    else none
  else
    k0 as2
def bytes_makeASCIISet_l2 (ret : List Bool → Bool → Option AV) (k0 : List Bool → Option AV) : Nat → List UInt8 → List Bool → Int → Option AV
  | 0 => fun _ _ _ => none
  | n + 1 => bytes_makeASCIISet_l2_b ret k0 (bytes_makeASCIISet_l2 ret k0 n) n
def bytes_makeASCIISet_k2_0 (_n : Nat) (as2 : List Bool) : Option AV :=
  bytes_makeASCIISet_ret as2 true
def bytes_makeASCIISet_sh (n : Nat) (chars0 : List UInt8) : Option AV :=
  bytes_makeASCIISet_l2 bytes_makeASCIISet_ret (bytes_makeASCIISet_k2_0 n) n chars0 (List.replicate 256 false) (0 : Int)

/-! bytes.shouldUseASCIISet -/

def bytes_shouldUseASCIISet_ret (s2 : Bool) : Option AV := some (.dat .bool s2 none)
def bytes_shouldUseASCIISet_sh (_n : Nat) (bufLen0 : Int) : Option AV :=
  bytes_shouldUseASCIISet_ret (decide ((8 : Int) < bufLen0))

/-! (*bytes.asciiSet).contains -/

def __bytes_asciiSet__contains_ret (s4 : Bool) : Option AV := some (.dat .bool s4 none)
def __bytes_asciiSet__contains_sh (_n : Nat) (as0 : List Bool) (c1 : UInt8) : Option AV :=
  bif ((decide ((0 : Int) ≤ ((UInt8.toNat c1 : Nat) : Int))) && (decide (((UInt8.toNat c1 : Nat) : Int) < (256 : Nat)))) then
    __bytes_asciiSet__contains_ret (List.getD as0 (Int.toNat ((UInt8.toNat c1 : Nat) : Int)) false)
  else none

/-! bytes.IndexAny -/

def bytes_IndexAny_ret (s4 : Int) : Option AV := some (.dat (.int .i64) s4 none)
def bytes_IndexAny_l7_b (m0 : Int) (ret : Int → Option AV) (k0 : Option AV) (next : List UInt8 → Nat → Option AV) (_n : Nat) (s28 : List UInt8) (s28p : Nat) : Option AV :=
  bif (decide (s28p < List.length s28)) then
    bif (decide (s28p < List.length s28)) then
      bif ((decL s28 s28p).1 == (65533 : Int)) then
        ret (0 : Int)
      else
        next s28 (bif (decide (s28p < List.length s28)) then s28p + (decL s28 s28p).2 else s28p)
    else none
  else
    k0
def bytes_IndexAny_l7 (m0 : Int) (ret : Int → Option AV) (k0 : Option AV) : Nat → List UInt8 → Nat → Option AV
  | 0 => fun _ _ => none
  | n + 1 => (bytes_IndexAny_l7_b m0) ret k0 ((bytes_IndexAny_l7 m0) ret k0 n) n
def bytes_IndexAny_k7_0 (m0 : Int) (_n : Nat) : Option AV :=
  bytes_IndexAny_ret (-1 : Int)
def bytes_IndexAny_l24_b (m0 : Int) (ret : Int → Option AV) (k2 : Option AV) (next : List Bool → List UInt8 → Int → Int → Option AV) (_n : Nat) (as7 : List Bool) (s60 : List UInt8) (s61 : Int) (s62 : Int) : Option AV :=
  bif (decide (s62 < s61)) then
    bif ((decide ((0 : Int) ≤ s62)) && (decide (s62 < (List.length s60 : Nat)))) then
      bif (__bytes_asciiSet__contains as7 (List.getD s60 (Int.toNat s62) (0 : UInt8))) then
        ret s62
      else
        next as7 s60 s61 (IntKind.wrap .i64 (s62 + (1 : Int)))
    else none
  else
    k2
def bytes_IndexAny_l24 (m0 : Int) (ret : Int → Option AV) (k2 : Option AV) : Nat → List Bool → List UInt8 → Int → Int → Option AV
  | 0 => fun _ _ _ _ => none
  | n + 1 => (bytes_IndexAny_l24_b m0) ret k2 ((bytes_IndexAny_l24 m0) ret k2 n) n
def bytes_IndexAny_k24_2 (m0 : Int) (_n : Nat) : Option AV :=
  bytes_IndexAny_ret (-1 : Int)
def bytes_IndexAny_l48_b (m0 : Int) (ret : Int → Option AV) (k6 : List UInt8 → List UInt8 → Int → Int → Option AV) (next : List UInt8 → List UInt8 → Int → Int → Int → List UInt8 → Nat → Option AV) (_n : Nat) (s0 : List UInt8) (chars1 : List UInt8) (width11 : Int) (i12 : Int) (r13 : Int) (s121 : List UInt8) (s121p : Nat) : Option AV :=
  bif (decide (s121p < List.length s121)) then
    bif (decide (s121p < List.length s121)) then
      bif (r13 == (decL s121 s121p).1) then
        ret i12
      else
        next s0 chars1 width11 i12 r13 s121 (bif (decide (s121p < List.length s121)) then s121p + (decL s121 s121p).2 else s121p)
    else none
  else
    k6 s0 chars1 width11 i12
def bytes_IndexAny_l48 (m0 : Int) (ret : Int → Option AV) (k6 : List UInt8 → List UInt8 → Int → Int → Option AV) : Nat → List UInt8 → List UInt8 → Int → Int → Int → List UInt8 → Nat → Option AV
  | 0 => fun _ _ _ _ _ _ _ => none
  | n + 1 => (bytes_IndexAny_l48_b m0) ret k6 ((bytes_IndexAny_l48 m0) ret k6 n) n
def bytes_IndexAny_k48_6 (m0 : Int) (_ret : Int → Option AV) (_k4 : Option AV) (next : List UInt8 → List UInt8 → Int → Option AV) (_n : Nat) (s0 : List UInt8) (chars1 : List UInt8) (width11 : Int) (i12 : Int) : Option AV :=
  next s0 chars1 (IntKind.wrap .i64 (i12 + width11))
def bytes_IndexAny_l32_b (m0 : Int) (ret : Int → Option AV) (k4 : Option AV) (next : List UInt8 → List UInt8 → Int → Option AV) (n : Nat) (s0 : List UInt8) (chars1 : List UInt8) (i12 : Int) : Option AV :=
  bif (decide (i12 < ((List.length s0 : Nat) : Int))) then
    bif ((decide ((0 : Int) ≤ i12)) && (decide (i12 < (List.length s0 : Nat)))) then
      bif (decide ((IntKind.wrap .i32 ((UInt8.toNat (List.getD s0 (Int.toNat i12) (0 : UInt8)) : Nat) : Int)) < (128 : Int))) then
        bif ((decide ((0 : Int) ≤ i12)) && (decide (i12 < (List.length s0 : Nat)))) then
          bif (decide ((0 : Int) ≤ (internal_bytealg_IndexByteString chars1 (List.getD s0 (Int.toNat i12) (0 : UInt8))))) then
            ret i12
          else
            next s0 chars1 (IntKind.wrap .i64 (i12 + (1 : Int)))
        else none
      else
        bif (((decide ((0 : Int) ≤ i12)) && (decide (i12 ≤ ((List.length s0 : Nat) : Int)))) && (decide (((List.length s0 : Nat) : Int) ≤ ((List.length s0 : Nat) : Int)))) then
          bif ((unicode_utf8_DecodeRune_ok (List.drop (Int.toNat i12) (List.take (Int.toNat ((List.length s0 : Nat) : Int)) s0))) && true) then
            bif (((unicode_utf8_DecodeRune (List.drop (Int.toNat i12) (List.take (Int.toNat ((List.length s0 : Nat) : Int)) s0))).1) != (65533 : Int)) then
              bif (((List.length chars1 : Nat) : Int) == ((unicode_utf8_DecodeRune (List.drop (Int.toNat i12) (List.take (Int.toNat ((List.length s0 : Nat) : Int)) s0))).2)) then
                bif (chars1 == (Utf8.encode ((unicode_utf8_DecodeRune (List.drop (Int.toNat i12) (List.take (Int.toNat ((List.length s0 : Nat) : Int)) s0))).1)).data.toList) then
                  ret i12
                else
                  next s0 chars1 (IntKind.wrap .i64 (i12 + ((unicode_utf8_DecodeRune (List.drop (Int.toNat i12) (List.take (Int.toNat ((List.length s0 : Nat) : Int)) s0))).2)))
              else
                bif (decide (((unicode_utf8_DecodeRune (List.drop (Int.toNat i12) (List.take (Int.toNat ((List.length s0 : Nat) : Int)) s0))).2) ≤ m0)) then
                  bif ((internal_bytealg_IndexString_ok m0 chars1 (Utf8.encode ((unicode_utf8_DecodeRune (List.drop (Int.toNat i12) (List.take (Int.toNat ((List.length s0 : Nat) : Int)) s0))).1)).data.toList) && true) then
                    bif (decide ((0 : Int) ≤ (internal_bytealg_IndexString chars1 (Utf8.encode ((unicode_utf8_DecodeRune (List.drop (Int.toNat i12) (List.take (Int.toNat ((List.length s0 : Nat) : Int)) s0))).1)).data.toList))) then
                      ret i12
                    else
                      next s0 chars1 (IntKind.wrap .i64 (i12 + ((unicode_utf8_DecodeRune (List.drop (Int.toNat i12) (List.take (Int.toNat ((List.length s0 : Nat) : Int)) s0))).2)))
                  else none
                else
                  (bytes_IndexAny_l48 m0) ret ((bytes_IndexAny_k48_6 m0) ret k4 next n) n s0 chars1 ((unicode_utf8_DecodeRune (List.drop (Int.toNat i12) (List.take (Int.toNat ((List.length s0 : Nat) : Int)) s0))).2) i12 ((unicode_utf8_DecodeRune (List.drop (Int.toNat i12) (List.take (Int.toNat ((List.length s0 : Nat) : Int)) s0))).1) chars1 0
            else
              (bytes_IndexAny_l48 m0) ret ((bytes_IndexAny_k48_6 m0) ret k4 next n) n s0 chars1 ((unicode_utf8_DecodeRune (List.drop (Int.toNat i12) (List.take (Int.toNat ((List.length s0 : Nat) : Int)) s0))).2) i12 ((unicode_utf8_DecodeRune (List.drop (Int.toNat i12) (List.take (Int.toNat ((List.length s0 : Nat) : Int)) s0))).1) chars1 0
          else none
        else none
    else none
  else
    k4
def bytes_IndexAny_l32 (m0 : Int) (ret : Int → Option AV) (k4 : Option AV) : Nat → List UInt8 → List UInt8 → Int → Option AV
  | 0 => fun _ _ _ => none
  | n + 1 => (bytes_IndexAny_l32_b m0) ret k4 ((bytes_IndexAny_l32 m0) ret k4 n) n
def bytes_IndexAny_k32_4 (m0 : Int) (_n : Nat) : Option AV :=
  bytes_IndexAny_ret (-1 : Int)
def bytes_IndexAny_sh (m0 : Int) (n : Nat) (s0 : List UInt8) (chars1 : List UInt8) : Option AV :=
  bif (chars1 == ([] : List UInt8)) then
    bytes_IndexAny_ret (-1 : Int)
  else
    bif (((List.length s0 : Nat) : Int) == (1 : Int)) then
      bif ((decide ((0 : Int) ≤ (0 : Int))) && (decide ((0 : Int) < (List.length s0 : Nat)))) then
        bif (decide ((128 : Int) ≤ (IntKind.wrap .i32 ((UInt8.toNat (List.getD s0 (Int.toNat (0 : Int)) (0 : UInt8)) : Nat) : Int)))) then
          (bytes_IndexAny_l7 m0) bytes_IndexAny_ret ((bytes_IndexAny_k7_0 m0) n) n chars1 0
        else
          bif ((decide ((0 : Int) ≤ (0 : Int))) && (decide ((0 : Int) < (List.length s0 : Nat)))) then
            bif (decide ((0 : Int) ≤ (internal_bytealg_IndexByteString chars1 (List.getD s0 (Int.toNat (0 : Int)) (0 : UInt8))))) then
              bytes_IndexAny_ret (0 : Int)
            else
              bytes_IndexAny_ret (-1 : Int)
          else none
      else none
    else
      bif (((List.length chars1 : Nat) : Int) == (1 : Int)) then
        bif ((decide ((0 : Int) ≤ (0 : Int))) && (decide ((0 : Int) < (List.length chars1 : Nat)))) then
          bif (decide ((128 : Int) ≤ (IntKind.wrap .i32 ((UInt8.toNat (List.getD chars1 (Int.toNat (0 : Int)) (0 : UInt8)) : Nat) : Int)))) then
            bif ((bytes_IndexRune_ok s0 (65533 : Int)) && true) then
              bytes_IndexAny_ret (bytes_IndexRune s0 (65533 : Int))
            else none
          else
            bif ((bytes_IndexRune_ok s0 (IntKind.wrap .i32 ((UInt8.toNat (List.getD chars1 (Int.toNat (0 : Int)) (0 : UInt8)) : Nat) : Int))) && true) then
              bytes_IndexAny_ret (bytes_IndexRune s0 (IntKind.wrap .i32 ((UInt8.toNat (List.getD chars1 (Int.toNat (0 : Int)) (0 : UInt8)) : Nat) : Int)))
            else none
        else none
      else
        bif (bytes_shouldUseASCIISet ((List.length s0 : Nat) : Int)) then
          bif ((bytes_makeASCIISet_ok chars1) && true) then
            bif ((bytes_makeASCIISet chars1).2) then
              (bytes_IndexAny_l24 m0) bytes_IndexAny_ret ((bytes_IndexAny_k24_2 m0) n) n ((bytes_makeASCIISet chars1).1) s0 ((List.length s0 : Nat) : Int) (0 : Int)
            else
              (bytes_IndexAny_l32 m0) bytes_IndexAny_ret ((bytes_IndexAny_k32_4 m0) n) n s0 chars1 (0 : Int)
          else none
        else
          (bytes_IndexAny_l32 m0) bytes_IndexAny_ret ((bytes_IndexAny_k32_4 m0) n) n s0 chars1 (0 : Int)

/-! bytes.ContainsAny -/

def bytes_ContainsAny_ret (s4 : Bool) : Option AV := some (.dat .bool s4 none)
def bytes_ContainsAny_sh (_n : Nat) (b0 : List UInt8) (chars1 : List UInt8) : Option AV :=
  bif ((bytes_IndexAny_ok b0 chars1) && true) then
    bytes_ContainsAny_ret (decide ((0 : Int) ≤ (bytes_IndexAny b0 chars1)))
  else none

/-! sheave/fold.Right -/

def fold_Right_ret (s2 : Bool) : Option AV := some (.dat .bool s2 none)
def fold_Right_sh (_n : Nat) (s0 : List UInt8) : Option AV :=
  bif ((fold_Unfold_ok s0) && true) then
    bif ((bytes_ContainsAny_ok (fold_Unfold s0) ([13, 10] : List UInt8)) && true) then
      fold_Right_ret (!(bytes_ContainsAny (fold_Unfold s0) ([13, 10] : List UInt8)))
    else none
  else none

/-! sheave/fold.check -/

def fold_check_ret (s6 : Int) : Option AV := some (.dat (.int .i64) s6 none)
def fold_check_l4_b (ret : Int → Option AV) (k0 : Option AV) (next : List UInt8 → Int → Int → Option AV) (_n : Nat) (s24 : List UInt8) (s25 : Int) (s26 : Int) : Option AV :=
  bif (decide (s26 < s25)) then
    bif ((decide ((0 : Int) ≤ s26)) && (decide (s26 < (List.length s24 : Nat)))) then
      bif (decide ((List.getD s24 (Int.toNat s26) (0 : UInt8)) < (32 : UInt8))) then
        ret (3 : Int)
      else
        bif (decide ((126 : UInt8) < (List.getD s24 (Int.toNat s26) (0 : UInt8)))) then
          ret (3 : Int)
        else
          next s24 s25 (IntKind.wrap .i64 (s26 + (1 : Int)))
    else none
  else
    k0
def fold_check_l4 (ret : Int → Option AV) (k0 : Option AV) : Nat → List UInt8 → Int → Int → Option AV
  | 0 => fun _ _ _ => none
  | n + 1 => fold_check_l4_b ret k0 (fold_check_l4 ret k0 n) n
def fold_check_k4_0 (_n : Nat) : Option AV :=
  fold_check_ret (0 : Int)
def fold_check_sh (n : Nat) (s0 : List UInt8) (first1 : Int) (most2 : Int) : Option AV :=
  bif (decide (most2 < (1 : Int))) then
    fold_check_ret (1 : Int)
  else
    bif (decide ((1000 : Int) < most2)) then
      fold_check_ret (1 : Int)
    else
      bif (decide (first1 < (0 : Int))) then
        fold_check_ret (1 : Int)
      else
        bif (decide (most2 < first1)) then
          fold_check_ret (1 : Int)
        else
          fold_check_l4 fold_check_ret (fold_check_k4_0 n) n s0 ((List.length s0 : Nat) : Int) (0 : Int)

/-! sheave/lines.Join -/

def lines_Join_ret (s2 : List UInt8) : Option AV := some (.dat (.sl .byte) s2 (some (2, 5)))
def lines_Join_l3_b (k0 : List UInt8 → Option AV) (next : List UInt8 → List (List UInt8) → Int → Int → Option AV) (_n : Nat) (out3 : List UInt8) (s6 : List (List UInt8)) (s7 : Int) (s8 : Int) : Option AV :=
  bif (decide (s8 < s7)) then
    bif ((decide ((0 : Int) ≤ s8)) && (decide (s8 < (List.length s6 : Nat)))) then
      bif (decide (List.length out3 + List.length (List.getD s6 (Int.toNat s8) ([] : List UInt8)) ≤ room)) then
        bif (decide (List.length (out3 ++ (List.getD s6 (Int.toNat s8) ([] : List UInt8))) + List.length ([13, 10] : List UInt8) ≤ room)) then
          next ((out3 ++ (List.getD s6 (Int.toNat s8) ([] : List UInt8))) ++ ([13, 10] : List UInt8)) s6 s7 (IntKind.wrap .i64 (s8 + (1 : Int)))
        else none
      else none
    else none
  else
    k0 out3
def lines_Join_l3 (k0 : List UInt8 → Option AV) : Nat → List UInt8 → List (List UInt8) → Int → Int → Option AV
  | 0 => fun _ _ _ _ => none
  | n + 1 => lines_Join_l3_b k0 (lines_Join_l3 k0 n) n
def lines_Join_k3_0 (_n : Nat) (out3 : List UInt8) : Option AV :=
  lines_Join_ret out3
def lines_Join_sh (n : Nat) (l0 : List (List UInt8)) : Option AV :=
  lines_Join_l3 (lines_Join_k3_0 n) n ([] : List UInt8) l0 ((List.length l0 : Nat) : Int) (0 : Int)

/-! sheave/sheaveref27.folds -/

def ref27_folds_ret (s4 : Bool) : Option AV := some (.dat .bool s4 none)
def ref27_folds_sh (_n : Nat) (s0 : List UInt8) (i1 : Int) : Option AV :=
  bif (decide ((IntKind.wrap .i64 (i1 + (2 : Int))) < ((List.length s0 : Nat) : Int))) then
    bif ((decide ((0 : Int) ≤ i1)) && (decide (i1 < (List.length s0 : Nat)))) then
      bif ((List.getD s0 (Int.toNat i1) (0 : UInt8)) == (13 : UInt8)) then
        bif ((decide ((0 : Int) ≤ (IntKind.wrap .i64 (i1 + (1 : Int))))) && (decide ((IntKind.wrap .i64 (i1 + (1 : Int))) < (List.length s0 : Nat)))) then
          bif ((List.getD s0 (Int.toNat (IntKind.wrap .i64 (i1 + (1 : Int)))) (0 : UInt8)) == (10 : UInt8)) then
            bif ((decide ((0 : Int) ≤ (IntKind.wrap .i64 (i1 + (2 : Int))))) && (decide ((IntKind.wrap .i64 (i1 + (2 : Int))) < (List.length s0 : Nat)))) then
              bif ((List.getD s0 (Int.toNat (IntKind.wrap .i64 (i1 + (2 : Int)))) (0 : UInt8)) == (32 : UInt8)) then
                ref27_folds_ret true
              else
                bif ((decide ((0 : Int) ≤ (IntKind.wrap .i64 (i1 + (2 : Int))))) && (decide ((IntKind.wrap .i64 (i1 + (2 : Int))) < (List.length s0 : Nat)))) then
                  ref27_folds_ret ((List.getD s0 (Int.toNat (IntKind.wrap .i64 (i1 + (2 : Int)))) (0 : UInt8)) == (9 : UInt8))
                else none
            else none
          else
            ref27_folds_ret false
        else none
      else
        ref27_folds_ret false
    else none
  else
    ref27_folds_ret false

/-! sheave/sheaveref27.Unfold -/

def ref27_Unfold_ret (s2 : List UInt8) (s3 : Int) : Option AV := some (.tup [(.dat (.sl .byte) s2 none), (.dat (.int .i64) s3 none)])
def ref27_Unfold_l4_b (k0 : List UInt8 → Int → Option AV) (next : List UInt8 → List UInt8 → Int → Int → Option AV) (_n : Nat) (s0 : List UInt8) (out4 : List UInt8) (n5 : Int) (i6 : Int) : Option AV :=
  bif (decide (i6 < ((List.length s0 : Nat) : Int))) then
    bif ((ref27_folds_ok s0 i6) && true) then
      bif (ref27_folds s0 i6) then
        next s0 out4 (IntKind.wrap .i64 (n5 + (1 : Int))) (IntKind.wrap .i64 ((IntKind.wrap .i64 (i6 + (1 : Int))) + (1 : Int)))
      else
        bif ((decide ((0 : Int) ≤ i6)) && (decide (i6 < (List.length s0 : Nat)))) then
          bif (decide (List.length out4 + List.length ([(List.getD s0 (Int.toNat i6) (0 : UInt8))] : List UInt8) ≤ room)) then
            next s0 (out4 ++ ([(List.getD s0 (Int.toNat i6) (0 : UInt8))] : List UInt8)) n5 (IntKind.wrap .i64 (i6 + (1 : Int)))
          else none
        else none
    else none
  else
    k0 out4 n5
def ref27_Unfold_l4 (k0 : List UInt8 → Int → Option AV) : Nat → List UInt8 → List UInt8 → Int → Int → Option AV
  | 0 => fun _ _ _ _ => none
  | n + 1 => ref27_Unfold_l4_b k0 (ref27_Unfold_l4 k0 n) n
def ref27_Unfold_k4_0 (_n : Nat) (out4 : List UInt8) (n5 : Int) : Option AV :=
  ref27_Unfold_ret out4 n5
def ref27_Unfold_sh (n : Nat) (s0 : List UInt8) : Option AV :=
  ref27_Unfold_l4 (ref27_Unfold_k4_0 n) n s0 ([] : List UInt8) (0 : Int) (0 : Int)

/-! sheave/sheaveref01.Like -/

def ref01_Like_ret (s4 : Bool) : Option AV := some (.dat .bool s4 none)
def ref01_Like_l4_b (ret : Bool → Option AV) (k0 : Option AV) (next : List UInt8 → List UInt8 → Int → Option AV) (_n : Nat) (a0 : List UInt8) (b1 : List UInt8) (i5 : Int) : Option AV :=
  bif (decide (i5 < ((List.length a0 : Nat) : Int))) then
    bif ((decide ((0 : Int) ≤ i5)) && (decide (i5 < (List.length a0 : Nat)))) then
      bif ((decide ((0 : Int) ≤ i5)) && (decide (i5 < (List.length b1 : Nat)))) then
        bif ((List.getD a0 (Int.toNat i5) (0 : UInt8)) != (List.getD b1 (Int.toNat i5) (0 : UInt8))) then
          ret false
        else
          next a0 b1 (IntKind.wrap .i64 (i5 + (1 : Int)))
      else none
    else none
  else
    k0
def ref01_Like_l4 (ret : Bool → Option AV) (k0 : Option AV) : Nat → List UInt8 → List UInt8 → Int → Option AV
  | 0 => fun _ _ _ => none
  | n + 1 => ref01_Like_l4_b ret k0 (ref01_Like_l4 ret k0 n) n
def ref01_Like_k4_0 (_n : Nat) : Option AV :=
  ref01_Like_ret true
def ref01_Like_sh (n : Nat) (a0 : List UInt8) (b1 : List UInt8) : Option AV :=
  bif (((List.length a0 : Nat) : Int) != ((List.length b1 : Nat) : Int)) then
    ref01_Like_ret false
  else
    ref01_Like_l4 ref01_Like_ret (ref01_Like_k4_0 n) n a0 b1 (0 : Int)

/-! sheave/sheaveref27.Right -/

def ref27_Right_ret (s2 : Bool) : Option AV := some (.dat .bool s2 none)
def ref27_Right_l3_b (ret : Bool → Option AV) (k0 : Option AV) (next : List UInt8 → Int → Option AV) (_n : Nat) (out3 : List UInt8) (i5 : Int) : Option AV :=
  bif (decide (i5 < ((List.length out3 : Nat) : Int))) then
    bif ((decide ((0 : Int) ≤ i5)) && (decide (i5 < (List.length out3 : Nat)))) then
      bif ((List.getD out3 (Int.toNat i5) (0 : UInt8)) == (13 : UInt8)) then
        ret false
      else
        bif ((decide ((0 : Int) ≤ i5)) && (decide (i5 < (List.length out3 : Nat)))) then
          bif ((List.getD out3 (Int.toNat i5) (0 : UInt8)) == (10 : UInt8)) then
            ret false
          else
            next out3 (IntKind.wrap .i64 (i5 + (1 : Int)))
        else none
    else none
  else
    k0
def ref27_Right_l3 (ret : Bool → Option AV) (k0 : Option AV) : Nat → List UInt8 → Int → Option AV
  | 0 => fun _ _ => none
  | n + 1 => ref27_Right_l3_b ret k0 (ref27_Right_l3 ret k0 n) n
def ref27_Right_k3_0 (_n : Nat) : Option AV :=
  ref27_Right_ret true
def ref27_Right_sh (n : Nat) (s0 : List UInt8) : Option AV :=
  bif ((ref27_Unfold_ok s0) && true) then
    ref27_Right_l3 ref27_Right_ret (ref27_Right_k3_0 n) n ((ref27_Unfold s0).1) (0 : Int)
  else none

/-! bytes.Equal -/

def bytes_Equal_ret (s4 : Bool) : Option AV := some (.dat .bool s4 none)
def bytes_Equal_sh (_n : Nat) (a0 : List UInt8) (b1 : List UInt8) : Option AV :=
  bytes_Equal_ret (a0 == b1)

/-! bytes.Contains -/

def bytes_Contains_ret (s4 : Bool) : Option AV := some (.dat .bool s4 none)
def bytes_Contains_sh (_n : Nat) (b0 : List UInt8) (subslice1 : List UInt8) : Option AV :=
  bif ((bytes_Index_ok b0 subslice1) && true) then
    bytes_Contains_ret ((bytes_Index b0 subslice1) != (-1 : Int))
  else none

/-! bytes.trimLeftByte -/

def bytes_trimLeftByte_ret (s4 : List UInt8) : Option AV := some (.dat (.sl .byte) s4 none)
def bytes_trimLeftByte_l1_b (k0 : List UInt8 → Option AV) (next : List UInt8 → UInt8 → Option AV) (_n : Nat) (s0 : List UInt8) (c1 : UInt8) : Option AV :=
  bif (decide ((0 : Int) < ((List.length s0 : Nat) : Int))) then
    bif ((decide ((0 : Int) ≤ (0 : Int))) && (decide ((0 : Int) < (List.length s0 : Nat)))) then
      bif ((List.getD s0 (Int.toNat (0 : Int)) (0 : UInt8)) == c1) then
        bif (((decide ((0 : Int) ≤ (1 : Int))) && (decide ((1 : Int) ≤ ((List.length s0 : Nat) : Int)))) && (decide (((List.length s0 : Nat) : Int) ≤ ((List.length s0 : Nat) : Int)))) then
          next (List.drop (Int.toNat (1 : Int)) (List.take (Int.toNat ((List.length s0 : Nat) : Int)) s0)) c1
        else none
      else
        k0 s0
    else none
  else
    k0 s0
def bytes_trimLeftByte_l1 (k0 : List UInt8 → Option AV) : Nat → List UInt8 → UInt8 → Option AV
  | 0 => fun _ _ => none
  | n + 1 => bytes_trimLeftByte_l1_b k0 (bytes_trimLeftByte_l1 k0 n) n
def bytes_trimLeftByte_k1_0 (_n : Nat) (s0 : List UInt8) : Option AV :=
  bif (((List.length s0 : Nat) : Int) == (0 : Int)) then
    bytes_trimLeftByte_ret ([] : List UInt8)
  else
    bytes_trimLeftByte_ret s0
def bytes_trimLeftByte_sh (n : Nat) (s0 : List UInt8) (c1 : UInt8) : Option AV :=
  bytes_trimLeftByte_l1 (bytes_trimLeftByte_k1_0 n) n s0 c1

/-! bytes.trimLeftASCII -/

def bytes_trimLeftASCII_ret (s4 : List UInt8) : Option AV := some (.dat (.sl .byte) s4 none)
def bytes_trimLeftASCII_l1_b (k0 : List UInt8 → Option AV) (next : List UInt8 → List Bool → Option AV) (_n : Nat) (s0 : List UInt8) (as1 : List Bool) : Option AV :=
  bif (decide ((0 : Int) < ((List.length s0 : Nat) : Int))) then
    bif ((decide ((0 : Int) ≤ (0 : Int))) && (decide ((0 : Int) < (List.length s0 : Nat)))) then
      bif (!(__bytes_asciiSet__contains as1 (List.getD s0 (Int.toNat (0 : Int)) (0 : UInt8)))) then
        k0 s0
      else
        bif (((decide ((0 : Int) ≤ (1 : Int))) && (decide ((1 : Int) ≤ ((List.length s0 : Nat) : Int)))) && (decide (((List.length s0 : Nat) : Int) ≤ ((List.length s0 : Nat) : Int)))) then
          next (List.drop (Int.toNat (1 : Int)) (List.take (Int.toNat ((List.length s0 : Nat) : Int)) s0)) as1
        else none
    else none
  else
    k0 s0
def bytes_trimLeftASCII_l1 (k0 : List UInt8 → Option AV) : Nat → List UInt8 → List Bool → Option AV
  | 0 => fun _ _ => none
  | n + 1 => bytes_trimLeftASCII_l1_b k0 (bytes_trimLeftASCII_l1 k0 n) n
def bytes_trimLeftASCII_k1_0 (_n : Nat) (s0 : List UInt8) : Option AV :=
  bif (((List.length s0 : Nat) : Int) == (0 : Int)) then
    bytes_trimLeftASCII_ret ([] : List UInt8)
  else
    bytes_trimLeftASCII_ret s0
def bytes_trimLeftASCII_sh (n : Nat) (s0 : List UInt8) (as1 : List Bool) : Option AV :=
  bytes_trimLeftASCII_l1 (bytes_trimLeftASCII_k1_0 n) n s0 as1

/-! bytes.trimRightByte -/

def bytes_trimRightByte_ret (s4 : List UInt8) : Option AV := some (.dat (.sl .byte) s4 none)
def bytes_trimRightByte_l1_b (k0 : List UInt8 → Option AV) (next : List UInt8 → UInt8 → Option AV) (_n : Nat) (s0 : List UInt8) (c1 : UInt8) : Option AV :=
  bif (decide ((0 : Int) < ((List.length s0 : Nat) : Int))) then
    bif ((decide ((0 : Int) ≤ (IntKind.wrap .i64 (((List.length s0 : Nat) : Int) - (1 : Int))))) && (decide ((IntKind.wrap .i64 (((List.length s0 : Nat) : Int) - (1 : Int))) < (List.length s0 : Nat)))) then
      bif ((List.getD s0 (Int.toNat (IntKind.wrap .i64 (((List.length s0 : Nat) : Int) - (1 : Int)))) (0 : UInt8)) == c1) then
        bif (((decide ((0 : Int) ≤ ((0 : Nat) : Int))) && (decide (((0 : Nat) : Int) ≤ (IntKind.wrap .i64 (((List.length s0 : Nat) : Int) - (1 : Int)))))) && (decide ((IntKind.wrap .i64 (((List.length s0 : Nat) : Int) - (1 : Int))) ≤ ((List.length s0 : Nat) : Int)))) then
          next (List.drop (Int.toNat ((0 : Nat) : Int)) (List.take (Int.toNat (IntKind.wrap .i64 (((List.length s0 : Nat) : Int) - (1 : Int)))) s0)) c1
        else none
      else
        k0 s0
    else none
  else
    k0 s0
def bytes_trimRightByte_l1 (k0 : List UInt8 → Option AV) : Nat → List UInt8 → UInt8 → Option AV
  | 0 => fun _ _ => none
  | n + 1 => bytes_trimRightByte_l1_b k0 (bytes_trimRightByte_l1 k0 n) n
def bytes_trimRightByte_k1_0 (_n : Nat) (s0 : List UInt8) : Option AV :=
  bytes_trimRightByte_ret s0
def bytes_trimRightByte_sh (n : Nat) (s0 : List UInt8) (c1 : UInt8) : Option AV :=
  bytes_trimRightByte_l1 (bytes_trimRightByte_k1_0 n) n s0 c1

/-! bytes.trimRightASCII -/

def bytes_trimRightASCII_ret (s4 : List UInt8) : Option AV := some (.dat (.sl .byte) s4 none)
def bytes_trimRightASCII_l1_b (k0 : List UInt8 → Option AV) (next : List UInt8 → List Bool → Option AV) (_n : Nat) (s0 : List UInt8) (as1 : List Bool) : Option AV :=
  bif (decide ((0 : Int) < ((List.length s0 : Nat) : Int))) then
    bif ((decide ((0 : Int) ≤ (IntKind.wrap .i64 (((List.length s0 : Nat) : Int) - (1 : Int))))) && (decide ((IntKind.wrap .i64 (((List.length s0 : Nat) : Int) - (1 : Int))) < (List.length s0 : Nat)))) then
      bif (!(__bytes_asciiSet__contains as1 (List.getD s0 (Int.toNat (IntKind.wrap .i64 (((List.length s0 : Nat) : Int) - (1 : Int)))) (0 : UInt8)))) then
        k0 s0
      else
        bif (((decide ((0 : Int) ≤ ((0 : Nat) : Int))) && (decide (((0 : Nat) : Int) ≤ (IntKind.wrap .i64 (((List.length s0 : Nat) : Int) - (1 : Int)))))) && (decide ((IntKind.wrap .i64 (((List.length s0 : Nat) : Int) - (1 : Int))) ≤ ((List.length s0 : Nat) : Int)))) then
          next (List.drop (Int.toNat ((0 : Nat) : Int)) (List.take (Int.toNat (IntKind.wrap .i64 (((List.length s0 : Nat) : Int) - (1 : Int)))) s0)) as1
        else none
    else none
  else
    k0 s0
def bytes_trimRightASCII_l1 (k0 : List UInt8 → Option AV) : Nat → List UInt8 → List Bool → Option AV
  | 0 => fun _ _ => none
  | n + 1 => bytes_trimRightASCII_l1_b k0 (bytes_trimRightASCII_l1 k0 n) n
def bytes_trimRightASCII_k1_0 (_n : Nat) (s0 : List UInt8) : Option AV :=
  bytes_trimRightASCII_ret s0
def bytes_trimRightASCII_sh (n : Nat) (s0 : List UInt8) (as1 : List Bool) : Option AV :=
  bytes_trimRightASCII_l1 (bytes_trimRightASCII_k1_0 n) n s0 as1

/-! bytes.Trim -/

def bytes_Trim_ret (s4 : List UInt8) : Option AV := some (.dat (.sl .byte) s4 none)
def bytes_Trim_sh (_n : Nat) (s0 : List UInt8) (cutset1 : List UInt8) : Option AV :=
  bif (((List.length s0 : Nat) : Int) == (0 : Int)) then
    bytes_Trim_ret ([] : List UInt8)
  else
    bif (cutset1 == ([] : List UInt8)) then
      bytes_Trim_ret s0
    else
      bif (((List.length cutset1 : Nat) : Int) == (1 : Int)) then
        bif ((decide ((0 : Int) ≤ (0 : Int))) && (decide ((0 : Int) < (List.length cutset1 : Nat)))) then
          bif (decide ((List.getD cutset1 (Int.toNat (0 : Int)) (0 : UInt8)) < (128 : UInt8))) then
            bif ((decide ((0 : Int) ≤ (0 : Int))) && (decide ((0 : Int) < (List.length cutset1 : Nat)))) then
              bif ((decide ((0 : Int) ≤ (0 : Int))) && (decide ((0 : Int) < (List.length cutset1 : Nat)))) then
                bif ((bytes_trimRightByte_ok s0 (List.getD cutset1 (Int.toNat (0 : Int)) (0 : UInt8))) && true) then
                  bif ((bytes_trimLeftByte_ok (bytes_trimRightByte s0 (List.getD cutset1 (Int.toNat (0 : Int)) (0 : UInt8))) (List.getD cutset1 (Int.toNat (0 : Int)) (0 : UInt8))) && true) then
                    bytes_Trim_ret (bytes_trimLeftByte (bytes_trimRightByte s0 (List.getD cutset1 (Int.toNat (0 : Int)) (0 : UInt8))) (List.getD cutset1 (Int.toNat (0 : Int)) (0 : UInt8)))
                  else none
                else none
              else none
            else none
          else
            bif ((bytes_makeASCIISet_ok cutset1) && true) then
              bif ((bytes_makeASCIISet cutset1).2) then
                bif ((bytes_trimRightASCII_ok s0 ((bytes_makeASCIISet cutset1).1)) && true) then
                  bif ((bytes_trimLeftASCII_ok (bytes_trimRightASCII s0 ((bytes_makeASCIISet cutset1).1)) ((bytes_makeASCIISet cutset1).1)) && true) then
                    bytes_Trim_ret (bytes_trimLeftASCII (bytes_trimRightASCII s0 ((bytes_makeASCIISet cutset1).1)) ((bytes_makeASCIISet cutset1).1))
                  else none
                else none
              else
                bif ((bytes_trimRightUnicode_ok s0 cutset1) && true) then
                  bif ((bytes_trimLeftUnicode_ok (bytes_trimRightUnicode s0 cutset1) cutset1) && true) then
                    bytes_Trim_ret (bytes_trimLeftUnicode (bytes_trimRightUnicode s0 cutset1) cutset1)
                  else none
                else none
            else none
        else none
      else
        bif ((bytes_makeASCIISet_ok cutset1) && true) then
          bif ((bytes_makeASCIISet cutset1).2) then
            bif ((bytes_trimRightASCII_ok s0 ((bytes_makeASCIISet cutset1).1)) && true) then
              bif ((bytes_trimLeftASCII_ok (bytes_trimRightASCII s0 ((bytes_makeASCIISet cutset1).1)) ((bytes_makeASCIISet cutset1).1)) && true) then
                bytes_Trim_ret (bytes_trimLeftASCII (bytes_trimRightASCII s0 ((bytes_makeASCIISet cutset1).1)) ((bytes_makeASCIISet cutset1).1))
              else none
            else none
          else
            bif ((bytes_trimRightUnicode_ok s0 cutset1) && true) then
              bif ((bytes_trimLeftUnicode_ok (bytes_trimRightUnicode s0 cutset1) cutset1) && true) then
                bytes_Trim_ret (bytes_trimLeftUnicode (bytes_trimRightUnicode s0 cutset1) cutset1)
              else none
            else none
        else none

/-! sheave/octet.Lower -/

def octet_Lower_ret (s2 : UInt8) : Option AV := some (.dat .byte s2 none)
def octet_Lower_sh (_n : Nat) (c0 : UInt8) : Option AV :=
  bif (decide ((65 : UInt8) ≤ c0)) then
    bif (decide (c0 ≤ (90 : UInt8))) then
      octet_Lower_ret (c0 ||| (32 : UInt8))
    else
      octet_Lower_ret c0
  else
    octet_Lower_ret c0

/-! sheave/octet.Fold -/

def octet_Fold_ret (s2 : List UInt8) : Option AV := some (.dat (.sl .byte) s2 (some (2, 5)))
def octet_Fold_l3_b (k0 : List UInt8 → Option AV) (next : List UInt8 → Int → Int → Option AV) (_n : Nat) (out3 : List UInt8) (s9 : Int) (s10 : Int) : Option AV :=
  bif (decide (s10 < s9)) then
    bif ((decide ((0 : Int) ≤ s10)) && (decide (s10 < (List.length out3 : Nat)))) then
      bif ((decide ((0 : Int) ≤ s10)) && (decide (s10 < (List.length out3 : Nat)))) then
        next (List.set out3 (Int.toNat s10) (octet_Lower (List.getD out3 (Int.toNat s10) (0 : UInt8)))) s9 (IntKind.wrap .i64 (s10 + (1 : Int)))
      else none
    else none
  else
    k0 out3
def octet_Fold_l3 (k0 : List UInt8 → Option AV) : Nat → List UInt8 → Int → Int → Option AV
  | 0 => fun _ _ _ => none
  | n + 1 => octet_Fold_l3_b k0 (octet_Fold_l3 k0 n) n
def octet_Fold_k3_0 (_n : Nat) (out3 : List UInt8) : Option AV :=
  octet_Fold_ret out3
def octet_Fold_sh (n : Nat) (s0 : List UInt8) : Option AV :=
  bif ((bytes_Clone_ok s0) && true) then
    octet_Fold_l3 (octet_Fold_k3_0 n) n (bytes_Clone s0) ((List.length (bytes_Clone s0) : Nat) : Int) (0 : Int)
  else none

/-! sheave/octet.Same -/

def octet_Same_ret (s4 : Bool) : Option AV := some (.dat .bool s4 none)
def octet_Same_sh (_n : Nat) (a0 : List UInt8) (b1 : List UInt8) : Option AV :=
  bif ((octet_Fold_ok a0) && true) then
    bif ((octet_Fold_ok b1) && true) then
      octet_Same_ret (bytes_Equal (octet_Fold a0) (octet_Fold b1))
    else none
  else none

/-! sheave/octet.Count -/

def octet_Count_ret (s4 : Int) : Option AV := some (.dat (.int .i64) s4 none)
def octet_Count_l3_b (k0 : Int → Option AV) (next : Int → Int → List UInt8 → Int → Int → Option AV) (_n : Nat) (kinds1 : Int) (n5 : Int) (s8 : List UInt8) (s9 : Int) (s10 : Int) : Option AV :=
  bif (decide (s10 < s9)) then
    bif ((decide ((0 : Int) ≤ s10)) && (decide (s10 < (List.length s8 : Nat)))) then
      bif (octet_Is (List.getD s8 (Int.toNat s10) (0 : UInt8)) kinds1) then
        next kinds1 (IntKind.wrap .i64 (n5 + (1 : Int))) s8 s9 (IntKind.wrap .i64 (s10 + (1 : Int)))
      else
        next kinds1 n5 s8 s9 (IntKind.wrap .i64 (s10 + (1 : Int)))
    else none
  else
    k0 n5
def octet_Count_l3 (k0 : Int → Option AV) : Nat → Int → Int → List UInt8 → Int → Int → Option AV
  | 0 => fun _ _ _ _ _ => none
  | n + 1 => octet_Count_l3_b k0 (octet_Count_l3 k0 n) n
def octet_Count_k3_0 (_n : Nat) (n5 : Int) : Option AV :=
  octet_Count_ret n5
def octet_Count_sh (n : Nat) (s0 : List UInt8) (kinds1 : Int) : Option AV :=
  octet_Count_l3 (octet_Count_k3_0 n) n kinds1 (0 : Int) s0 ((List.length s0 : Nat) : Int) (0 : Int)

/-! sheave/octet.All -/

def octet_All_ret (s4 : Bool) : Option AV := some (.dat .bool s4 none)
def octet_All_sh (_n : Nat) (s0 : List UInt8) (kinds1 : Int) : Option AV :=
  bif ((octet_Count_ok s0 kinds1) && true) then
    octet_All_ret ((octet_Count s0 kinds1) == ((List.length s0 : Nat) : Int))
  else none

/-! sheave/octet.Trim -/

def octet_Trim_ret (s2 : List UInt8) : Option AV := some (.dat (.sl .byte) s2 (some (2, 5)))
def octet_Trim_sh (_n : Nat) (s0 : List UInt8) : Option AV :=
  bif ((bytes_Trim_ok s0 ([32, 9] : List UInt8)) && true) then
    bif ((bytes_Clone_ok (bytes_Trim s0 ([32, 9] : List UInt8))) && true) then
      octet_Trim_ret (bytes_Clone (bytes_Trim s0 ([32, 9] : List UInt8)))
    else none
  else none

/-! sheave/field.blank -/

def field_blank_ret (s2 : Bool) : Option AV := some (.dat .bool s2 none)
def field_blank_sh (_n : Nat) (s0 : List UInt8) : Option AV :=
  bif (decide ((0 : Int) < ((List.length s0 : Nat) : Int))) then
    bif ((decide ((0 : Int) ≤ (0 : Int))) && (decide ((0 : Int) < (List.length s0 : Nat)))) then
      field_blank_ret (octet_Is (List.getD s0 (Int.toNat (0 : Int)) (0 : UInt8)) (2 : Int))
    else none
  else
    field_blank_ret false

/-! sheave/field.isName -/

def field_isName_ret (s2 : Bool) : Option AV := some (.dat .bool s2 none)
def field_isName_sh (_n : Nat) (s0 : List UInt8) : Option AV :=
  bif (decide ((0 : Int) < ((List.length s0 : Nat) : Int))) then
    bif ((octet_All_ok s0 (4 : Int)) && true) then
      bif (octet_All s0 (4 : Int)) then
        bif ((bytes_Contains_ok s0 ([(58 : UInt8)] : List UInt8)) && true) then
          field_isName_ret (!(bytes_Contains s0 ([(58 : UInt8)] : List UInt8)))
        else none
      else
        field_isName_ret false
    else none
  else
    field_isName_ret false

/-! sheave/field.parts -/

def field_parts_ret (s2 : List (List UInt8)) (s3 : List UInt8) : Option AV := some (.tup [(.dat (.sl (.sl .byte)) s2 none), (.dat (.sl .byte) s3 none)])
def field_parts_l2_b (ret : List (List UInt8) → List UInt8 → Option AV) (k0 : List (List UInt8) → Option AV) (next : List UInt8 → List (List UInt8) → Option AV) (_n : Nat) (s0 : List UInt8) (l4 : List (List UInt8)) : Option AV :=
  bif (decide ((0 : Int) < ((List.length s0 : Nat) : Int))) then
    bif ((bytes_Cut_ok s0 ([(13 : UInt8), (10 : UInt8)] : List UInt8)) && true) then
      bif (((List.length ((bytes_Cut s0 ([(13 : UInt8), (10 : UInt8)] : List UInt8)).1) : Nat) : Int) == (0 : Int)) then
        ret l4 ((bytes_Cut s0 ([(13 : UInt8), (10 : UInt8)] : List UInt8)).2.1)
      else
        bif (field_blank ((bytes_Cut s0 ([(13 : UInt8), (10 : UInt8)] : List UInt8)).1)) then
          bif (decide ((0 : Int) ≤ (IntKind.wrap .i64 (((List.length l4 : Nat) : Int) - (1 : Int))))) then
            bif ((decide ((0 : Int) ≤ (IntKind.wrap .i64 (((List.length l4 : Nat) : Int) - (1 : Int))))) && (decide ((IntKind.wrap .i64 (((List.length l4 : Nat) : Int) - (1 : Int))) < (List.length l4 : Nat)))) then
              bif (decide (List.length (List.getD l4 (Int.toNat (IntKind.wrap .i64 (((List.length l4 : Nat) : Int) - (1 : Int)))) ([] : List UInt8)) + List.length ([13, 10] : List UInt8) ≤ room)) then
                bif (decide (List.length ((List.getD l4 (Int.toNat (IntKind.wrap .i64 (((List.length l4 : Nat) : Int) - (1 : Int)))) ([] : List UInt8)) ++ ([13, 10] : List UInt8)) + List.length ((bytes_Cut s0 ([(13 : UInt8), (10 : UInt8)] : List UInt8)).1) ≤ room)) then
                  bif ((decide ((0 : Int) ≤ (IntKind.wrap .i64 (((List.length l4 : Nat) : Int) - (1 : Int))))) && (decide ((IntKind.wrap .i64 (((List.length l4 : Nat) : Int) - (1 : Int))) < (List.length l4 : Nat)))) then
                    bif (((Int.toNat (IntKind.wrap .i64 (((List.length l4 : Nat) : Int) - (1 : Int)))) == (Int.toNat (IntKind.wrap .i64 (((List.length l4 : Nat) : Int) - (1 : Int))))) && true) then
                      next ((bytes_Cut s0 ([(13 : UInt8), (10 : UInt8)] : List UInt8)).2.1) (List.set l4 (Int.toNat (IntKind.wrap .i64 (((List.length l4 : Nat) : Int) - (1 : Int)))) (((List.getD l4 (Int.toNat (IntKind.wrap .i64 (((List.length l4 : Nat) : Int) - (1 : Int)))) ([] : List UInt8)) ++ ([13, 10] : List UInt8)) ++ ((bytes_Cut s0 ([(13 : UInt8), (10 : UInt8)] : List UInt8)).1)))
                    else none
                  else none
                else none
              else none
            else none
          else
            bif ((bytes_Clone_ok ((bytes_Cut s0 ([(13 : UInt8), (10 : UInt8)] : List UInt8)).1)) && true) then
              bif (decide (List.length l4 + List.length ([(bytes_Clone ((bytes_Cut s0 ([(13 : UInt8), (10 : UInt8)] : List UInt8)).1))] : List (List UInt8)) ≤ room)) then
                next ((bytes_Cut s0 ([(13 : UInt8), (10 : UInt8)] : List UInt8)).2.1) (l4 ++ ([(bytes_Clone ((bytes_Cut s0 ([(13 : UInt8), (10 : UInt8)] : List UInt8)).1))] : List (List UInt8)))
              else none
            else none
        else
          bif ((bytes_Clone_ok ((bytes_Cut s0 ([(13 : UInt8), (10 : UInt8)] : List UInt8)).1)) && true) then
            bif (decide (List.length l4 + List.length ([(bytes_Clone ((bytes_Cut s0 ([(13 : UInt8), (10 : UInt8)] : List UInt8)).1))] : List (List UInt8)) ≤ room)) then
              next ((bytes_Cut s0 ([(13 : UInt8), (10 : UInt8)] : List UInt8)).2.1) (l4 ++ ([(bytes_Clone ((bytes_Cut s0 ([(13 : UInt8), (10 : UInt8)] : List UInt8)).1))] : List (List UInt8)))
            else none
          else none
    else none
  else
    k0 l4
def field_parts_l2 (ret : List (List UInt8) → List UInt8 → Option AV) (k0 : List (List UInt8) → Option AV) : Nat → List UInt8 → List (List UInt8) → Option AV
  | 0 => fun _ _ => none
  | n + 1 => field_parts_l2_b ret k0 (field_parts_l2 ret k0 n) n
def field_parts_k2_0 (_n : Nat) (l4 : List (List UInt8)) : Option AV :=
  field_parts_ret l4 ([] : List UInt8)
def field_parts_sh (n : Nat) (s0 : List UInt8) : Option AV :=
  field_parts_l2 field_parts_ret (field_parts_k2_0 n) n s0 ([] : List (List UInt8))

/-! sheave/field.Raw -/

def field_Raw_ret (s2 : List (List UInt8)) : Option AV := some (.dat (.sl (.sl .byte)) s2 none)
def field_Raw_sh (_n : Nat) (s0 : List UInt8) : Option AV :=
  bif ((field_parts_ok s0) && true) then
    field_Raw_ret ((field_parts s0).1)
  else none

/-! sheave/field.Body -/

def field_Body_ret (s2 : List UInt8) : Option AV := some (.dat (.sl .byte) s2 (some (2, 5)))
def field_Body_sh (_n : Nat) (s0 : List UInt8) : Option AV :=
  bif ((field_parts_ok s0) && true) then
    bif ((bytes_Clone_ok ((field_parts s0).2)) && true) then
      field_Body_ret (bytes_Clone ((field_parts s0).2))
    else none
  else none

/-! sheave/field.One -/

def field_One_ret (s2 : (List UInt8) × ((List UInt8) × Unit)) (s3 : Int) : Option AV := some (.tup [(.dat (.pair (.sl .byte) (.pair (.sl .byte) .unit)) s2 none), (.dat (.int .i64) s3 none)])
def field_One_sh (_n : Nat) (raw0 : List UInt8) : Option AV :=
  bif ((bytes_Cut_ok raw0 ([(58 : UInt8)] : List UInt8)) && true) then
    bif ((octet_Trim_ok ((bytes_Cut raw0 ([(58 : UInt8)] : List UInt8)).1)) && true) then
      bif (!((bytes_Cut raw0 ([(58 : UInt8)] : List UInt8)).2.2)) then
        field_One_ret (([] : List UInt8), (([] : List UInt8), ())) (3 : Int)
      else
        bif (field_blank raw0) then
          field_One_ret (([] : List UInt8), (([] : List UInt8), ())) (3 : Int)
        else
          bif ((field_isName_ok (octet_Trim ((bytes_Cut raw0 ([(58 : UInt8)] : List UInt8)).1))) && true) then
            bif (!(field_isName (octet_Trim ((bytes_Cut raw0 ([(58 : UInt8)] : List UInt8)).1)))) then
              field_One_ret (([] : List UInt8), (([] : List UInt8), ())) (3 : Int)
            else
              bif ((fold_Unfold_ok ((bytes_Cut raw0 ([(58 : UInt8)] : List UInt8)).2.1)) && true) then
                bif ((octet_Trim_ok (fold_Unfold ((bytes_Cut raw0 ([(58 : UInt8)] : List UInt8)).2.1))) && true) then
                  field_One_ret ((octet_Trim ((bytes_Cut raw0 ([(58 : UInt8)] : List UInt8)).1)), ((octet_Trim (fold_Unfold ((bytes_Cut raw0 ([(58 : UInt8)] : List UInt8)).2.1))), ())) (0 : Int)
                else none
              else none
          else none
    else none
  else none

/-! sheave/field.Read -/

def field_Read_ret (s2 : List ((List UInt8) × ((List UInt8) × Unit))) (s3 : Int) : Option AV := some (.tup [(.dat (.sl (.pair (.sl .byte) (.pair (.sl .byte) .unit))) s2 none), (.dat (.int .i64) s3 none)])
def field_Read_l4_b (k0 : List ((List UInt8) × ((List UInt8) × Unit)) → Int → Option AV) (next : List ((List UInt8) × ((List UInt8) × Unit)) → Int → List (List UInt8) → Int → Int → Option AV) (_n : Nat) (l4 : List ((List UInt8) × ((List UInt8) × Unit))) (bad5 : Int) (s11 : List (List UInt8)) (s12 : Int) (s13 : Int) : Option AV :=
  bif (decide (s13 < s12)) then
    bif ((decide ((0 : Int) ≤ s13)) && (decide (s13 < (List.length s11 : Nat)))) then
      bif ((field_One_ok (List.getD s11 (Int.toNat s13) ([] : List UInt8))) && true) then
        bif (((field_One (List.getD s11 (Int.toNat s13) ([] : List UInt8))).2) != (0 : Int)) then
          next l4 (IntKind.wrap .i64 (bad5 + (1 : Int))) s11 s12 (IntKind.wrap .i64 (s13 + (1 : Int)))
        else
          bif (decide (List.length l4 + List.length ([((field_One (List.getD s11 (Int.toNat s13) ([] : List UInt8))).1)] : List ((List UInt8) × ((List UInt8) × Unit))) ≤ room)) then
            next (l4 ++ ([((field_One (List.getD s11 (Int.toNat s13) ([] : List UInt8))).1)] : List ((List UInt8) × ((List UInt8) × Unit)))) bad5 s11 s12 (IntKind.wrap .i64 (s13 + (1 : Int)))
          else none
      else none
    else none
  else
    k0 l4 bad5
def field_Read_l4 (k0 : List ((List UInt8) × ((List UInt8) × Unit)) → Int → Option AV) : Nat → List ((List UInt8) × ((List UInt8) × Unit)) → Int → List (List UInt8) → Int → Int → Option AV
  | 0 => fun _ _ _ _ _ => none
  | n + 1 => field_Read_l4_b k0 (field_Read_l4 k0 n) n
def field_Read_k4_0 (_n : Nat) (l4 : List ((List UInt8) × ((List UInt8) × Unit))) (bad5 : Int) : Option AV :=
  field_Read_ret l4 bad5
def field_Read_sh (n : Nat) (s0 : List UInt8) : Option AV :=
  bif ((field_Raw_ok s0) && true) then
    field_Read_l4 (field_Read_k4_0 n) n ([] : List ((List UInt8) × ((List UInt8) × Unit))) (0 : Int) (field_Raw s0) ((List.length (field_Raw s0) : Nat) : Int) (0 : Int)
  else none

/-! sheave/field.check -/

def field_check_ret (s2 : Int) : Option AV := some (.dat (.int .i64) s2 none)
def field_check_sh (_n : Nat) (f0 : (List UInt8) × ((List UInt8) × Unit)) : Option AV :=
  bif ((field_isName_ok f0.1) && true) then
    bif (!(field_isName f0.1)) then
      field_check_ret (13 : Int)
    else
      bif ((bytes_ContainsAny_ok f0.2.1 ([13, 10] : List UInt8)) && true) then
        bif (bytes_ContainsAny f0.2.1 ([13, 10] : List UInt8)) then
          field_check_ret (8 : Int)
        else
          bif ((octet_Trim_ok f0.2.1) && true) then
            bif (((List.length (octet_Trim f0.2.1) : Nat) : Int) != ((List.length f0.2.1 : Nat) : Int)) then
              field_check_ret (3 : Int)
            else
              field_check_ret (0 : Int)
          else none
      else none
  else none

/-! sheave/field.Lay -/

def field_Lay_ret (s2 : List UInt8) (s3 : Int) : Option AV := some (.tup [(.dat (.sl .byte) s2 none), (.dat (.int .i64) s3 none)])
def field_Lay_l3_b (ret : List UInt8 → Int → Option AV) (k0 : List (List UInt8) → Option AV) (next : List (List UInt8) → List ((List UInt8) × ((List UInt8) × Unit)) → Int → Int → Option AV) (_n : Nat) (out4 : List (List UInt8)) (s8 : List ((List UInt8) × ((List UInt8) × Unit))) (s9 : Int) (s10 : Int) : Option AV :=
  bif (decide (s10 < s9)) then
    bif ((decide ((0 : Int) ≤ s10)) && (decide (s10 < (List.length s8 : Nat)))) then
      bif ((field_check_ok (List.getD s8 (Int.toNat s10) (([] : List UInt8), (([] : List UInt8), ())))) && true) then
        bif ((field_check (List.getD s8 (Int.toNat s10) (([] : List UInt8), (([] : List UInt8), ())))) != (0 : Int)) then
          ret ([] : List UInt8) (field_check (List.getD s8 (Int.toNat s10) (([] : List UInt8), (([] : List UInt8), ()))))
        else
          both (
          both (
          bif ((bytes_Clone_ok (List.getD s8 (Int.toNat s10) (([] : List UInt8), (([] : List UInt8), ()))).1) && true) then
            both (
            bif (decide (List.length (bytes_Clone (List.getD s8 (Int.toNat s10) (([] : List UInt8), (([] : List UInt8), ()))).1) + List.length ([58, 32] : List UInt8) ≤ room)) then
              bif (decide (List.length ((bytes_Clone (List.getD s8 (Int.toNat s10) (([] : List UInt8), (([] : List UInt8), ()))).1) ++ ([58, 32] : List UInt8)) + List.length (List.getD s8 (Int.toNat s10) (([] : List UInt8), (([] : List UInt8), ()))).2.1 ≤ room)) then
                bif (decide (List.length out4 + List.length ([(((bytes_Clone (List.getD s8 (Int.toNat s10) (([] : List UInt8), (([] : List UInt8), ()))).1) ++ ([58, 32] : List UInt8)) ++ (List.getD s8 (Int.toNat s10) (([] : List UInt8), (([] : List UInt8), ()))).2.1)] : List (List UInt8)) ≤ room)) then
                  next (out4 ++ ([(((bytes_Clone (List.getD s8 (Int.toNat s10) (([] : List UInt8), (([] : List UInt8), ()))).1) ++ ([58, 32] : List UInt8)) ++ (List.getD s8 (Int.toNat s10) (([] : List UInt8), (([] : List UInt8), ()))).2.1)] : List (List UInt8))) s8 s9 (IntKind.wrap .i64 (s10 + (1 : Int)))
                else none
              else none
            else none) (
            bif (decide (List.length (bytes_Clone (List.getD s8 (Int.toNat s10) (([] : List UInt8), (([] : List UInt8), ()))).1) + List.length ([58, 32] : List UInt8) ≤ room)) then
              bif (decide (List.length ((bytes_Clone (List.getD s8 (Int.toNat s10) (([] : List UInt8), (([] : List UInt8), ()))).1) ++ ([58, 32] : List UInt8)) + List.length (List.getD s8 (Int.toNat s10) (([] : List UInt8), (([] : List UInt8), ()))).2.1 ≤ room)) then
                bif (decide (List.length out4 + List.length ([(((bytes_Clone (List.getD s8 (Int.toNat s10) (([] : List UInt8), (([] : List UInt8), ()))).1) ++ ([58, 32] : List UInt8)) ++ (List.getD s8 (Int.toNat s10) (([] : List UInt8), (([] : List UInt8), ()))).2.1)] : List (List UInt8)) ≤ room)) then
                  next (out4 ++ ([(((bytes_Clone (List.getD s8 (Int.toNat s10) (([] : List UInt8), (([] : List UInt8), ()))).1) ++ ([58, 32] : List UInt8)) ++ (List.getD s8 (Int.toNat s10) (([] : List UInt8), (([] : List UInt8), ()))).2.1)] : List (List UInt8))) s8 s9 (IntKind.wrap .i64 (s10 + (1 : Int)))
                else none
              else none
            else none)
          else none) (
          bif ((bytes_Clone_ok (List.getD s8 (Int.toNat s10) (([] : List UInt8), (([] : List UInt8), ()))).1) && true) then
            bif (decide (List.length (bytes_Clone (List.getD s8 (Int.toNat s10) (([] : List UInt8), (([] : List UInt8), ()))).1) + List.length ([58, 32] : List UInt8) ≤ room)) then
              bif (decide (List.length ((bytes_Clone (List.getD s8 (Int.toNat s10) (([] : List UInt8), (([] : List UInt8), ()))).1) ++ ([58, 32] : List UInt8)) + List.length (List.getD s8 (Int.toNat s10) (([] : List UInt8), (([] : List UInt8), ()))).2.1 ≤ room)) then
                bif (decide (List.length out4 + List.length ([(((bytes_Clone (List.getD s8 (Int.toNat s10) (([] : List UInt8), (([] : List UInt8), ()))).1) ++ ([58, 32] : List UInt8)) ++ (List.getD s8 (Int.toNat s10) (([] : List UInt8), (([] : List UInt8), ()))).2.1)] : List (List UInt8)) ≤ room)) then
                  next (out4 ++ ([(((bytes_Clone (List.getD s8 (Int.toNat s10) (([] : List UInt8), (([] : List UInt8), ()))).1) ++ ([58, 32] : List UInt8)) ++ (List.getD s8 (Int.toNat s10) (([] : List UInt8), (([] : List UInt8), ()))).2.1)] : List (List UInt8))) s8 s9 (IntKind.wrap .i64 (s10 + (1 : Int)))
                else none
              else none
            else none
          else none)) (
          bif ((bytes_Clone_ok (List.getD s8 (Int.toNat s10) (([] : List UInt8), (([] : List UInt8), ()))).1) && true) then
            bif (decide (List.length (bytes_Clone (List.getD s8 (Int.toNat s10) (([] : List UInt8), (([] : List UInt8), ()))).1) + List.length ([58, 32] : List UInt8) ≤ room)) then
              bif (decide (List.length ((bytes_Clone (List.getD s8 (Int.toNat s10) (([] : List UInt8), (([] : List UInt8), ()))).1) ++ ([58, 32] : List UInt8)) + List.length (List.getD s8 (Int.toNat s10) (([] : List UInt8), (([] : List UInt8), ()))).2.1 ≤ room)) then
                bif (decide (List.length out4 + List.length ([(((bytes_Clone (List.getD s8 (Int.toNat s10) (([] : List UInt8), (([] : List UInt8), ()))).1) ++ ([58, 32] : List UInt8)) ++ (List.getD s8 (Int.toNat s10) (([] : List UInt8), (([] : List UInt8), ()))).2.1)] : List (List UInt8)) ≤ room)) then
                  next (out4 ++ ([(((bytes_Clone (List.getD s8 (Int.toNat s10) (([] : List UInt8), (([] : List UInt8), ()))).1) ++ ([58, 32] : List UInt8)) ++ (List.getD s8 (Int.toNat s10) (([] : List UInt8), (([] : List UInt8), ()))).2.1)] : List (List UInt8))) s8 s9 (IntKind.wrap .i64 (s10 + (1 : Int)))
                else none
              else none
            else none
          else none)
      else none
    else none
  else
    k0 out4
def field_Lay_l3 (ret : List UInt8 → Int → Option AV) (k0 : List (List UInt8) → Option AV) : Nat → List (List UInt8) → List ((List UInt8) × ((List UInt8) × Unit)) → Int → Int → Option AV
  | 0 => fun _ _ _ _ => none
  | n + 1 => field_Lay_l3_b ret k0 (field_Lay_l3 ret k0 n) n
def field_Lay_k3_0 (_n : Nat) (out4 : List (List UInt8)) : Option AV :=
  bif ((lines_Join_ok out4) && true) then
    bif (decide (List.length (lines_Join out4) + List.length ([13, 10] : List UInt8) ≤ room)) then
      field_Lay_ret ((lines_Join out4) ++ ([13, 10] : List UInt8)) (0 : Int)
    else none
  else none
def field_Lay_sh (n : Nat) (l0 : List ((List UInt8) × ((List UInt8) × Unit))) : Option AV :=
  field_Lay_l3 field_Lay_ret (field_Lay_k3_0 n) n ([] : List (List UInt8)) l0 ((List.length l0 : Nat) : Int) (0 : Int)

/-! sheave/field.Find -/

def field_Find_ret (s4 : List UInt8) (s5 : Int) : Option AV := some (.tup [(.dat (.sl .byte) s4 none), (.dat (.int .i64) s5 none)])
def field_Find_l4_b (k0 : List UInt8 → Int → Option AV) (next : List UInt8 → List UInt8 → Int → List ((List UInt8) × ((List UInt8) × Unit)) → Int → Int → Option AV) (_n : Nat) (name1 : List UInt8) (v6 : List UInt8) (n7 : Int) (s10 : List ((List UInt8) × ((List UInt8) × Unit))) (s11 : Int) (s12 : Int) : Option AV :=
  bif (decide (s12 < s11)) then
    bif ((decide ((0 : Int) ≤ s12)) && (decide (s12 < (List.length s10 : Nat)))) then
      bif ((octet_Same_ok (List.getD s10 (Int.toNat s12) (([] : List UInt8), (([] : List UInt8), ()))).1 name1) && true) then
        bif (!(octet_Same (List.getD s10 (Int.toNat s12) (([] : List UInt8), (([] : List UInt8), ()))).1 name1)) then
          next name1 v6 n7 s10 s11 (IntKind.wrap .i64 (s12 + (1 : Int)))
        else
          bif (n7 == (0 : Int)) then
            bif ((bytes_Clone_ok (List.getD s10 (Int.toNat s12) (([] : List UInt8), (([] : List UInt8), ()))).2.1) && true) then
              next name1 (bytes_Clone (List.getD s10 (Int.toNat s12) (([] : List UInt8), (([] : List UInt8), ()))).2.1) (IntKind.wrap .i64 (n7 + (1 : Int))) s10 s11 (IntKind.wrap .i64 (s12 + (1 : Int)))
            else none
          else
            next name1 v6 (IntKind.wrap .i64 (n7 + (1 : Int))) s10 s11 (IntKind.wrap .i64 (s12 + (1 : Int)))
      else none
    else none
  else
    k0 v6 n7
def field_Find_l4 (k0 : List UInt8 → Int → Option AV) : Nat → List UInt8 → List UInt8 → Int → List ((List UInt8) × ((List UInt8) × Unit)) → Int → Int → Option AV
  | 0 => fun _ _ _ _ _ _ => none
  | n + 1 => field_Find_l4_b k0 (field_Find_l4 k0 n) n
def field_Find_k4_0 (_n : Nat) (v6 : List UInt8) (n7 : Int) : Option AV :=
  field_Find_ret v6 n7
def field_Find_sh (n : Nat) (l0 : List ((List UInt8) × ((List UInt8) × Unit))) (name1 : List UInt8) : Option AV :=
  field_Find_l4 (field_Find_k4_0 n) n name1 ([] : List UInt8) (0 : Int) l0 ((List.length l0 : Nat) : Int) (0 : Int)

/-! sheave/sheaveref01.has -/

def ref01_has_ret (s4 : Bool) : Option AV := some (.dat .bool s4 none)
def ref01_has_l2_b (ret : Bool → Option AV) (k0 : Option AV) (next : List UInt8 → UInt8 → Int → Option AV) (_n : Nat) (s0 : List UInt8) (c1 : UInt8) (i5 : Int) : Option AV :=
  bif (decide (i5 < ((List.length s0 : Nat) : Int))) then
    bif ((decide ((0 : Int) ≤ i5)) && (decide (i5 < (List.length s0 : Nat)))) then
      bif ((List.getD s0 (Int.toNat i5) (0 : UInt8)) == c1) then
        ret true
      else
        next s0 c1 (IntKind.wrap .i64 (i5 + (1 : Int)))
    else none
  else
    k0
def ref01_has_l2 (ret : Bool → Option AV) (k0 : Option AV) : Nat → List UInt8 → UInt8 → Int → Option AV
  | 0 => fun _ _ _ => none
  | n + 1 => ref01_has_l2_b ret k0 (ref01_has_l2 ret k0 n) n
def ref01_has_k2_0 (_n : Nat) : Option AV :=
  ref01_has_ret false
def ref01_has_sh (n : Nat) (s0 : List UInt8) (c1 : UInt8) : Option AV :=
  ref01_has_l2 ref01_has_ret (ref01_has_k2_0 n) n s0 c1 (0 : Int)

/-! sheave/sheaveref01.Is -/

def ref01_Is_ret (s4 : Bool) : Option AV := some (.dat .bool s4 none)
def ref01_Is_sh (_n : Nat) (c0 : UInt8) (kinds1 : Int) : Option AV :=
  ref01_Is_ret ((bits .and .i64 (ref01_Kinds c0) kinds1) != (0 : Int))

/-! sheave/sheaveref01.Count -/

def ref01_Count_ret (s4 : Int) : Option AV := some (.dat (.int .i64) s4 none)
def ref01_Count_l3_b (k0 : Int → Option AV) (next : List UInt8 → Int → Int → Int → Option AV) (_n : Nat) (s0 : List UInt8) (kinds1 : Int) (n5 : Int) (i6 : Int) : Option AV :=
  bif (decide (i6 < ((List.length s0 : Nat) : Int))) then
    bif ((decide ((0 : Int) ≤ i6)) && (decide (i6 < (List.length s0 : Nat)))) then
      bif (ref01_Is (List.getD s0 (Int.toNat i6) (0 : UInt8)) kinds1) then
        next s0 kinds1 (IntKind.wrap .i64 (n5 + (1 : Int))) (IntKind.wrap .i64 (i6 + (1 : Int)))
      else
        next s0 kinds1 n5 (IntKind.wrap .i64 (i6 + (1 : Int)))
    else none
  else
    k0 n5
def ref01_Count_l3 (k0 : Int → Option AV) : Nat → List UInt8 → Int → Int → Int → Option AV
  | 0 => fun _ _ _ _ => none
  | n + 1 => ref01_Count_l3_b k0 (ref01_Count_l3 k0 n) n
def ref01_Count_k3_0 (_n : Nat) (n5 : Int) : Option AV :=
  ref01_Count_ret n5
def ref01_Count_sh (n : Nat) (s0 : List UInt8) (kinds1 : Int) : Option AV :=
  ref01_Count_l3 (ref01_Count_k3_0 n) n s0 kinds1 (0 : Int) (0 : Int)

/-! sheave/sheaveref01.Trim -/

def ref01_Trim_ret (s2 : List UInt8) : Option AV := some (.dat (.sl .byte) s2 none)
def ref01_Trim_l2_b (k0 : List UInt8 → Int → Int → Option AV) (next : List UInt8 → Int → Int → Option AV) (_n : Nat) (s0 : List UInt8) (a3 : Int) (b4 : Int) : Option AV :=
  bif (decide (a3 < b4)) then
    bif ((decide ((0 : Int) ≤ a3)) && (decide (a3 < (List.length s0 : Nat)))) then
      bif (ref01_Is (List.getD s0 (Int.toNat a3) (0 : UInt8)) (2 : Int)) then
        next s0 (IntKind.wrap .i64 (a3 + (1 : Int))) b4
      else
        k0 s0 a3 b4
    else none
  else
    k0 s0 a3 b4
def ref01_Trim_l2 (k0 : List UInt8 → Int → Int → Option AV) : Nat → List UInt8 → Int → Int → Option AV
  | 0 => fun _ _ _ => none
  | n + 1 => ref01_Trim_l2_b k0 (ref01_Trim_l2 k0 n) n
def ref01_Trim_l4_b (k2 : List UInt8 → Int → Int → Option AV) (next : List UInt8 → Int → Int → Option AV) (_n : Nat) (s0 : List UInt8) (a3 : Int) (b4 : Int) : Option AV :=
  bif (decide (a3 < b4)) then
    bif ((decide ((0 : Int) ≤ (IntKind.wrap .i64 (b4 - (1 : Int))))) && (decide ((IntKind.wrap .i64 (b4 - (1 : Int))) < (List.length s0 : Nat)))) then
      bif (ref01_Is (List.getD s0 (Int.toNat (IntKind.wrap .i64 (b4 - (1 : Int)))) (0 : UInt8)) (2 : Int)) then
        next s0 a3 (IntKind.wrap .i64 (b4 - (1 : Int)))
      else
        k2 s0 a3 b4
    else none
  else
    k2 s0 a3 b4
def ref01_Trim_l4 (k2 : List UInt8 → Int → Int → Option AV) : Nat → List UInt8 → Int → Int → Option AV
  | 0 => fun _ _ _ => none
  | n + 1 => ref01_Trim_l4_b k2 (ref01_Trim_l4 k2 n) n
def ref01_Trim_k4_2 (_n : Nat) (s0 : List UInt8) (a3 : Int) (b4 : Int) : Option AV :=
  bif (((decide ((0 : Int) ≤ a3)) && (decide (a3 ≤ b4))) && (decide (b4 ≤ ((List.length s0 : Nat) : Int)))) then
    ref01_Trim_ret (List.drop (Int.toNat a3) (List.take (Int.toNat b4) s0))
  else none
def ref01_Trim_k2_0 (n : Nat) (s0 : List UInt8) (a3 : Int) (b4 : Int) : Option AV :=
  ref01_Trim_l4 (ref01_Trim_k4_2 n) n s0 a3 b4
def ref01_Trim_sh (n : Nat) (s0 : List UInt8) : Option AV :=
  ref01_Trim_l2 (ref01_Trim_k2_0 n) n s0 (0 : Int) ((List.length s0 : Nat) : Int)

/-! sheave/sheaveref18.Lines -/

def ref18_Lines_ret (s2 : List (List UInt8)) (s3 : Bool) : Option AV := some (.tup [(.dat (.sl (.sl .byte)) s2 none), (.dat .bool s3 none)])
def ref18_Lines_l3_b (k0 : List (List UInt8) → Option AV) (next : List UInt8 → List (List UInt8) → Int → Option AV) (_n : Nat) (s0 : List UInt8) (out4 : List (List UInt8)) (i5 : Int) : Option AV :=
  bif (decide (i5 < ((List.length s0 : Nat) : Int))) then
    bif ((decide ((0 : Int) ≤ i5)) && (decide (i5 < (List.length s0 : Nat)))) then
      bif ((List.getD s0 (Int.toNat i5) (0 : UInt8)) == (13 : UInt8)) then
        bif (decide ((IntKind.wrap .i64 (i5 + (1 : Int))) < ((List.length s0 : Nat) : Int))) then
          bif ((decide ((0 : Int) ≤ (IntKind.wrap .i64 (i5 + (1 : Int))))) && (decide ((IntKind.wrap .i64 (i5 + (1 : Int))) < (List.length s0 : Nat)))) then
            bif ((List.getD s0 (Int.toNat (IntKind.wrap .i64 (i5 + (1 : Int)))) (0 : UInt8)) == (10 : UInt8)) then
              bif (decide (List.length out4 + List.length ([([] : List UInt8)] : List (List UInt8)) ≤ room)) then
                next s0 (out4 ++ ([([] : List UInt8)] : List (List UInt8))) (IntKind.wrap .i64 ((IntKind.wrap .i64 (i5 + (1 : Int))) + (1 : Int)))
              else none
            else
              bif ((decide ((0 : Int) ≤ (IntKind.wrap .i64 (((List.length out4 : Nat) : Int) - (1 : Int))))) && (decide ((IntKind.wrap .i64 (((List.length out4 : Nat) : Int) - (1 : Int))) < (List.length out4 : Nat)))) then
                bif ((decide ((0 : Int) ≤ i5)) && (decide (i5 < (List.length s0 : Nat)))) then
                  bif (decide (List.length (List.getD out4 (Int.toNat (IntKind.wrap .i64 (((List.length out4 : Nat) : Int) - (1 : Int)))) ([] : List UInt8)) + List.length ([(List.getD s0 (Int.toNat i5) (0 : UInt8))] : List UInt8) ≤ room)) then
                    bif ((decide ((0 : Int) ≤ (IntKind.wrap .i64 (((List.length out4 : Nat) : Int) - (1 : Int))))) && (decide ((IntKind.wrap .i64 (((List.length out4 : Nat) : Int) - (1 : Int))) < (List.length out4 : Nat)))) then
                      bif (((Int.toNat (IntKind.wrap .i64 (((List.length out4 : Nat) : Int) - (1 : Int)))) == (Int.toNat (IntKind.wrap .i64 (((List.length out4 : Nat) : Int) - (1 : Int))))) && true) then
                        next s0 (List.set out4 (Int.toNat (IntKind.wrap .i64 (((List.length out4 : Nat) : Int) - (1 : Int)))) ((List.getD out4 (Int.toNat (IntKind.wrap .i64 (((List.length out4 : Nat) : Int) - (1 : Int)))) ([] : List UInt8)) ++ ([(List.getD s0 (Int.toNat i5) (0 : UInt8))] : List UInt8))) (IntKind.wrap .i64 (i5 + (1 : Int)))
                      else none
                    else none
                  else none
                else none
              else none
          else none
        else
          bif ((decide ((0 : Int) ≤ (IntKind.wrap .i64 (((List.length out4 : Nat) : Int) - (1 : Int))))) && (decide ((IntKind.wrap .i64 (((List.length out4 : Nat) : Int) - (1 : Int))) < (List.length out4 : Nat)))) then
            bif ((decide ((0 : Int) ≤ i5)) && (decide (i5 < (List.length s0 : Nat)))) then
              bif (decide (List.length (List.getD out4 (Int.toNat (IntKind.wrap .i64 (((List.length out4 : Nat) : Int) - (1 : Int)))) ([] : List UInt8)) + List.length ([(List.getD s0 (Int.toNat i5) (0 : UInt8))] : List UInt8) ≤ room)) then
                bif ((decide ((0 : Int) ≤ (IntKind.wrap .i64 (((List.length out4 : Nat) : Int) - (1 : Int))))) && (decide ((IntKind.wrap .i64 (((List.length out4 : Nat) : Int) - (1 : Int))) < (List.length out4 : Nat)))) then
                  bif (((Int.toNat (IntKind.wrap .i64 (((List.length out4 : Nat) : Int) - (1 : Int)))) == (Int.toNat (IntKind.wrap .i64 (((List.length out4 : Nat) : Int) - (1 : Int))))) && true) then
                    next s0 (List.set out4 (Int.toNat (IntKind.wrap .i64 (((List.length out4 : Nat) : Int) - (1 : Int)))) ((List.getD out4 (Int.toNat (IntKind.wrap .i64 (((List.length out4 : Nat) : Int) - (1 : Int)))) ([] : List UInt8)) ++ ([(List.getD s0 (Int.toNat i5) (0 : UInt8))] : List UInt8))) (IntKind.wrap .i64 (i5 + (1 : Int)))
                  else none
                else none
              else none
            else none
          else none
      else
        bif ((decide ((0 : Int) ≤ (IntKind.wrap .i64 (((List.length out4 : Nat) : Int) - (1 : Int))))) && (decide ((IntKind.wrap .i64 (((List.length out4 : Nat) : Int) - (1 : Int))) < (List.length out4 : Nat)))) then
          bif ((decide ((0 : Int) ≤ i5)) && (decide (i5 < (List.length s0 : Nat)))) then
            bif (decide (List.length (List.getD out4 (Int.toNat (IntKind.wrap .i64 (((List.length out4 : Nat) : Int) - (1 : Int)))) ([] : List UInt8)) + List.length ([(List.getD s0 (Int.toNat i5) (0 : UInt8))] : List UInt8) ≤ room)) then
              bif ((decide ((0 : Int) ≤ (IntKind.wrap .i64 (((List.length out4 : Nat) : Int) - (1 : Int))))) && (decide ((IntKind.wrap .i64 (((List.length out4 : Nat) : Int) - (1 : Int))) < (List.length out4 : Nat)))) then
                bif (((Int.toNat (IntKind.wrap .i64 (((List.length out4 : Nat) : Int) - (1 : Int)))) == (Int.toNat (IntKind.wrap .i64 (((List.length out4 : Nat) : Int) - (1 : Int))))) && true) then
                  next s0 (List.set out4 (Int.toNat (IntKind.wrap .i64 (((List.length out4 : Nat) : Int) - (1 : Int)))) ((List.getD out4 (Int.toNat (IntKind.wrap .i64 (((List.length out4 : Nat) : Int) - (1 : Int)))) ([] : List UInt8)) ++ ([(List.getD s0 (Int.toNat i5) (0 : UInt8))] : List UInt8))) (IntKind.wrap .i64 (i5 + (1 : Int)))
                else none
              else none
            else none
          else none
        else none
    else none
  else
    k0 out4
def ref18_Lines_l3 (k0 : List (List UInt8) → Option AV) : Nat → List UInt8 → List (List UInt8) → Int → Option AV
  | 0 => fun _ _ _ => none
  | n + 1 => ref18_Lines_l3_b k0 (ref18_Lines_l3 k0 n) n
def ref18_Lines_k3_0 (_n : Nat) (out4 : List (List UInt8)) : Option AV :=
  bif ((decide ((0 : Int) ≤ (IntKind.wrap .i64 (((List.length out4 : Nat) : Int) - (1 : Int))))) && (decide ((IntKind.wrap .i64 (((List.length out4 : Nat) : Int) - (1 : Int))) < (List.length out4 : Nat)))) then
    bif (((List.length (List.getD out4 (Int.toNat (IntKind.wrap .i64 (((List.length out4 : Nat) : Int) - (1 : Int)))) ([] : List UInt8)) : Nat) : Int) == (0 : Int)) then
      bif (((decide ((0 : Int) ≤ ((0 : Nat) : Int))) && (decide (((0 : Nat) : Int) ≤ (IntKind.wrap .i64 (((List.length out4 : Nat) : Int) - (1 : Int)))))) && (decide ((IntKind.wrap .i64 (((List.length out4 : Nat) : Int) - (1 : Int))) ≤ ((List.length out4 : Nat) : Int)))) then
        ref18_Lines_ret (List.drop (Int.toNat ((0 : Nat) : Int)) (List.take (Int.toNat (IntKind.wrap .i64 (((List.length out4 : Nat) : Int) - (1 : Int)))) out4)) true
      else none
    else
      ref18_Lines_ret out4 false
  else none
def ref18_Lines_sh (n : Nat) (s0 : List UInt8) : Option AV :=
  ref18_Lines_l3 (ref18_Lines_k3_0 n) n s0 ([([] : List UInt8)] : List (List UInt8)) (0 : Int)

/-! sheave/sheaveref26.Split -/

def ref26_Split_ret (s2 : List (List UInt8)) : Option AV := some (.dat (.sl (.sl .byte)) s2 none)
def ref26_Split_sh (_n : Nat) (s0 : List UInt8) : Option AV :=
  bif ((ref18_Lines_ok s0) && true) then
    ref26_Split_ret ((ref18_Lines s0).1)
  else none

/-! sheave/sheaveref48.colon -/

def ref48_colon_ret (s2 : Int) : Option AV := some (.dat (.int .i64) s2 none)
def ref48_colon_l2_b (ret : Int → Option AV) (k0 : Option AV) (next : List UInt8 → Int → Option AV) (_n : Nat) (s0 : List UInt8) (i3 : Int) : Option AV :=
  bif (decide (i3 < ((List.length s0 : Nat) : Int))) then
    bif ((decide ((0 : Int) ≤ i3)) && (decide (i3 < (List.length s0 : Nat)))) then
      bif ((List.getD s0 (Int.toNat i3) (0 : UInt8)) == (58 : UInt8)) then
        ret i3
      else
        next s0 (IntKind.wrap .i64 (i3 + (1 : Int)))
    else none
  else
    k0
def ref48_colon_l2 (ret : Int → Option AV) (k0 : Option AV) : Nat → List UInt8 → Int → Option AV
  | 0 => fun _ _ => none
  | n + 1 => ref48_colon_l2_b ret k0 (ref48_colon_l2 ret k0 n) n
def ref48_colon_k2_0 (_n : Nat) : Option AV :=
  ref48_colon_ret (-1 : Int)
def ref48_colon_sh (n : Nat) (s0 : List UInt8) : Option AV :=
  ref48_colon_l2 ref48_colon_ret (ref48_colon_k2_0 n) n s0 (0 : Int)

/-! sheave/sheaveref48.name -/

def ref48_name_ret (s2 : Bool) : Option AV := some (.dat .bool s2 none)
def ref48_name_sh (_n : Nat) (s0 : List UInt8) : Option AV :=
  bif (decide ((0 : Int) < ((List.length s0 : Nat) : Int))) then
    bif ((ref01_Count_ok s0 (4 : Int)) && true) then
      bif ((ref01_Count s0 (4 : Int)) == ((List.length s0 : Nat) : Int)) then
        bif ((ref48_colon_ok s0) && true) then
          ref48_name_ret (decide ((ref48_colon s0) < (0 : Int)))
        else none
      else
        ref48_name_ret false
    else none
  else
    ref48_name_ret false

/-! sheave/sheaveref48.One -/

def ref48_One_ret (s2 : (List UInt8) × ((List UInt8) × Unit)) (s3 : Int) : Option AV := some (.tup [(.dat (.pair (.sl .byte) (.pair (.sl .byte) .unit)) s2 none), (.dat (.int .i64) s3 none)])
def ref48_One_sh (_n : Nat) (raw0 : List UInt8) : Option AV :=
  bif ((ref48_colon_ok raw0) && true) then
    bif (decide ((ref48_colon raw0) < (1 : Int))) then
      ref48_One_ret (([] : List UInt8), (([] : List UInt8), ())) (3 : Int)
    else
      bif ((decide ((0 : Int) ≤ (0 : Int))) && (decide ((0 : Int) < (List.length raw0 : Nat)))) then
        bif (ref01_Is (List.getD raw0 (Int.toNat (0 : Int)) (0 : UInt8)) (2 : Int)) then
          ref48_One_ret (([] : List UInt8), (([] : List UInt8), ())) (3 : Int)
        else
          bif (((decide ((0 : Int) ≤ ((0 : Nat) : Int))) && (decide (((0 : Nat) : Int) ≤ (ref48_colon raw0)))) && (decide ((ref48_colon raw0) ≤ ((List.length raw0 : Nat) : Int)))) then
            bif ((ref01_Trim_ok (List.drop (Int.toNat ((0 : Nat) : Int)) (List.take (Int.toNat (ref48_colon raw0)) raw0))) && true) then
              bif ((ref48_name_ok (ref01_Trim (List.drop (Int.toNat ((0 : Nat) : Int)) (List.take (Int.toNat (ref48_colon raw0)) raw0)))) && true) then
                bif (!(ref48_name (ref01_Trim (List.drop (Int.toNat ((0 : Nat) : Int)) (List.take (Int.toNat (ref48_colon raw0)) raw0))))) then
                  ref48_One_ret (([] : List UInt8), (([] : List UInt8), ())) (3 : Int)
                else
                  bif (((decide ((0 : Int) ≤ (IntKind.wrap .i64 ((ref48_colon raw0) + (1 : Int))))) && (decide ((IntKind.wrap .i64 ((ref48_colon raw0) + (1 : Int))) ≤ ((List.length raw0 : Nat) : Int)))) && (decide (((List.length raw0 : Nat) : Int) ≤ ((List.length raw0 : Nat) : Int)))) then
                    bif ((ref27_Unfold_ok (List.drop (Int.toNat (IntKind.wrap .i64 ((ref48_colon raw0) + (1 : Int)))) (List.take (Int.toNat ((List.length raw0 : Nat) : Int)) raw0))) && true) then
                      bif ((ref01_Trim_ok ((ref27_Unfold (List.drop (Int.toNat (IntKind.wrap .i64 ((ref48_colon raw0) + (1 : Int)))) (List.take (Int.toNat ((List.length raw0 : Nat) : Int)) raw0))).1)) && true) then
                        ref48_One_ret ((ref01_Trim (List.drop (Int.toNat ((0 : Nat) : Int)) (List.take (Int.toNat (ref48_colon raw0)) raw0))), ((ref01_Trim ((ref27_Unfold (List.drop (Int.toNat (IntKind.wrap .i64 ((ref48_colon raw0) + (1 : Int)))) (List.take (Int.toNat ((List.length raw0 : Nat) : Int)) raw0))).1)), ())) (0 : Int)
                      else none
                    else none
                  else none
              else none
            else none
          else none
      else none
  else none

/-! sheave/sheaveref48.Raw -/

def ref48_Raw_ret (s2 : List (List UInt8)) (s3 : List UInt8) : Option AV := some (.tup [(.dat (.sl (.sl .byte)) s2 none), (.dat (.sl .byte) s3 none)])
def ref48_Raw_l5_b (ret : List (List UInt8) → List UInt8 → Option AV) (k0 : List (List UInt8) → Option AV) (next : List UInt8 → List (List UInt8) → List (List UInt8) → Int → Int → Option AV) (_n : Nat) (s0 : List UInt8) (out4 : List (List UInt8)) (l5 : List (List UInt8)) (at6 : Int) (i7 : Int) : Option AV :=
  bif (decide (i7 < ((List.length l5 : Nat) : Int))) then
    bif ((decide ((0 : Int) ≤ i7)) && (decide (i7 < (List.length l5 : Nat)))) then
      bif ((decide ((0 : Int) ≤ i7)) && (decide (i7 < (List.length l5 : Nat)))) then
        bif (((List.length (List.getD l5 (Int.toNat i7) ([] : List UInt8)) : Nat) : Int) == (0 : Int)) then
          bif (((decide ((0 : Int) ≤ (IntKind.wrap .i64 (at6 + (IntKind.wrap .i64 (((List.length (List.getD l5 (Int.toNat i7) ([] : List UInt8)) : Nat) : Int) + (2 : Int))))))) && (decide ((IntKind.wrap .i64 (at6 + (IntKind.wrap .i64 (((List.length (List.getD l5 (Int.toNat i7) ([] : List UInt8)) : Nat) : Int) + (2 : Int))))) ≤ ((List.length s0 : Nat) : Int)))) && (decide (((List.length s0 : Nat) : Int) ≤ ((List.length s0 : Nat) : Int)))) then
            ret out4 (List.drop (Int.toNat (IntKind.wrap .i64 (at6 + (IntKind.wrap .i64 (((List.length (List.getD l5 (Int.toNat i7) ([] : List UInt8)) : Nat) : Int) + (2 : Int)))))) (List.take (Int.toNat ((List.length s0 : Nat) : Int)) s0))
          else none
        else
          bif ((decide ((0 : Int) ≤ i7)) && (decide (i7 < (List.length l5 : Nat)))) then
            bif ((decide ((0 : Int) ≤ (0 : Int))) && (decide ((0 : Int) < (List.length (List.getD l5 (Int.toNat i7) ([] : List UInt8)) : Nat)))) then
              bif (ref01_Is (List.getD (List.getD l5 (Int.toNat i7) ([] : List UInt8)) (Int.toNat (0 : Int)) (0 : UInt8)) (2 : Int)) then
                bif (decide ((0 : Int) ≤ (IntKind.wrap .i64 (((List.length out4 : Nat) : Int) - (1 : Int))))) then
                  bif ((decide ((0 : Int) ≤ (IntKind.wrap .i64 (((List.length out4 : Nat) : Int) - (1 : Int))))) && (decide ((IntKind.wrap .i64 (((List.length out4 : Nat) : Int) - (1 : Int))) < (List.length out4 : Nat)))) then
                    bif ((decide ((0 : Int) ≤ i7)) && (decide (i7 < (List.length l5 : Nat)))) then
                      both (
                      bif (decide (List.length ([] : List UInt8) + List.length (List.getD out4 (Int.toNat (IntKind.wrap .i64 (((List.length out4 : Nat) : Int) - (1 : Int)))) ([] : List UInt8)) ≤ room)) then
                        bif (decide (List.length (([] : List UInt8) ++ (List.getD out4 (Int.toNat (IntKind.wrap .i64 (((List.length out4 : Nat) : Int) - (1 : Int)))) ([] : List UInt8))) + List.length ([(13 : UInt8), (10 : UInt8)] : List UInt8) ≤ room)) then
                          bif (decide (List.length ((([] : List UInt8) ++ (List.getD out4 (Int.toNat (IntKind.wrap .i64 (((List.length out4 : Nat) : Int) - (1 : Int)))) ([] : List UInt8))) ++ ([(13 : UInt8), (10 : UInt8)] : List UInt8)) + List.length (List.getD l5 (Int.toNat i7) ([] : List UInt8)) ≤ room)) then
                            bif ((decide ((0 : Int) ≤ (IntKind.wrap .i64 (((List.length out4 : Nat) : Int) - (1 : Int))))) && (decide ((IntKind.wrap .i64 (((List.length out4 : Nat) : Int) - (1 : Int))) < (List.length out4 : Nat)))) then
                              next s0 (List.set out4 (Int.toNat (IntKind.wrap .i64 (((List.length out4 : Nat) : Int) - (1 : Int)))) (((([] : List UInt8) ++ (List.getD out4 (Int.toNat (IntKind.wrap .i64 (((List.length out4 : Nat) : Int) - (1 : Int)))) ([] : List UInt8))) ++ ([(13 : UInt8), (10 : UInt8)] : List UInt8)) ++ (List.getD l5 (Int.toNat i7) ([] : List UInt8)))) l5 (IntKind.wrap .i64 (at6 + (IntKind.wrap .i64 (((List.length (List.getD l5 (Int.toNat i7) ([] : List UInt8)) : Nat) : Int) + (2 : Int))))) (IntKind.wrap .i64 (i7 + (1 : Int)))
                            else none
                          else none
                        else none
                      else none) (
                      bif (decide (List.length ([] : List UInt8) + List.length (List.getD out4 (Int.toNat (IntKind.wrap .i64 (((List.length out4 : Nat) : Int) - (1 : Int)))) ([] : List UInt8)) ≤ room)) then
                        bif (decide (List.length (([] : List UInt8) ++ (List.getD out4 (Int.toNat (IntKind.wrap .i64 (((List.length out4 : Nat) : Int) - (1 : Int)))) ([] : List UInt8))) + List.length ([(13 : UInt8), (10 : UInt8)] : List UInt8) ≤ room)) then
                          bif (decide (List.length ((([] : List UInt8) ++ (List.getD out4 (Int.toNat (IntKind.wrap .i64 (((List.length out4 : Nat) : Int) - (1 : Int)))) ([] : List UInt8))) ++ ([(13 : UInt8), (10 : UInt8)] : List UInt8)) + List.length (List.getD l5 (Int.toNat i7) ([] : List UInt8)) ≤ room)) then
                            bif ((decide ((0 : Int) ≤ (IntKind.wrap .i64 (((List.length out4 : Nat) : Int) - (1 : Int))))) && (decide ((IntKind.wrap .i64 (((List.length out4 : Nat) : Int) - (1 : Int))) < (List.length out4 : Nat)))) then
                              next s0 (List.set out4 (Int.toNat (IntKind.wrap .i64 (((List.length out4 : Nat) : Int) - (1 : Int)))) (((([] : List UInt8) ++ (List.getD out4 (Int.toNat (IntKind.wrap .i64 (((List.length out4 : Nat) : Int) - (1 : Int)))) ([] : List UInt8))) ++ ([(13 : UInt8), (10 : UInt8)] : List UInt8)) ++ (List.getD l5 (Int.toNat i7) ([] : List UInt8)))) l5 (IntKind.wrap .i64 (at6 + (IntKind.wrap .i64 (((List.length (List.getD l5 (Int.toNat i7) ([] : List UInt8)) : Nat) : Int) + (2 : Int))))) (IntKind.wrap .i64 (i7 + (1 : Int)))
                            else none
                          else none
                        else none
                      else none)
                    else none
                  else none
                else
                  bif ((decide ((0 : Int) ≤ i7)) && (decide (i7 < (List.length l5 : Nat)))) then
                    bif (decide (List.length out4 + List.length ([(List.getD l5 (Int.toNat i7) ([] : List UInt8))] : List (List UInt8)) ≤ room)) then
                      next s0 (out4 ++ ([(List.getD l5 (Int.toNat i7) ([] : List UInt8))] : List (List UInt8))) l5 (IntKind.wrap .i64 (at6 + (IntKind.wrap .i64 (((List.length (List.getD l5 (Int.toNat i7) ([] : List UInt8)) : Nat) : Int) + (2 : Int))))) (IntKind.wrap .i64 (i7 + (1 : Int)))
                    else none
                  else none
              else
                bif ((decide ((0 : Int) ≤ i7)) && (decide (i7 < (List.length l5 : Nat)))) then
                  bif (decide (List.length out4 + List.length ([(List.getD l5 (Int.toNat i7) ([] : List UInt8))] : List (List UInt8)) ≤ room)) then
                    next s0 (out4 ++ ([(List.getD l5 (Int.toNat i7) ([] : List UInt8))] : List (List UInt8))) l5 (IntKind.wrap .i64 (at6 + (IntKind.wrap .i64 (((List.length (List.getD l5 (Int.toNat i7) ([] : List UInt8)) : Nat) : Int) + (2 : Int))))) (IntKind.wrap .i64 (i7 + (1 : Int)))
                  else none
                else none
            else none
          else none
      else none
    else none
  else
    k0 out4
def ref48_Raw_l5 (ret : List (List UInt8) → List UInt8 → Option AV) (k0 : List (List UInt8) → Option AV) : Nat → List UInt8 → List (List UInt8) → List (List UInt8) → Int → Int → Option AV
  | 0 => fun _ _ _ _ _ => none
  | n + 1 => ref48_Raw_l5_b ret k0 (ref48_Raw_l5 ret k0 n) n
def ref48_Raw_k5_0 (_n : Nat) (out4 : List (List UInt8)) : Option AV :=
  ref48_Raw_ret out4 ([] : List UInt8)
def ref48_Raw_sh (n : Nat) (s0 : List UInt8) : Option AV :=
  bif ((ref26_Split_ok s0) && true) then
    ref48_Raw_l5 ref48_Raw_ret (ref48_Raw_k5_0 n) n s0 ([] : List (List UInt8)) (ref26_Split s0) (0 : Int) (0 : Int)
  else none

/-! sheave/sheaveref48.Read -/

def ref48_Read_ret (s2 : List ((List UInt8) × ((List UInt8) × Unit))) (s3 : Int) : Option AV := some (.tup [(.dat (.sl (.pair (.sl .byte) (.pair (.sl .byte) .unit))) s2 none), (.dat (.int .i64) s3 none)])
def ref48_Read_l5_b (k0 : List ((List UInt8) × ((List UInt8) × Unit)) → Int → Option AV) (next : List ((List UInt8) × ((List UInt8) × Unit)) → Int → List (List UInt8) → Int → Option AV) (_n : Nat) (out4 : List ((List UInt8) × ((List UInt8) × Unit))) (bad5 : Int) (l6 : List (List UInt8)) (i8 : Int) : Option AV :=
  bif (decide (i8 < ((List.length l6 : Nat) : Int))) then
    bif ((decide ((0 : Int) ≤ i8)) && (decide (i8 < (List.length l6 : Nat)))) then
      bif ((ref48_One_ok (List.getD l6 (Int.toNat i8) ([] : List UInt8))) && true) then
        bif (((ref48_One (List.getD l6 (Int.toNat i8) ([] : List UInt8))).2) == (0 : Int)) then
          bif (decide (List.length out4 + List.length ([((ref48_One (List.getD l6 (Int.toNat i8) ([] : List UInt8))).1)] : List ((List UInt8) × ((List UInt8) × Unit))) ≤ room)) then
            next (out4 ++ ([((ref48_One (List.getD l6 (Int.toNat i8) ([] : List UInt8))).1)] : List ((List UInt8) × ((List UInt8) × Unit)))) bad5 l6 (IntKind.wrap .i64 (i8 + (1 : Int)))
          else none
        else
          next out4 (IntKind.wrap .i64 (bad5 + (1 : Int))) l6 (IntKind.wrap .i64 (i8 + (1 : Int)))
      else none
    else none
  else
    k0 out4 bad5
def ref48_Read_l5 (k0 : List ((List UInt8) × ((List UInt8) × Unit)) → Int → Option AV) : Nat → List ((List UInt8) × ((List UInt8) × Unit)) → Int → List (List UInt8) → Int → Option AV
  | 0 => fun _ _ _ _ => none
  | n + 1 => ref48_Read_l5_b k0 (ref48_Read_l5 k0 n) n
def ref48_Read_k5_0 (_n : Nat) (out4 : List ((List UInt8) × ((List UInt8) × Unit))) (bad5 : Int) : Option AV :=
  ref48_Read_ret out4 bad5
def ref48_Read_sh (n : Nat) (s0 : List UInt8) : Option AV :=
  bif ((ref48_Raw_ok s0) && true) then
    ref48_Read_l5 (ref48_Read_k5_0 n) n ([] : List ((List UInt8) × ((List UInt8) × Unit))) (0 : Int) ((ref48_Raw s0).1) (0 : Int)
  else none

/-! sheave/sheavelaw48.same -/

def law48_same_ret (s4 : Bool) : Option AV := some (.dat .bool s4 none)
def law48_same_l4_b (ret : Bool → Option AV) (k0 : Option AV) (next : List ((List UInt8) × ((List UInt8) × Unit)) → List ((List UInt8) × ((List UInt8) × Unit)) → Int → Int → Option AV) (_n : Nat) (a0 : List ((List UInt8) × ((List UInt8) × Unit))) (b1 : List ((List UInt8) × ((List UInt8) × Unit))) (s12 : Int) (s13 : Int) : Option AV :=
  bif (decide (s13 < s12)) then
    bif ((decide ((0 : Int) ≤ s13)) && (decide (s13 < (List.length a0 : Nat)))) then
      bif ((decide ((0 : Int) ≤ s13)) && (decide (s13 < (List.length b1 : Nat)))) then
        bif ((ref01_Like_ok (List.getD a0 (Int.toNat s13) (([] : List UInt8), (([] : List UInt8), ()))).1 (List.getD b1 (Int.toNat s13) (([] : List UInt8), (([] : List UInt8), ()))).1) && true) then
          bif (!(ref01_Like (List.getD a0 (Int.toNat s13) (([] : List UInt8), (([] : List UInt8), ()))).1 (List.getD b1 (Int.toNat s13) (([] : List UInt8), (([] : List UInt8), ()))).1)) then
            ret false
          else
            bif ((decide ((0 : Int) ≤ s13)) && (decide (s13 < (List.length a0 : Nat)))) then
              bif ((decide ((0 : Int) ≤ s13)) && (decide (s13 < (List.length b1 : Nat)))) then
                bif ((ref01_Like_ok (List.getD a0 (Int.toNat s13) (([] : List UInt8), (([] : List UInt8), ()))).2.1 (List.getD b1 (Int.toNat s13) (([] : List UInt8), (([] : List UInt8), ()))).2.1) && true) then
                  bif (!(ref01_Like (List.getD a0 (Int.toNat s13) (([] : List UInt8), (([] : List UInt8), ()))).2.1 (List.getD b1 (Int.toNat s13) (([] : List UInt8), (([] : List UInt8), ()))).2.1)) then
                    ret false
                  else
                    next a0 b1 s12 (IntKind.wrap .i64 (s13 + (1 : Int)))
                else none
              else none
            else none
        else none
      else none
    else none
  else
    k0
def law48_same_l4 (ret : Bool → Option AV) (k0 : Option AV) : Nat → List ((List UInt8) × ((List UInt8) × Unit)) → List ((List UInt8) × ((List UInt8) × Unit)) → Int → Int → Option AV
  | 0 => fun _ _ _ _ => none
  | n + 1 => law48_same_l4_b ret k0 (law48_same_l4 ret k0 n) n
def law48_same_k4_0 (_n : Nat) : Option AV :=
  law48_same_ret true
def law48_same_sh (n : Nat) (a0 : List ((List UInt8) × ((List UInt8) × Unit))) (b1 : List ((List UInt8) × ((List UInt8) × Unit))) : Option AV :=
  bif (((List.length a0 : Nat) : Int) != ((List.length b1 : Nat) : Int)) then
    law48_same_ret false
  else
    law48_same_l4 law48_same_ret (law48_same_k4_0 n) n a0 b1 ((List.length a0 : Nat) : Int) (0 : Int)

/-! sheave/sheavelaw48.far -/

def law48_far_ret (s2 : Bool) : Option AV := some (.dat .bool s2 none)
def law48_far_l2_b (ret : Bool → Option AV) (k0 : List ((List UInt8) × ((List UInt8) × Unit)) → Option AV) (next : List ((List UInt8) × ((List UInt8) × Unit)) → List ((List UInt8) × ((List UInt8) × Unit)) → Int → Int → Option AV) (_n : Nat) (l0 : List ((List UInt8) × ((List UInt8) × Unit))) (s9 : List ((List UInt8) × ((List UInt8) × Unit))) (s10 : Int) (s11 : Int) : Option AV :=
  bif (decide (s11 < s10)) then
    bif ((decide ((0 : Int) ≤ s11)) && (decide (s11 < (List.length s9 : Nat)))) then
      bif (decide ((100 : Int) < ((List.length (List.getD s9 (Int.toNat s11) (([] : List UInt8), (([] : List UInt8), ()))).1 : Nat) : Int))) then
        ret true
      else
        bif (decide ((200 : Int) < ((List.length (List.getD s9 (Int.toNat s11) (([] : List UInt8), (([] : List UInt8), ()))).2.1 : Nat) : Int))) then
          ret true
        else
          next l0 s9 s10 (IntKind.wrap .i64 (s11 + (1 : Int)))
    else none
  else
    k0 l0
def law48_far_l2 (ret : Bool → Option AV) (k0 : List ((List UInt8) × ((List UInt8) × Unit)) → Option AV) : Nat → List ((List UInt8) × ((List UInt8) × Unit)) → List ((List UInt8) × ((List UInt8) × Unit)) → Int → Int → Option AV
  | 0 => fun _ _ _ _ => none
  | n + 1 => law48_far_l2_b ret k0 (law48_far_l2 ret k0 n) n
def law48_far_k2_0 (_n : Nat) (l0 : List ((List UInt8) × ((List UInt8) × Unit))) : Option AV :=
  law48_far_ret (decide ((20 : Int) < ((List.length l0 : Nat) : Int)))
def law48_far_sh (n : Nat) (l0 : List ((List UInt8) × ((List UInt8) × Unit))) : Option AV :=
  bif (((decide ((0 : Int) ≤ ((0 : Nat) : Int))) && (decide (((0 : Nat) : Int) ≤ (bif (decide ((20 : Int) < ((List.length l0 : Nat) : Int))) then (20 : Int) else ((List.length l0 : Nat) : Int))))) && (decide ((bif (decide ((20 : Int) < ((List.length l0 : Nat) : Int))) then (20 : Int) else ((List.length l0 : Nat) : Int)) ≤ ((List.length l0 : Nat) : Int)))) then
    law48_far_l2 law48_far_ret (law48_far_k2_0 n) n l0 (List.drop (Int.toNat ((0 : Nat) : Int)) (List.take (Int.toNat (bif (decide ((20 : Int) < ((List.length l0 : Nat) : Int))) then (20 : Int) else ((List.length l0 : Nat) : Int))) l0)) ((List.length (List.drop (Int.toNat ((0 : Nat) : Int)) (List.take (Int.toNat (bif (decide ((20 : Int) < ((List.length l0 : Nat) : Int))) then (20 : Int) else ((List.length l0 : Nat) : Int))) l0)) : Nat) : Int) (0 : Int)
  else none

/-! sheave/sheavelaw48.alive -/

def law48_alive_ret (s0 : Bool) : Option AV := some (.dat .bool s0 none)
def law48_alive_sh (_n : Nat) : Option AV :=
  bif ((field_Read_ok ([(65 : UInt8), (58 : UInt8), (32 : UInt8), (98 : UInt8), (13 : UInt8), (10 : UInt8), (32 : UInt8), (99 : UInt8), (13 : UInt8), (10 : UInt8), (120 : UInt8), (13 : UInt8), (10 : UInt8), (13 : UInt8), (10 : UInt8), (100 : UInt8)] : List UInt8)) && true) then
    bif ((field_Find_ok ((field_Read ([(65 : UInt8), (58 : UInt8), (32 : UInt8), (98 : UInt8), (13 : UInt8), (10 : UInt8), (32 : UInt8), (99 : UInt8), (13 : UInt8), (10 : UInt8), (120 : UInt8), (13 : UInt8), (10 : UInt8), (13 : UInt8), (10 : UInt8), (100 : UInt8)] : List UInt8)).1) ([(97 : UInt8)] : List UInt8)) && true) then
      bif (((List.length ((field_Read ([(65 : UInt8), (58 : UInt8), (32 : UInt8), (98 : UInt8), (13 : UInt8), (10 : UInt8), (32 : UInt8), (99 : UInt8), (13 : UInt8), (10 : UInt8), (120 : UInt8), (13 : UInt8), (10 : UInt8), (13 : UInt8), (10 : UInt8), (100 : UInt8)] : List UInt8)).1) : Nat) : Int) == (1 : Int)) then
        bif (((field_Read ([(65 : UInt8), (58 : UInt8), (32 : UInt8), (98 : UInt8), (13 : UInt8), (10 : UInt8), (32 : UInt8), (99 : UInt8), (13 : UInt8), (10 : UInt8), (120 : UInt8), (13 : UInt8), (10 : UInt8), (13 : UInt8), (10 : UInt8), (100 : UInt8)] : List UInt8)).2) == (1 : Int)) then
          bif (((field_Find ((field_Read ([(65 : UInt8), (58 : UInt8), (32 : UInt8), (98 : UInt8), (13 : UInt8), (10 : UInt8), (32 : UInt8), (99 : UInt8), (13 : UInt8), (10 : UInt8), (120 : UInt8), (13 : UInt8), (10 : UInt8), (13 : UInt8), (10 : UInt8), (100 : UInt8)] : List UInt8)).1) ([(97 : UInt8)] : List UInt8)).1) == ([98, 32, 99] : List UInt8)) then
            bif (((field_Find ((field_Read ([(65 : UInt8), (58 : UInt8), (32 : UInt8), (98 : UInt8), (13 : UInt8), (10 : UInt8), (32 : UInt8), (99 : UInt8), (13 : UInt8), (10 : UInt8), (120 : UInt8), (13 : UInt8), (10 : UInt8), (13 : UInt8), (10 : UInt8), (100 : UInt8)] : List UInt8)).1) ([(97 : UInt8)] : List UInt8)).2) == (1 : Int)) then
              bif ((field_Body_ok ([(65 : UInt8), (58 : UInt8), (32 : UInt8), (98 : UInt8), (13 : UInt8), (10 : UInt8), (32 : UInt8), (99 : UInt8), (13 : UInt8), (10 : UInt8), (120 : UInt8), (13 : UInt8), (10 : UInt8), (13 : UInt8), (10 : UInt8), (100 : UInt8)] : List UInt8)) && true) then
                bif ((field_Body ([(65 : UInt8), (58 : UInt8), (32 : UInt8), (98 : UInt8), (13 : UInt8), (10 : UInt8), (32 : UInt8), (99 : UInt8), (13 : UInt8), (10 : UInt8), (120 : UInt8), (13 : UInt8), (10 : UInt8), (13 : UInt8), (10 : UInt8), (100 : UInt8)] : List UInt8)) == ([100] : List UInt8)) then
                  bif ((field_Raw_ok ([(65 : UInt8), (58 : UInt8), (32 : UInt8), (98 : UInt8), (13 : UInt8), (10 : UInt8), (32 : UInt8), (99 : UInt8), (13 : UInt8), (10 : UInt8), (120 : UInt8), (13 : UInt8), (10 : UInt8), (13 : UInt8), (10 : UInt8), (100 : UInt8)] : List UInt8)) && true) then
                    law48_alive_ret (((List.length (field_Raw ([(65 : UInt8), (58 : UInt8), (32 : UInt8), (98 : UInt8), (13 : UInt8), (10 : UInt8), (32 : UInt8), (99 : UInt8), (13 : UInt8), (10 : UInt8), (120 : UInt8), (13 : UInt8), (10 : UInt8), (13 : UInt8), (10 : UInt8), (100 : UInt8)] : List UInt8)) : Nat) : Int) == (2 : Int))
                  else none
                else
                  law48_alive_ret false
              else none
            else
              law48_alive_ret false
          else
            law48_alive_ret false
        else
          law48_alive_ret false
      else
        law48_alive_ret false
    else none
  else none

/-! sheave/sheavelaw48.FieldReads -/

def law48_FieldReads_ret (s2 : Bool) : Option AV := some (.dat .bool s2 none)
def law48_FieldReads_l10_b (ret : Bool → Option AV) (k0 : Option AV) (next : List (List UInt8) → List (List UInt8) → Int → Int → Option AV) (_n : Nat) (raw7 : List (List UInt8)) (x9 : List (List UInt8)) (s60 : Int) (s61 : Int) : Option AV :=
  bif (decide (s61 < s60)) then
    bif ((decide ((0 : Int) ≤ s61)) && (decide (s61 < (List.length x9 : Nat)))) then
      bif ((field_One_ok (List.getD x9 (Int.toNat s61) ([] : List UInt8))) && true) then
        bif ((decide ((0 : Int) ≤ s61)) && (decide (s61 < (List.length raw7 : Nat)))) then
          bif ((ref48_One_ok (List.getD raw7 (Int.toNat s61) ([] : List UInt8))) && true) then
            bif ((decide ((0 : Int) ≤ s61)) && (decide (s61 < (List.length x9 : Nat)))) then
              bif ((decide ((0 : Int) ≤ s61)) && (decide (s61 < (List.length raw7 : Nat)))) then
                bif ((ref01_Like_ok (List.getD x9 (Int.toNat s61) ([] : List UInt8)) (List.getD raw7 (Int.toNat s61) ([] : List UInt8))) && true) then
                  bif (!(ref01_Like (List.getD x9 (Int.toNat s61) ([] : List UInt8)) (List.getD raw7 (Int.toNat s61) ([] : List UInt8)))) then
                    both (
                    ret false) (
                    ret false)
                  else
                    both (
                    both (
                    bif ((law48_same_ok ([((field_One (List.getD x9 (Int.toNat s61) ([] : List UInt8))).1)] : List ((List UInt8) × ((List UInt8) × Unit))) ([((ref48_One (List.getD raw7 (Int.toNat s61) ([] : List UInt8))).1)] : List ((List UInt8) × ((List UInt8) × Unit)))) && true) then
                      bif (!(law48_same ([((field_One (List.getD x9 (Int.toNat s61) ([] : List UInt8))).1)] : List ((List UInt8) × ((List UInt8) × Unit))) ([((ref48_One (List.getD raw7 (Int.toNat s61) ([] : List UInt8))).1)] : List ((List UInt8) × ((List UInt8) × Unit))))) then
                        ret false
                      else
                        bif (((field_One (List.getD x9 (Int.toNat s61) ([] : List UInt8))).2) != ((ref48_One (List.getD raw7 (Int.toNat s61) ([] : List UInt8))).2)) then
                          ret false
                        else
                          next raw7 x9 s60 (IntKind.wrap .i64 (s61 + (1 : Int)))
                    else none) (
                    both (
                    bif ((law48_same_ok ([((field_One (List.getD x9 (Int.toNat s61) ([] : List UInt8))).1)] : List ((List UInt8) × ((List UInt8) × Unit))) ([((ref48_One (List.getD raw7 (Int.toNat s61) ([] : List UInt8))).1)] : List ((List UInt8) × ((List UInt8) × Unit)))) && true) then
                      bif (!(law48_same ([((field_One (List.getD x9 (Int.toNat s61) ([] : List UInt8))).1)] : List ((List UInt8) × ((List UInt8) × Unit))) ([((ref48_One (List.getD raw7 (Int.toNat s61) ([] : List UInt8))).1)] : List ((List UInt8) × ((List UInt8) × Unit))))) then
                        ret false
                      else
                        bif (((field_One (List.getD x9 (Int.toNat s61) ([] : List UInt8))).2) != ((ref48_One (List.getD raw7 (Int.toNat s61) ([] : List UInt8))).2)) then
                          ret false
                        else
                          next raw7 x9 s60 (IntKind.wrap .i64 (s61 + (1 : Int)))
                    else none) (
                    bif ((law48_same_ok ([((field_One (List.getD x9 (Int.toNat s61) ([] : List UInt8))).1)] : List ((List UInt8) × ((List UInt8) × Unit))) ([((ref48_One (List.getD raw7 (Int.toNat s61) ([] : List UInt8))).1)] : List ((List UInt8) × ((List UInt8) × Unit)))) && true) then
                      bif (!(law48_same ([((field_One (List.getD x9 (Int.toNat s61) ([] : List UInt8))).1)] : List ((List UInt8) × ((List UInt8) × Unit))) ([((ref48_One (List.getD raw7 (Int.toNat s61) ([] : List UInt8))).1)] : List ((List UInt8) × ((List UInt8) × Unit))))) then
                        ret false
                      else
                        bif (((field_One (List.getD x9 (Int.toNat s61) ([] : List UInt8))).2) != ((ref48_One (List.getD raw7 (Int.toNat s61) ([] : List UInt8))).2)) then
                          ret false
                        else
                          next raw7 x9 s60 (IntKind.wrap .i64 (s61 + (1 : Int)))
                    else none))) (
                    both (
                    both (
                    bif ((law48_same_ok ([((field_One (List.getD x9 (Int.toNat s61) ([] : List UInt8))).1)] : List ((List UInt8) × ((List UInt8) × Unit))) ([((ref48_One (List.getD raw7 (Int.toNat s61) ([] : List UInt8))).1)] : List ((List UInt8) × ((List UInt8) × Unit)))) && true) then
                      bif (!(law48_same ([((field_One (List.getD x9 (Int.toNat s61) ([] : List UInt8))).1)] : List ((List UInt8) × ((List UInt8) × Unit))) ([((ref48_One (List.getD raw7 (Int.toNat s61) ([] : List UInt8))).1)] : List ((List UInt8) × ((List UInt8) × Unit))))) then
                        ret false
                      else
                        bif (((field_One (List.getD x9 (Int.toNat s61) ([] : List UInt8))).2) != ((ref48_One (List.getD raw7 (Int.toNat s61) ([] : List UInt8))).2)) then
                          ret false
                        else
                          next raw7 x9 s60 (IntKind.wrap .i64 (s61 + (1 : Int)))
                    else none) (
                    bif ((law48_same_ok ([((field_One (List.getD x9 (Int.toNat s61) ([] : List UInt8))).1)] : List ((List UInt8) × ((List UInt8) × Unit))) ([((ref48_One (List.getD raw7 (Int.toNat s61) ([] : List UInt8))).1)] : List ((List UInt8) × ((List UInt8) × Unit)))) && true) then
                      bif (!(law48_same ([((field_One (List.getD x9 (Int.toNat s61) ([] : List UInt8))).1)] : List ((List UInt8) × ((List UInt8) × Unit))) ([((ref48_One (List.getD raw7 (Int.toNat s61) ([] : List UInt8))).1)] : List ((List UInt8) × ((List UInt8) × Unit))))) then
                        ret false
                      else
                        bif (((field_One (List.getD x9 (Int.toNat s61) ([] : List UInt8))).2) != ((ref48_One (List.getD raw7 (Int.toNat s61) ([] : List UInt8))).2)) then
                          ret false
                        else
                          next raw7 x9 s60 (IntKind.wrap .i64 (s61 + (1 : Int)))
                    else none)) (
                    bif ((law48_same_ok ([((field_One (List.getD x9 (Int.toNat s61) ([] : List UInt8))).1)] : List ((List UInt8) × ((List UInt8) × Unit))) ([((ref48_One (List.getD raw7 (Int.toNat s61) ([] : List UInt8))).1)] : List ((List UInt8) × ((List UInt8) × Unit)))) && true) then
                      bif (!(law48_same ([((field_One (List.getD x9 (Int.toNat s61) ([] : List UInt8))).1)] : List ((List UInt8) × ((List UInt8) × Unit))) ([((ref48_One (List.getD raw7 (Int.toNat s61) ([] : List UInt8))).1)] : List ((List UInt8) × ((List UInt8) × Unit))))) then
                        ret false
                      else
                        bif (((field_One (List.getD x9 (Int.toNat s61) ([] : List UInt8))).2) != ((ref48_One (List.getD raw7 (Int.toNat s61) ([] : List UInt8))).2)) then
                          ret false
                        else
                          next raw7 x9 s60 (IntKind.wrap .i64 (s61 + (1 : Int)))
                    else none))
                else none
              else none
            else none
          else none
        else none
      else none
    else none
  else
    k0
def law48_FieldReads_l10 (ret : Bool → Option AV) (k0 : Option AV) : Nat → List (List UInt8) → List (List UInt8) → Int → Int → Option AV
  | 0 => fun _ _ _ _ => none
  | n + 1 => law48_FieldReads_l10_b ret k0 (law48_FieldReads_l10 ret k0 n) n
def law48_FieldReads_k10_0 (_n : Nat) : Option AV :=
  law48_FieldReads_ret law48_alive
def law48_FieldReads_sh (n : Nat) (s0 : List UInt8) : Option AV :=
  bif (decide ((500 : Int) < ((List.length s0 : Nat) : Int))) then
    law48_FieldReads_ret law48_alive
  else
    bif ((field_Read_ok s0) && true) then
      bif ((ref48_Read_ok s0) && true) then
        bif ((ref48_Raw_ok s0) && true) then
          bif ((field_Raw_ok s0) && true) then
            bif ((law48_same_ok ((field_Read s0).1) ((ref48_Read s0).1)) && true) then
              bif (!(law48_same ((field_Read s0).1) ((ref48_Read s0).1))) then
                law48_FieldReads_ret false
              else
                bif (((field_Read s0).2) != ((ref48_Read s0).2)) then
                  law48_FieldReads_ret false
                else
                  bif ((field_Body_ok s0) && true) then
                    bif ((ref01_Like_ok (field_Body s0) ((ref48_Raw s0).2)) && true) then
                      bif (!(ref01_Like (field_Body s0) ((ref48_Raw s0).2))) then
                        law48_FieldReads_ret false
                      else
                        bif (((List.length (field_Raw s0) : Nat) : Int) != ((List.length ((ref48_Raw s0).1) : Nat) : Int)) then
                          law48_FieldReads_ret false
                        else
                          law48_FieldReads_l10 law48_FieldReads_ret (law48_FieldReads_k10_0 n) n ((ref48_Raw s0).1) (field_Raw s0) ((List.length (field_Raw s0) : Nat) : Int) (0 : Int)
                    else none
                  else none
            else none
          else none
        else none
      else none
    else none

/-! sheave/sheavelaw48.FieldOne -/

def law48_FieldOne_ret (s2 : Bool) : Option AV := some (.dat .bool s2 none)
def law48_FieldOne_sh (_n : Nat) (raw0 : List UInt8) : Option AV :=
  bif (decide ((500 : Int) < ((List.length raw0 : Nat) : Int))) then
    law48_FieldOne_ret law48_alive
  else
    bif ((field_One_ok raw0) && true) then
      bif ((ref48_One_ok raw0) && true) then
        bif ((law48_same_ok ([((field_One raw0).1)] : List ((List UInt8) × ((List UInt8) × Unit))) ([((ref48_One raw0).1)] : List ((List UInt8) × ((List UInt8) × Unit)))) && true) then
          bif (law48_same ([((field_One raw0).1)] : List ((List UInt8) × ((List UInt8) × Unit))) ([((ref48_One raw0).1)] : List ((List UInt8) × ((List UInt8) × Unit)))) then
            bif (((field_One raw0).2) == ((ref48_One raw0).2)) then
              law48_FieldOne_ret law48_alive
            else
              law48_FieldOne_ret false
          else
            law48_FieldOne_ret false
        else none
      else none
    else none

/-! sheave/sheavelaw48.FieldBack -/

def law48_FieldBack_ret (s4 : Bool) : Option AV := some (.dat .bool s4 none)
def law48_FieldBack_l5_b (k0 : List ((List UInt8) × ((List UInt8) × Unit)) → List UInt8 → List ((List UInt8) × ((List UInt8) × Unit)) → Option AV) (next : List ((List UInt8) × ((List UInt8) × Unit)) → List UInt8 → List ((List UInt8) × ((List UInt8) × Unit)) → List ((List UInt8) × ((List UInt8) × Unit)) → Int → Int → Option AV) (_n : Nat) (l0 : List ((List UInt8) × ((List UInt8) × Unit))) (behind1 : List UInt8) (x5 : List ((List UInt8) × ((List UInt8) × Unit))) (s21 : List ((List UInt8) × ((List UInt8) × Unit))) (s22 : Int) (s23 : Int) : Option AV :=
  bif (decide (s23 < s22)) then
    bif ((decide ((0 : Int) ≤ s23)) && (decide (s23 < (List.length s21 : Nat)))) then
      bif (decide (List.length x5 + List.length ([(List.getD s21 (Int.toNat s23) (([] : List UInt8), (([] : List UInt8), ())))] : List ((List UInt8) × ((List UInt8) × Unit))) ≤ room)) then
        next l0 behind1 (x5 ++ ([(List.getD s21 (Int.toNat s23) (([] : List UInt8), (([] : List UInt8), ())))] : List ((List UInt8) × ((List UInt8) × Unit)))) s21 s22 (IntKind.wrap .i64 (s23 + (1 : Int)))
      else none
    else none
  else
    k0 l0 behind1 x5
def law48_FieldBack_l5 (k0 : List ((List UInt8) × ((List UInt8) × Unit)) → List UInt8 → List ((List UInt8) × ((List UInt8) × Unit)) → Option AV) : Nat → List ((List UInt8) × ((List UInt8) × Unit)) → List UInt8 → List ((List UInt8) × ((List UInt8) × Unit)) → List ((List UInt8) × ((List UInt8) × Unit)) → Int → Int → Option AV
  | 0 => fun _ _ _ _ _ _ => none
  | n + 1 => law48_FieldBack_l5_b k0 (law48_FieldBack_l5 k0 n) n
def law48_FieldBack_k5_0 (_n : Nat) (l0 : List ((List UInt8) × ((List UInt8) × Unit))) (behind1 : List UInt8) (x5 : List ((List UInt8) × ((List UInt8) × Unit))) : Option AV :=
  bif ((field_Lay_ok x5) && true) then
    bif (((field_Lay x5).2) != (0 : Int)) then
      bif (((List.length ((field_Lay x5).1) : Nat) : Int) == (0 : Int)) then
        law48_FieldBack_ret law48_alive
      else
        law48_FieldBack_ret false
    else
      bif (decide (List.length ([] : List UInt8) + List.length ((field_Lay x5).1) ≤ room)) then
        bif (decide (List.length (([] : List UInt8) ++ ((field_Lay x5).1)) + List.length behind1 ≤ room)) then
          bif ((field_Read_ok ((([] : List UInt8) ++ ((field_Lay x5).1)) ++ behind1)) && true) then
            bif ((law48_same_ok ((field_Read ((([] : List UInt8) ++ ((field_Lay x5).1)) ++ behind1)).1) l0) && true) then
              bif (law48_same ((field_Read ((([] : List UInt8) ++ ((field_Lay x5).1)) ++ behind1)).1) l0) then
                bif (((field_Read ((([] : List UInt8) ++ ((field_Lay x5).1)) ++ behind1)).2) == (0 : Int)) then
                  bif ((field_Body_ok ((([] : List UInt8) ++ ((field_Lay x5).1)) ++ behind1)) && true) then
                    bif ((ref01_Like_ok (field_Body ((([] : List UInt8) ++ ((field_Lay x5).1)) ++ behind1)) behind1) && true) then
                      bif (ref01_Like (field_Body ((([] : List UInt8) ++ ((field_Lay x5).1)) ++ behind1)) behind1) then
                        law48_FieldBack_ret law48_alive
                      else
                        law48_FieldBack_ret false
                    else none
                  else none
                else
                  law48_FieldBack_ret false
              else
                law48_FieldBack_ret false
            else none
          else none
        else none
      else none
  else none
def law48_FieldBack_sh (n : Nat) (l0 : List ((List UInt8) × ((List UInt8) × Unit))) (behind1 : List UInt8) : Option AV :=
  bif ((law48_far_ok l0) && true) then
    bif (law48_far l0) then
      law48_FieldBack_ret law48_alive
    else
      bif (decide ((300 : Int) < ((List.length behind1 : Nat) : Int))) then
        law48_FieldBack_ret law48_alive
      else
        law48_FieldBack_l5 (law48_FieldBack_k5_0 n) n l0 behind1 ([] : List ((List UInt8) × ((List UInt8) × Unit))) l0 ((List.length l0 : Nat) : Int) (0 : Int)
  else none
end
end Go.Av
