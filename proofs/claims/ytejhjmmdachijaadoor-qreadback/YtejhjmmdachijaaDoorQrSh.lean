import Derived.Test.YtejhjmmdachijaaDoorQrM
import Derived.Test.YtejhjmmdachijaaDoorAvE
namespace Go.Av
set_option linter.unusedSimpArgs false
set_option linter.unusedVariables false
noncomputable section
def z18_ret (s4 : Bool) : Option AV := some (.dat .bool s4 none)
def z18_l4_b (ret : Bool → Option AV) (k0 : Option AV) (next : List UInt8 → List UInt8 → Int → Option AV) (_n : Nat) (a0 : List UInt8) (b1 : List UInt8) (i5 : Int) : Option AV :=
 bif (decide (i5 < ((List.length a0 : Nat) : Int))) then
 bif ((decide ((0 : Int) ≤ i5)) && (decide (i5 < (List.length a0 : Nat)))) then
 bif ((decide ((0 : Int) ≤ i5)) && (decide (i5 < (List.length b1 : Nat)))) then
 bif ((List.getD a0 (Int.toNat i5) (0 : UInt8)) != (List.getD b1 (Int.toNat i5) (0 : UInt8))) then
 ret false
 else
 next a0 b1 (IntKind.wrap .i64 (i5 + (1 : Int)))
 else none
 else none
 else
 k0
def z18_l4 (ret : Bool → Option AV) (k0 : Option AV) : Nat → List UInt8 → List UInt8 → Int → Option AV
 | 0 => fun _ _ _ => none
 | n + 1 => z18_l4_b ret k0 (z18_l4 ret k0 n) n
def z18_k4_0 (_n : Nat) : Option AV :=
 z18_ret true
def z18_sh (n : Nat) (a0 : List UInt8) (b1 : List UInt8) : Option AV :=
 bif (((List.length a0 : Nat) : Int) != ((List.length b1 : Nat) : Int)) then
 z18_ret false
 else
 z18_l4 z18_ret (z18_k4_0 n) n a0 b1 (0 : Int)
def z21_ret (s2 : List UInt8) : Option AV := some (.dat (.sl .byte) s2 (some (2, 5)))
def z21_l3_b (k0 : List UInt8 → Option AV) (next : List UInt8 → List UInt8 → Int → Option AV) (_n : Nat) (s0 : List UInt8) (out3 : List UInt8) (i4 : Int) : Option AV :=
 bif (decide (i4 < ((List.length s0 : Nat) : Int))) then
 bif ((decide ((0 : Int) ≤ i4)) && (decide (i4 < (List.length s0 : Nat)))) then
 bif ((List.getD s0 (Int.toNat i4) (0 : UInt8)) != (13 : UInt8)) then
 bif ((decide ((0 : Int) ≤ i4)) && (decide (i4 < (List.length s0 : Nat)))) then
 bif ((List.getD s0 (Int.toNat i4) (0 : UInt8)) != (10 : UInt8)) then
 bif ((decide ((0 : Int) ≤ i4)) && (decide (i4 < (List.length s0 : Nat)))) then
 bif (decide (List.length out3 + List.length ([(List.getD s0 (Int.toNat i4) (0 : UInt8))] : List UInt8) ≤ room)) then
 next s0 (out3 ++ ([(List.getD s0 (Int.toNat i4) (0 : UInt8))] : List UInt8)) (IntKind.wrap .i64 (i4 + (1 : Int)))
 else none
 else none
 else
 bif (decide (List.length out3 + List.length ([(13 : UInt8), (10 : UInt8)] : List UInt8) ≤ room)) then
 bif ((decide ((0 : Int) ≤ i4)) && (decide (i4 < (List.length s0 : Nat)))) then
 bif ((List.getD s0 (Int.toNat i4) (0 : UInt8)) == (13 : UInt8)) then
 bif (decide ((IntKind.wrap .i64 (i4 + (1 : Int))) < ((List.length s0 : Nat) : Int))) then
 bif ((decide ((0 : Int) ≤ (IntKind.wrap .i64 (i4 + (1 : Int))))) && (decide ((IntKind.wrap .i64 (i4 + (1 : Int))) < (List.length s0 : Nat)))) then
 bif ((List.getD s0 (Int.toNat (IntKind.wrap .i64 (i4 + (1 : Int)))) (0 : UInt8)) == (10 : UInt8)) then
 next s0 (out3 ++ ([(13 : UInt8), (10 : UInt8)] : List UInt8)) (IntKind.wrap .i64 ((IntKind.wrap .i64 (i4 + (1 : Int))) + (1 : Int)))
 else
 next s0 (out3 ++ ([(13 : UInt8), (10 : UInt8)] : List UInt8)) (IntKind.wrap .i64 (i4 + (1 : Int)))
 else none
 else
 next s0 (out3 ++ ([(13 : UInt8), (10 : UInt8)] : List UInt8)) (IntKind.wrap .i64 (i4 + (1 : Int)))
 else
 next s0 (out3 ++ ([(13 : UInt8), (10 : UInt8)] : List UInt8)) (IntKind.wrap .i64 (i4 + (1 : Int)))
 else none
 else none
 else none
 else
 bif (decide (List.length out3 + List.length ([(13 : UInt8), (10 : UInt8)] : List UInt8) ≤ room)) then
 bif ((decide ((0 : Int) ≤ i4)) && (decide (i4 < (List.length s0 : Nat)))) then
 bif ((List.getD s0 (Int.toNat i4) (0 : UInt8)) == (13 : UInt8)) then
 bif (decide ((IntKind.wrap .i64 (i4 + (1 : Int))) < ((List.length s0 : Nat) : Int))) then
 bif ((decide ((0 : Int) ≤ (IntKind.wrap .i64 (i4 + (1 : Int))))) && (decide ((IntKind.wrap .i64 (i4 + (1 : Int))) < (List.length s0 : Nat)))) then
 bif ((List.getD s0 (Int.toNat (IntKind.wrap .i64 (i4 + (1 : Int)))) (0 : UInt8)) == (10 : UInt8)) then
 next s0 (out3 ++ ([(13 : UInt8), (10 : UInt8)] : List UInt8)) (IntKind.wrap .i64 ((IntKind.wrap .i64 (i4 + (1 : Int))) + (1 : Int)))
 else
 next s0 (out3 ++ ([(13 : UInt8), (10 : UInt8)] : List UInt8)) (IntKind.wrap .i64 (i4 + (1 : Int)))
 else none
 else
 next s0 (out3 ++ ([(13 : UInt8), (10 : UInt8)] : List UInt8)) (IntKind.wrap .i64 (i4 + (1 : Int)))
 else
 next s0 (out3 ++ ([(13 : UInt8), (10 : UInt8)] : List UInt8)) (IntKind.wrap .i64 (i4 + (1 : Int)))
 else none
 else none
 else none
 else
 k0 out3
def z21_l3 (k0 : List UInt8 → Option AV) : Nat → List UInt8 → List UInt8 → Int → Option AV
 | 0 => fun _ _ _ => none
 | n + 1 => z21_l3_b k0 (z21_l3 k0 n) n
def z21_k3_0 (_n : Nat) (out3 : List UInt8) : Option AV :=
 z21_ret out3
def z21_sh (n : Nat) (s0 : List UInt8) : Option AV :=
 z21_l3 (z21_k3_0 n) n s0 ([] : List UInt8) (0 : Int)
def z76_ret (s4 : Bool) : Option AV := some (.dat .bool s4 none)
def z76_l2_b (ret : Bool → Option AV) (k0 : Option AV) (next : List UInt8 → UInt8 → Int → Option AV) (_n : Nat) (s0 : List UInt8) (c1 : UInt8) (i5 : Int) : Option AV :=
 bif (decide (i5 < ((List.length s0 : Nat) : Int))) then
 bif ((decide ((0 : Int) ≤ i5)) && (decide (i5 < (List.length s0 : Nat)))) then
 bif ((List.getD s0 (Int.toNat i5) (0 : UInt8)) == c1) then
 ret true
 else
 next s0 c1 (IntKind.wrap .i64 (i5 + (1 : Int)))
 else none
 else
 k0
def z76_l2 (ret : Bool → Option AV) (k0 : Option AV) : Nat → List UInt8 → UInt8 → Int → Option AV
 | 0 => fun _ _ _ => none
 | n + 1 => z76_l2_b ret k0 (z76_l2 ret k0 n) n
def z76_k2_0 (_n : Nat) : Option AV :=
 z76_ret false
def z76_sh (n : Nat) (s0 : List UInt8) (c1 : UInt8) : Option AV :=
 z76_l2 z76_ret (z76_k2_0 n) n s0 c1 (0 : Int)
def z43_ret (s4 : Bool) : Option AV := some (.dat .bool s4 none)
def z43_sh (_n : Nat) (c0 : UInt8) (kinds1 : Int) : Option AV :=
 z43_ret ((bits .and .i64 (z57 c0) kinds1) != (0 : Int))
def z58_ret (s2 : UInt8) : Option AV := some (.dat .byte s2 none)
def z58_sh (_n : Nat) (n0 : Int) : Option AV :=
 bif (decide ((Int.tmod (IntKind.wrap .i64 ((Int.tmod n0 (16 : Int)) + (16 : Int))) (16 : Int)) < (10 : Int))) then
 z58_ret (UInt8.ofNat (Int.toNat (IntKind.wrap .u8 (IntKind.wrap .i64 ((48 : Int) + (Int.tmod (IntKind.wrap .i64 ((Int.tmod n0 (16 : Int)) + (16 : Int))) (16 : Int)))))))
 else
 z58_ret (UInt8.ofNat (Int.toNat (IntKind.wrap .u8 (IntKind.wrap .i64 ((IntKind.wrap .i64 ((65 : Int) + (Int.tmod (IntKind.wrap .i64 ((Int.tmod n0 (16 : Int)) + (16 : Int))) (16 : Int)))) - (10 : Int))))))
def z44_ret (s6 : List UInt8) : Option AV := some (.dat (.sl .byte) s6 (some (6, 5)))
def z44_sh (_n : Nat) (b0 : List UInt8) (sign1 : UInt8) (c2 : UInt8) : Option AV :=
 bif (decide (List.length ([] : List UInt8) + List.length b0 ≤ room)) then
 bif ((z58_ok (IntKind.wrap .i64 (Int.tdiv (IntKind.wrap .i64 ((UInt8.toNat c2 : Nat) : Int)) (16 : Int)))) && true) then
 bif ((z58_ok (Int.tmod (IntKind.wrap .i64 ((UInt8.toNat c2 : Nat) : Int)) (16 : Int))) && true) then
 bif (decide (List.length (([] : List UInt8) ++ b0) + List.length ([sign1, (z58 (IntKind.wrap .i64 (Int.tdiv (IntKind.wrap .i64 ((UInt8.toNat c2 : Nat) : Int)) (16 : Int)))), (z58 (Int.tmod (IntKind.wrap .i64 ((UInt8.toNat c2 : Nat) : Int)) (16 : Int)))] : List UInt8) ≤ room)) then
 z44_ret ((([] : List UInt8) ++ b0) ++ ([sign1, (z58 (IntKind.wrap .i64 (Int.tdiv (IntKind.wrap .i64 ((UInt8.toNat c2 : Nat) : Int)) (16 : Int)))), (z58 (Int.tmod (IntKind.wrap .i64 ((UInt8.toNat c2 : Nat) : Int)) (16 : Int)))] : List UInt8))
 else none
 else none
 else none
 else none
def z23_ret (s4 : List UInt8) : Option AV := some (.dat (.sl .byte) s4 (some (4, 5)))
def z23_sh (_n : Nat) (c0 : UInt8) (ends1 : Bool) : Option AV :=
 bif (z43 c0 (4 : Int)) then
 bif (c0 != (61 : UInt8)) then
 z23_ret ([c0] : List UInt8)
 else
 bif (z43 c0 (2 : Int)) then
 bif (!ends1) then
 z23_ret ([c0] : List UInt8)
 else
 bif ((z44_ok ([] : List UInt8) (61 : UInt8) c0) && true) then
 z23_ret (z44 ([] : List UInt8) (61 : UInt8) c0)
 else none
 else
 bif ((z44_ok ([] : List UInt8) (61 : UInt8) c0) && true) then
 z23_ret (z44 ([] : List UInt8) (61 : UInt8) c0)
 else none
 else
 bif (z43 c0 (2 : Int)) then
 bif (!ends1) then
 z23_ret ([c0] : List UInt8)
 else
 bif ((z44_ok ([] : List UInt8) (61 : UInt8) c0) && true) then
 z23_ret (z44 ([] : List UInt8) (61 : UInt8) c0)
 else none
 else
 bif ((z44_ok ([] : List UInt8) (61 : UInt8) c0) && true) then
 z23_ret (z44 ([] : List UInt8) (61 : UInt8) c0)
 else none
def z19_ret (s2 : List UInt8) : Option AV := some (.dat (.sl .byte) s2 (some (2, 5)))
def z19_l5_b (k0 : List UInt8 → Int → Option AV) (next : List UInt8 → List UInt8 → Int → Int → Option AV) (_n : Nat) (b3 : List UInt8) (out4 : List UInt8) (long5 : Int) (i6 : Int) : Option AV :=
 bif (decide (i6 < ((List.length b3 : Nat) : Int))) then
 bif ((decide ((0 : Int) ≤ i6)) && (decide (i6 < (List.length b3 : Nat)))) then
 bif ((List.getD b3 (Int.toNat i6) (0 : UInt8)) == (13 : UInt8)) then
 bif (decide (List.length out4 + List.length ([(13 : UInt8), (10 : UInt8)] : List UInt8) ≤ room)) then
 next b3 (out4 ++ ([(13 : UInt8), (10 : UInt8)] : List UInt8)) (0 : Int) (IntKind.wrap .i64 ((IntKind.wrap .i64 (i6 + (1 : Int))) + (1 : Int)))
 else none
 else
 bif ((decide ((0 : Int) ≤ i6)) && (decide (i6 < (List.length b3 : Nat)))) then
 bif (decide ((IntKind.wrap .i64 (i6 + (1 : Int))) < ((List.length b3 : Nat) : Int))) then
 bif ((decide ((0 : Int) ≤ (IntKind.wrap .i64 (i6 + (1 : Int))))) && (decide ((IntKind.wrap .i64 (i6 + (1 : Int))) < (List.length b3 : Nat)))) then
 bif (decide ((75 : Int) < (IntKind.wrap .i64 (long5 + ((List.length (z23 (List.getD b3 (Int.toNat i6) (0 : UInt8)) ((List.getD b3 (Int.toNat (IntKind.wrap .i64 (i6 + (1 : Int)))) (0 : UInt8)) == (13 : UInt8))) : Nat) : Int))))) then
 bif (decide (List.length out4 + List.length ([(61 : UInt8), (13 : UInt8), (10 : UInt8)] : List UInt8) ≤ room)) then
 bif (decide (List.length (out4 ++ ([(61 : UInt8), (13 : UInt8), (10 : UInt8)] : List UInt8)) + List.length (z23 (List.getD b3 (Int.toNat i6) (0 : UInt8)) ((List.getD b3 (Int.toNat (IntKind.wrap .i64 (i6 + (1 : Int)))) (0 : UInt8)) == (13 : UInt8))) ≤ room)) then
 next b3 ((out4 ++ ([(61 : UInt8), (13 : UInt8), (10 : UInt8)] : List UInt8)) ++ (z23 (List.getD b3 (Int.toNat i6) (0 : UInt8)) ((List.getD b3 (Int.toNat (IntKind.wrap .i64 (i6 + (1 : Int)))) (0 : UInt8)) == (13 : UInt8)))) (IntKind.wrap .i64 ((0 : Int) + ((List.length (z23 (List.getD b3 (Int.toNat i6) (0 : UInt8)) ((List.getD b3 (Int.toNat (IntKind.wrap .i64 (i6 + (1 : Int)))) (0 : UInt8)) == (13 : UInt8))) : Nat) : Int))) (IntKind.wrap .i64 (i6 + (1 : Int)))
 else none
 else none
 else
 bif (decide (List.length out4 + List.length (z23 (List.getD b3 (Int.toNat i6) (0 : UInt8)) ((List.getD b3 (Int.toNat (IntKind.wrap .i64 (i6 + (1 : Int)))) (0 : UInt8)) == (13 : UInt8))) ≤ room)) then
 next b3 (out4 ++ (z23 (List.getD b3 (Int.toNat i6) (0 : UInt8)) ((List.getD b3 (Int.toNat (IntKind.wrap .i64 (i6 + (1 : Int)))) (0 : UInt8)) == (13 : UInt8)))) (IntKind.wrap .i64 (long5 + ((List.length (z23 (List.getD b3 (Int.toNat i6) (0 : UInt8)) ((List.getD b3 (Int.toNat (IntKind.wrap .i64 (i6 + (1 : Int)))) (0 : UInt8)) == (13 : UInt8))) : Nat) : Int))) (IntKind.wrap .i64 (i6 + (1 : Int)))
 else none
 else none
 else
 bif (decide ((75 : Int) < (IntKind.wrap .i64 (long5 + ((List.length (z23 (List.getD b3 (Int.toNat i6) (0 : UInt8)) false) : Nat) : Int))))) then
 bif (decide (List.length out4 + List.length ([(61 : UInt8), (13 : UInt8), (10 : UInt8)] : List UInt8) ≤ room)) then
 bif (decide (List.length (out4 ++ ([(61 : UInt8), (13 : UInt8), (10 : UInt8)] : List UInt8)) + List.length (z23 (List.getD b3 (Int.toNat i6) (0 : UInt8)) false) ≤ room)) then
 next b3 ((out4 ++ ([(61 : UInt8), (13 : UInt8), (10 : UInt8)] : List UInt8)) ++ (z23 (List.getD b3 (Int.toNat i6) (0 : UInt8)) false)) (IntKind.wrap .i64 ((0 : Int) + ((List.length (z23 (List.getD b3 (Int.toNat i6) (0 : UInt8)) false) : Nat) : Int))) (IntKind.wrap .i64 (i6 + (1 : Int)))
 else none
 else none
 else
 bif (decide (List.length out4 + List.length (z23 (List.getD b3 (Int.toNat i6) (0 : UInt8)) false) ≤ room)) then
 next b3 (out4 ++ (z23 (List.getD b3 (Int.toNat i6) (0 : UInt8)) false)) (IntKind.wrap .i64 (long5 + ((List.length (z23 (List.getD b3 (Int.toNat i6) (0 : UInt8)) false) : Nat) : Int))) (IntKind.wrap .i64 (i6 + (1 : Int)))
 else none
 else none
 else none
 else
 k0 out4 long5
def z19_l5 (k0 : List UInt8 → Int → Option AV) : Nat → List UInt8 → List UInt8 → Int → Int → Option AV
 | 0 => fun _ _ _ _ => none
 | n + 1 => z19_l5_b k0 (z19_l5 k0 n) n
def z19_k5_0 (_n : Nat) (out4 : List UInt8) (long5 : Int) : Option AV :=
 bif (decide ((0 : Int) < long5)) then
 bif (decide (List.length out4 + List.length ([(61 : UInt8), (13 : UInt8), (10 : UInt8)] : List UInt8) ≤ room)) then
 z19_ret (out4 ++ ([(61 : UInt8), (13 : UInt8), (10 : UInt8)] : List UInt8))
 else none
 else
 z19_ret out4
def z19_sh (n : Nat) (s0 : List UInt8) : Option AV :=
 bif ((z21_ok s0) && true) then
 z19_l5 (z19_k5_0 n) n (z21 s0) ([] : List UInt8) (0 : Int) (0 : Int)
 else none
def z77_ret (s4 : List UInt8) : Option AV := some (.dat (.sl .byte) s4 none)
def z77_l1_b (k0 : List UInt8 → Option AV) (next : List UInt8 → UInt8 → Option AV) (_n : Nat) (s0 : List UInt8) (c1 : UInt8) : Option AV :=
 bif (decide ((0 : Int) < ((List.length s0 : Nat) : Int))) then
 bif ((decide ((0 : Int) ≤ (IntKind.wrap .i64 (((List.length s0 : Nat) : Int) - (1 : Int))))) && (decide ((IntKind.wrap .i64 (((List.length s0 : Nat) : Int) - (1 : Int))) < (List.length s0 : Nat)))) then
 bif ((List.getD s0 (Int.toNat (IntKind.wrap .i64 (((List.length s0 : Nat) : Int) - (1 : Int)))) (0 : UInt8)) == c1) then
 bif (((decide ((0 : Int) ≤ ((0 : Nat) : Int))) && (decide (((0 : Nat) : Int) ≤ (IntKind.wrap .i64 (((List.length s0 : Nat) : Int) - (1 : Int)))))) && (decide ((IntKind.wrap .i64 (((List.length s0 : Nat) : Int) - (1 : Int))) ≤ ((List.length s0 : Nat) : Int)))) then
 next (List.drop (Int.toNat ((0 : Nat) : Int)) (List.take (Int.toNat (IntKind.wrap .i64 (((List.length s0 : Nat) : Int) - (1 : Int)))) s0)) c1
 else none
 else
 k0 s0
 else none
 else
 k0 s0
def z77_l1 (k0 : List UInt8 → Option AV) : Nat → List UInt8 → UInt8 → Option AV
 | 0 => fun _ _ => none
 | n + 1 => z77_l1_b k0 (z77_l1 k0 n) n
def z77_k1_0 (_n : Nat) (s0 : List UInt8) : Option AV :=
 z77_ret s0
def z77_sh (n : Nat) (s0 : List UInt8) (c1 : UInt8) : Option AV :=
 z77_l1 (z77_k1_0 n) n s0 c1
def z78_ret (as2 : List Bool) (ok3 : Bool) : Option AV := some (.tup [(.dat (.arr 256 .bool) as2 none), (.dat .bool ok3 none)])
def z78_l2_b (ret : List Bool → Bool → Option AV) (k0 : List Bool → Option AV) (next : List UInt8 → List Bool → Int → Option AV) (_n : Nat) (chars0 : List UInt8) (as2 : List Bool) (i4 : Int) : Option AV :=
 bif (decide (i4 < ((List.length chars0 : Nat) : Int))) then
 bif ((decide ((0 : Int) ≤ i4)) && (decide (i4 < (List.length chars0 : Nat)))) then
 bif (decide ((128 : UInt8) ≤ (List.getD chars0 (Int.toNat i4) (0 : UInt8)))) then
 ret as2 false
 else
 bif ((decide ((0 : Int) ≤ ((UInt8.toNat (List.getD chars0 (Int.toNat i4) (0 : UInt8)) : Nat) : Int))) && (decide (((UInt8.toNat (List.getD chars0 (Int.toNat i4) (0 : UInt8)) : Nat) : Int) < (256 : Nat)))) then
 next chars0 (List.set as2 (Int.toNat ((UInt8.toNat (List.getD chars0 (Int.toNat i4) (0 : UInt8)) : Nat) : Int)) true) (IntKind.wrap .i64 (i4 + (1 : Int)))
 else none
 else none
 else
 k0 as2
def z78_l2 (ret : List Bool → Bool → Option AV) (k0 : List Bool → Option AV) : Nat → List UInt8 → List Bool → Int → Option AV
 | 0 => fun _ _ _ => none
 | n + 1 => z78_l2_b ret k0 (z78_l2 ret k0 n) n
def z78_k2_0 (_n : Nat) (as2 : List Bool) : Option AV :=
 z78_ret as2 true
def z78_sh (n : Nat) (chars0 : List UInt8) : Option AV :=
 z78_l2 z78_ret (z78_k2_0 n) n chars0 (List.replicate 256 false) (0 : Int)
def z85_ret (s4 : Bool) : Option AV := some (.dat .bool s4 none)
def z85_sh (_n : Nat) (as0 : List Bool) (c1 : UInt8) : Option AV :=
 bif ((decide ((0 : Int) ≤ ((UInt8.toNat c1 : Nat) : Int))) && (decide (((UInt8.toNat c1 : Nat) : Int) < (256 : Nat)))) then
 z85_ret (List.getD as0 (Int.toNat ((UInt8.toNat c1 : Nat) : Int)) false)
 else none
def z79_ret (s4 : List UInt8) : Option AV := some (.dat (.sl .byte) s4 none)
def z79_l1_b (k0 : List UInt8 → Option AV) (next : List UInt8 → List Bool → Option AV) (_n : Nat) (s0 : List UInt8) (as1 : List Bool) : Option AV :=
 bif (decide ((0 : Int) < ((List.length s0 : Nat) : Int))) then
 bif ((decide ((0 : Int) ≤ (IntKind.wrap .i64 (((List.length s0 : Nat) : Int) - (1 : Int))))) && (decide ((IntKind.wrap .i64 (((List.length s0 : Nat) : Int) - (1 : Int))) < (List.length s0 : Nat)))) then
 bif (!(z85 as1 (List.getD s0 (Int.toNat (IntKind.wrap .i64 (((List.length s0 : Nat) : Int) - (1 : Int)))) (0 : UInt8)))) then
 k0 s0
 else
 bif (((decide ((0 : Int) ≤ ((0 : Nat) : Int))) && (decide (((0 : Nat) : Int) ≤ (IntKind.wrap .i64 (((List.length s0 : Nat) : Int) - (1 : Int)))))) && (decide ((IntKind.wrap .i64 (((List.length s0 : Nat) : Int) - (1 : Int))) ≤ ((List.length s0 : Nat) : Int)))) then
 next (List.drop (Int.toNat ((0 : Nat) : Int)) (List.take (Int.toNat (IntKind.wrap .i64 (((List.length s0 : Nat) : Int) - (1 : Int)))) s0)) as1
 else none
 else none
 else
 k0 s0
def z79_l1 (k0 : List UInt8 → Option AV) : Nat → List UInt8 → List Bool → Option AV
 | 0 => fun _ _ => none
 | n + 1 => z79_l1_b k0 (z79_l1 k0 n) n
def z79_k1_0 (_n : Nat) (s0 : List UInt8) : Option AV :=
 z79_ret s0
def z79_sh (n : Nat) (s0 : List UInt8) (as1 : List Bool) : Option AV :=
 z79_l1 (z79_k1_0 n) n s0 as1
def z59_ret (s4 : List UInt8) : Option AV := some (.dat (.sl .byte) s4 none)
def z59_sh (_n : Nat) (s0 : List UInt8) (cutset1 : List UInt8) : Option AV :=
 bif (((List.length s0 : Nat) : Int) == (0 : Int)) then
 z59_ret s0
 else
 bif (cutset1 == ([] : List UInt8)) then
 z59_ret s0
 else
 bif (((List.length cutset1 : Nat) : Int) == (1 : Int)) then
 bif ((decide ((0 : Int) ≤ (0 : Int))) && (decide ((0 : Int) < (List.length cutset1 : Nat)))) then
 bif (decide ((List.getD cutset1 (Int.toNat (0 : Int)) (0 : UInt8)) < (128 : UInt8))) then
 bif ((decide ((0 : Int) ≤ (0 : Int))) && (decide ((0 : Int) < (List.length cutset1 : Nat)))) then
 bif ((z77_ok s0 (List.getD cutset1 (Int.toNat (0 : Int)) (0 : UInt8))) && true) then
 z59_ret (z77 s0 (List.getD cutset1 (Int.toNat (0 : Int)) (0 : UInt8)))
 else none
 else none
 else
 bif ((z78_ok cutset1) && true) then
 bif ((z78 cutset1).2) then
 bif ((z79_ok s0 ((z78 cutset1).1)) && true) then
 z59_ret (z79 s0 ((z78 cutset1).1))
 else none
 else
 bif ((z80_ok s0 cutset1) && true) then
 z59_ret (z80 s0 cutset1)
 else none
 else none
 else none
 else
 bif ((z78_ok cutset1) && true) then
 bif ((z78 cutset1).2) then
 bif ((z79_ok s0 ((z78 cutset1).1)) && true) then
 z59_ret (z79 s0 ((z78 cutset1).1))
 else none
 else
 bif ((z80_ok s0 cutset1) && true) then
 z59_ret (z80 s0 cutset1)
 else none
 else none
def z66_ret (s4 : Bool) : Option AV := some (.dat .bool s4 none)
def z66_sh (_n : Nat) (a0 : List UInt8) (b1 : List UInt8) : Option AV :=
 z66_ret (a0 == b1)
def z81_ret (s4 : Bool) : Option AV := some (.dat .bool s4 none)
def z81_sh (_n : Nat) (s0 : List UInt8) (suffix1 : List UInt8) : Option AV :=
 bif (decide (((List.length suffix1 : Nat) : Int) ≤ ((List.length s0 : Nat) : Int))) then
 bif (((decide ((0 : Int) ≤ (IntKind.wrap .i64 (((List.length s0 : Nat) : Int) - ((List.length suffix1 : Nat) : Int))))) && (decide ((IntKind.wrap .i64 (((List.length s0 : Nat) : Int) - ((List.length suffix1 : Nat) : Int))) ≤ ((List.length s0 : Nat) : Int)))) && (decide (((List.length s0 : Nat) : Int) ≤ ((List.length s0 : Nat) : Int)))) then
 z81_ret (z66 (List.drop (Int.toNat (IntKind.wrap .i64 (((List.length s0 : Nat) : Int) - ((List.length suffix1 : Nat) : Int)))) (List.take (Int.toNat ((List.length s0 : Nat) : Int)) s0)) suffix1)
 else none
 else
 z81_ret false
def z60_ret (before4 : List UInt8) (found5 : Bool) : Option AV := some (.tup [(.dat (.sl .byte) before4 none), (.dat .bool found5 none)])
def z60_sh (_n : Nat) (s0 : List UInt8) (suffix1 : List UInt8) : Option AV :=
 bif ((z81_ok s0 suffix1) && true) then
 bif (!(z81 s0 suffix1)) then
 z60_ret s0 false
 else
 bif (((decide ((0 : Int) ≤ ((0 : Nat) : Int))) && (decide (((0 : Nat) : Int) ≤ (IntKind.wrap .i64 (((List.length s0 : Nat) : Int) - ((List.length suffix1 : Nat) : Int)))))) && (decide ((IntKind.wrap .i64 (((List.length s0 : Nat) : Int) - ((List.length suffix1 : Nat) : Int))) ≤ ((List.length s0 : Nat) : Int)))) then
 z60_ret (List.drop (Int.toNat ((0 : Nat) : Int)) (List.take (Int.toNat (IntKind.wrap .i64 (((List.length s0 : Nat) : Int) - ((List.length suffix1 : Nat) : Int)))) s0)) true
 else none
 else none
def z45_ret (s2 : List UInt8) (s3 : Bool) : Option AV := some (.tup [(.dat (.sl .byte) s2 none), (.dat .bool s3 none)])
def z45_sh (_n : Nat) (l0 : List UInt8) : Option AV :=
 bif ((z59_ok l0 ([32, 9] : List UInt8)) && true) then
 bif ((z60_ok (z59 l0 ([32, 9] : List UInt8)) ([(61 : UInt8)] : List UInt8)) && true) then
 z45_ret ((z60 (z59 l0 ([32, 9] : List UInt8)) ([(61 : UInt8)] : List UInt8)).1) ((z60 (z59 l0 ([32, 9] : List UInt8)) ([(61 : UInt8)] : List UInt8)).2)
 else none
 else none
def z73_ret (s2 : Int) : Option AV := some (.dat (.int .i64) s2 none)
def z73_sh (_n : Nat) (c0 : UInt8) : Option AV :=
 bif (decide (c0 < (32 : UInt8))) then
 bif (c0 == (32 : UInt8)) then
 z73_ret (bits .or .i64 (bits .or .i64 (0 : Int) (1 : Int)) (2 : Int))
 else
 bif (c0 == (9 : UInt8)) then
 z73_ret (bits .or .i64 (bits .or .i64 (0 : Int) (1 : Int)) (2 : Int))
 else
 bif (decide ((48 : UInt8) ≤ c0)) then
 bif (decide (c0 ≤ (57 : UInt8))) then
 z73_ret (bits .or .i64 (bits .or .i64 (0 : Int) (1 : Int)) (648 : Int))
 else
 bif (decide ((65 : UInt8) ≤ c0)) then
 bif (decide (c0 ≤ (90 : UInt8))) then
 bif (decide (c0 ≤ (90 : UInt8))) then
 z73_ret (bits .or .i64 (bits .or .i64 (0 : Int) (1 : Int)) (656 : Int))
 else
 z73_ret (bits .or .i64 (0 : Int) (1 : Int))
 else
 bif (decide ((97 : UInt8) ≤ c0)) then
 bif (decide (c0 ≤ (122 : UInt8))) then
 z73_ret (bits .or .i64 (bits .or .i64 (0 : Int) (1 : Int)) (656 : Int))
 else
 z73_ret (bits .or .i64 (0 : Int) (1 : Int))
 else
 z73_ret (bits .or .i64 (0 : Int) (1 : Int))
 else
 bif (decide ((97 : UInt8) ≤ c0)) then
 bif (decide (c0 ≤ (122 : UInt8))) then
 z73_ret (bits .or .i64 (bits .or .i64 (0 : Int) (1 : Int)) (656 : Int))
 else
 z73_ret (bits .or .i64 (0 : Int) (1 : Int))
 else
 z73_ret (bits .or .i64 (0 : Int) (1 : Int))
 else
 bif (decide ((65 : UInt8) ≤ c0)) then
 bif (decide (c0 ≤ (90 : UInt8))) then
 bif (decide (c0 ≤ (90 : UInt8))) then
 z73_ret (bits .or .i64 (bits .or .i64 (0 : Int) (1 : Int)) (656 : Int))
 else
 z73_ret (bits .or .i64 (0 : Int) (1 : Int))
 else
 bif (decide ((97 : UInt8) ≤ c0)) then
 bif (decide (c0 ≤ (122 : UInt8))) then
 z73_ret (bits .or .i64 (bits .or .i64 (0 : Int) (1 : Int)) (656 : Int))
 else
 z73_ret (bits .or .i64 (0 : Int) (1 : Int))
 else
 z73_ret (bits .or .i64 (0 : Int) (1 : Int))
 else
 bif (decide ((97 : UInt8) ≤ c0)) then
 bif (decide (c0 ≤ (122 : UInt8))) then
 z73_ret (bits .or .i64 (bits .or .i64 (0 : Int) (1 : Int)) (656 : Int))
 else
 z73_ret (bits .or .i64 (0 : Int) (1 : Int))
 else
 z73_ret (bits .or .i64 (0 : Int) (1 : Int))
 else
 bif (c0 == (127 : UInt8)) then
 bif (c0 == (32 : UInt8)) then
 z73_ret (bits .or .i64 (bits .or .i64 (0 : Int) (1 : Int)) (2 : Int))
 else
 bif (c0 == (9 : UInt8)) then
 z73_ret (bits .or .i64 (bits .or .i64 (0 : Int) (1 : Int)) (2 : Int))
 else
 bif (decide ((48 : UInt8) ≤ c0)) then
 bif (decide (c0 ≤ (57 : UInt8))) then
 z73_ret (bits .or .i64 (bits .or .i64 (0 : Int) (1 : Int)) (648 : Int))
 else
 bif (decide ((65 : UInt8) ≤ c0)) then
 bif (decide (c0 ≤ (90 : UInt8))) then
 bif (decide (c0 ≤ (90 : UInt8))) then
 z73_ret (bits .or .i64 (bits .or .i64 (0 : Int) (1 : Int)) (656 : Int))
 else
 z73_ret (bits .or .i64 (0 : Int) (1 : Int))
 else
 bif (decide ((97 : UInt8) ≤ c0)) then
 bif (decide (c0 ≤ (122 : UInt8))) then
 z73_ret (bits .or .i64 (bits .or .i64 (0 : Int) (1 : Int)) (656 : Int))
 else
 z73_ret (bits .or .i64 (0 : Int) (1 : Int))
 else
 z73_ret (bits .or .i64 (0 : Int) (1 : Int))
 else
 bif (decide ((97 : UInt8) ≤ c0)) then
 bif (decide (c0 ≤ (122 : UInt8))) then
 z73_ret (bits .or .i64 (bits .or .i64 (0 : Int) (1 : Int)) (656 : Int))
 else
 z73_ret (bits .or .i64 (0 : Int) (1 : Int))
 else
 z73_ret (bits .or .i64 (0 : Int) (1 : Int))
 else
 bif (decide ((65 : UInt8) ≤ c0)) then
 bif (decide (c0 ≤ (90 : UInt8))) then
 bif (decide (c0 ≤ (90 : UInt8))) then
 z73_ret (bits .or .i64 (bits .or .i64 (0 : Int) (1 : Int)) (656 : Int))
 else
 z73_ret (bits .or .i64 (0 : Int) (1 : Int))
 else
 bif (decide ((97 : UInt8) ≤ c0)) then
 bif (decide (c0 ≤ (122 : UInt8))) then
 z73_ret (bits .or .i64 (bits .or .i64 (0 : Int) (1 : Int)) (656 : Int))
 else
 z73_ret (bits .or .i64 (0 : Int) (1 : Int))
 else
 z73_ret (bits .or .i64 (0 : Int) (1 : Int))
 else
 bif (decide ((97 : UInt8) ≤ c0)) then
 bif (decide (c0 ≤ (122 : UInt8))) then
 z73_ret (bits .or .i64 (bits .or .i64 (0 : Int) (1 : Int)) (656 : Int))
 else
 z73_ret (bits .or .i64 (0 : Int) (1 : Int))
 else
 z73_ret (bits .or .i64 (0 : Int) (1 : Int))
 else
 bif (c0 == (32 : UInt8)) then
 z73_ret (bits .or .i64 (0 : Int) (2 : Int))
 else
 bif (c0 == (9 : UInt8)) then
 z73_ret (bits .or .i64 (0 : Int) (2 : Int))
 else
 bif (decide ((48 : UInt8) ≤ c0)) then
 bif (decide (c0 ≤ (57 : UInt8))) then
 z73_ret (bits .or .i64 (0 : Int) (648 : Int))
 else
 bif (decide ((65 : UInt8) ≤ c0)) then
 bif (decide (c0 ≤ (90 : UInt8))) then
 bif (decide (c0 ≤ (90 : UInt8))) then
 z73_ret (bits .or .i64 (0 : Int) (656 : Int))
 else
 z73_ret (0 : Int)
 else
 bif (decide ((97 : UInt8) ≤ c0)) then
 bif (decide (c0 ≤ (122 : UInt8))) then
 z73_ret (bits .or .i64 (0 : Int) (656 : Int))
 else
 z73_ret (0 : Int)
 else
 z73_ret (0 : Int)
 else
 bif (decide ((97 : UInt8) ≤ c0)) then
 bif (decide (c0 ≤ (122 : UInt8))) then
 z73_ret (bits .or .i64 (0 : Int) (656 : Int))
 else
 z73_ret (0 : Int)
 else
 z73_ret (0 : Int)
 else
 bif (decide ((65 : UInt8) ≤ c0)) then
 bif (decide (c0 ≤ (90 : UInt8))) then
 bif (decide (c0 ≤ (90 : UInt8))) then
 z73_ret (bits .or .i64 (0 : Int) (656 : Int))
 else
 z73_ret (0 : Int)
 else
 bif (decide ((97 : UInt8) ≤ c0)) then
 bif (decide (c0 ≤ (122 : UInt8))) then
 z73_ret (bits .or .i64 (0 : Int) (656 : Int))
 else
 z73_ret (0 : Int)
 else
 z73_ret (0 : Int)
 else
 bif (decide ((97 : UInt8) ≤ c0)) then
 bif (decide (c0 ≤ (122 : UInt8))) then
 z73_ret (bits .or .i64 (0 : Int) (656 : Int))
 else
 z73_ret (0 : Int)
 else
 z73_ret (0 : Int)
def z99_ret (s4 : Int) : Option AV := some (.dat (.int .i64) s4 none)
def z99_sh (_n : Nat) (s0 : List UInt8) (c1 : UInt8) : Option AV :=
 z99_ret (z82 s0 c1)
def z92_ret (s4 : Int) : Option AV := some (.dat (.int .i64) s4 none)
def z92_sh (_n : Nat) (s0 : List UInt8) (c1 : UInt8) : Option AV :=
 z92_ret (z99 s0 c1)
def z74_ret (s4 : Bool) : Option AV := some (.dat .bool s4 none)
def z74_sh (_n : Nat) (s0 : List UInt8) (c1 : UInt8) : Option AV :=
 z74_ret (decide ((0 : Int) ≤ (z92 s0 c1)))
def z54_ret (s2 : Int) : Option AV := some (.dat (.int .i64) s2 none)
def z54_sh (_n : Nat) (c0 : UInt8) : Option AV :=
 bif (decide (c0 < (33 : UInt8))) then
 z54_ret (z73 c0)
 else
 bif (decide ((126 : UInt8) < c0)) then
 z54_ret (z73 c0)
 else
 bif (z74 ([33, 42, 43, 45, 47] : List UInt8) c0) then
 bif (z74 ([43, 47] : List UInt8) c0) then
 bif (z74 ([40, 41, 60, 62, 64, 44, 59, 58, 92, 34, 47, 91, 93, 63, 61] : List UInt8) c0) then
 z54_ret (bits .or .i64 (bits .or .i64 (bits .or .i64 (bits .or .i64 (z73 c0) (4 : Int)) (128 : Int)) (512 : Int)) (32 : Int))
 else
 bif (!(z74 ([42, 39, 37] : List UInt8) c0)) then
 z54_ret (bits .or .i64 (bits .or .i64 (bits .or .i64 (bits .or .i64 (bits .or .i64 (z73 c0) (4 : Int)) (128 : Int)) (512 : Int)) (64 : Int)) (256 : Int))
 else
 z54_ret (bits .or .i64 (bits .or .i64 (bits .or .i64 (bits .or .i64 (z73 c0) (4 : Int)) (128 : Int)) (512 : Int)) (64 : Int))
 else
 bif (z74 ([40, 41, 60, 62, 64, 44, 59, 58, 92, 34, 47, 91, 93, 63, 61] : List UInt8) c0) then
 z54_ret (bits .or .i64 (bits .or .i64 (bits .or .i64 (z73 c0) (4 : Int)) (128 : Int)) (32 : Int))
 else
 bif (!(z74 ([42, 39, 37] : List UInt8) c0)) then
 z54_ret (bits .or .i64 (bits .or .i64 (bits .or .i64 (bits .or .i64 (z73 c0) (4 : Int)) (128 : Int)) (64 : Int)) (256 : Int))
 else
 z54_ret (bits .or .i64 (bits .or .i64 (bits .or .i64 (z73 c0) (4 : Int)) (128 : Int)) (64 : Int))
 else
 bif (z74 ([43, 47] : List UInt8) c0) then
 bif (z74 ([40, 41, 60, 62, 64, 44, 59, 58, 92, 34, 47, 91, 93, 63, 61] : List UInt8) c0) then
 z54_ret (bits .or .i64 (bits .or .i64 (bits .or .i64 (z73 c0) (4 : Int)) (512 : Int)) (32 : Int))
 else
 bif (!(z74 ([42, 39, 37] : List UInt8) c0)) then
 z54_ret (bits .or .i64 (bits .or .i64 (bits .or .i64 (bits .or .i64 (z73 c0) (4 : Int)) (512 : Int)) (64 : Int)) (256 : Int))
 else
 z54_ret (bits .or .i64 (bits .or .i64 (bits .or .i64 (z73 c0) (4 : Int)) (512 : Int)) (64 : Int))
 else
 bif (z74 ([40, 41, 60, 62, 64, 44, 59, 58, 92, 34, 47, 91, 93, 63, 61] : List UInt8) c0) then
 z54_ret (bits .or .i64 (bits .or .i64 (z73 c0) (4 : Int)) (32 : Int))
 else
 bif (!(z74 ([42, 39, 37] : List UInt8) c0)) then
 z54_ret (bits .or .i64 (bits .or .i64 (bits .or .i64 (z73 c0) (4 : Int)) (64 : Int)) (256 : Int))
 else
 z54_ret (bits .or .i64 (bits .or .i64 (z73 c0) (4 : Int)) (64 : Int))
def z41_ret (s4 : Bool) : Option AV := some (.dat .bool s4 none)
def z41_sh (_n : Nat) (c0 : UInt8) (kinds1 : Int) : Option AV :=
 z41_ret ((bits .and .i64 (z54 c0) kinds1) != (0 : Int))
def z98_ret (s2 : UInt8) : Option AV := some (.dat .byte s2 none)
def z98_sh (_n : Nat) (c0 : UInt8) : Option AV :=
 bif (decide ((65 : UInt8) ≤ c0)) then
 bif (decide (c0 ≤ (90 : UInt8))) then
 z98_ret (c0 ||| (32 : UInt8))
 else
 z98_ret c0
 else
 z98_ret c0
def z91_ret (s2 : Int) (s3 : Bool) : Option AV := some (.tup [(.dat (.int .i64) s2 none), (.dat .bool s3 none)])
def z91_sh (_n : Nat) (c0 : UInt8) : Option AV :=
 bif (z41 (z98 c0) (8 : Int)) then
 z91_ret (IntKind.wrap .i64 ((UInt8.toNat ((z98 c0) - (48 : UInt8)) : Nat) : Int)) true
 else
 bif (decide ((97 : UInt8) ≤ (z98 c0))) then
 bif (decide ((z98 c0) ≤ (102 : UInt8))) then
 z91_ret (IntKind.wrap .i64 ((IntKind.wrap .i64 ((UInt8.toNat ((z98 c0) - (97 : UInt8)) : Nat) : Int)) + (10 : Int))) true
 else
 z91_ret (0 : Int) false
 else
 z91_ret (0 : Int) false
def z70_ret (s4 : UInt8) (s5 : Bool) : Option AV := some (.tup [(.dat .byte s4 none), (.dat .bool s5 none)])
def z70_sh (_n : Nat) (a0 : UInt8) (b1 : UInt8) : Option AV :=
 bif (!((z91 a0).2)) then
 z70_ret (0 : UInt8) false
 else
 bif (!((z91 b1).2)) then
 z70_ret (0 : UInt8) false
 else
 z70_ret (UInt8.ofNat (Int.toNat (IntKind.wrap .u8 (bits .or .i64 (IntKind.wrap .i64 (((z91 a0).1) * 2 ^ (min (Int.toNat (4 : Int)) (IntKind.bits .i64)))) ((z91 b1).1))))) true
def z50_ret (s6 : UInt8) (s7 : Bool) : Option AV := some (.tup [(.dat .byte s6 none), (.dat .bool s7 none)])
def z50_sh (_n : Nat) (s0 : List UInt8) (at1 : Int) (sign2 : UInt8) : Option AV :=
 bif (decide (at1 < (0 : Int))) then
 z50_ret (0 : UInt8) false
 else
 bif (decide ((IntKind.wrap .i64 (((List.length s0 : Nat) : Int) - (3 : Int))) < at1)) then
 z50_ret (0 : UInt8) false
 else
 bif ((decide ((0 : Int) ≤ at1)) && (decide (at1 < (List.length s0 : Nat)))) then
 bif ((List.getD s0 (Int.toNat at1) (0 : UInt8)) != sign2) then
 z50_ret (0 : UInt8) false
 else
 bif ((decide ((0 : Int) ≤ (IntKind.wrap .i64 (at1 + (1 : Int))))) && (decide ((IntKind.wrap .i64 (at1 + (1 : Int))) < (List.length s0 : Nat)))) then
 bif ((decide ((0 : Int) ≤ (IntKind.wrap .i64 (at1 + (2 : Int))))) && (decide ((IntKind.wrap .i64 (at1 + (2 : Int))) < (List.length s0 : Nat)))) then
 z50_ret ((z70 (List.getD s0 (Int.toNat (IntKind.wrap .i64 (at1 + (1 : Int)))) (0 : UInt8)) (List.getD s0 (Int.toNat (IntKind.wrap .i64 (at1 + (2 : Int)))) (0 : UInt8))).1) ((z70 (List.getD s0 (Int.toNat (IntKind.wrap .i64 (at1 + (1 : Int)))) (0 : UInt8)) (List.getD s0 (Int.toNat (IntKind.wrap .i64 (at1 + (2 : Int)))) (0 : UInt8))).2)
 else none
 else none
 else none
def z46_ret (s2 : List UInt8) (s3 : Int) : Option AV := some (.tup [(.dat (.sl .byte) s2 none), (.dat (.int .i64) s3 none)])
def z46_l4_b (k0 : List UInt8 → Int → Option AV) (next : List UInt8 → List UInt8 → Int → Int → Option AV) (_n : Nat) (l0 : List UInt8) (out4 : List UInt8) (strange5 : Int) (at6 : Int) : Option AV :=
 bif (decide (at6 < ((List.length l0 : Nat) : Int))) then
 bif ((z50_ok l0 at6 (61 : UInt8)) && true) then
 bif ((z50 l0 at6 (61 : UInt8)).2) then
 bif (decide (List.length out4 + List.length ([((z50 l0 at6 (61 : UInt8)).1)] : List UInt8) ≤ room)) then
 next l0 (out4 ++ ([((z50 l0 at6 (61 : UInt8)).1)] : List UInt8)) strange5 (IntKind.wrap .i64 (at6 + (3 : Int)))
 else none
 else
 bif ((decide ((0 : Int) ≤ at6)) && (decide (at6 < (List.length l0 : Nat)))) then
 bif ((List.getD l0 (Int.toNat at6) (0 : UInt8)) == (61 : UInt8)) then
 bif ((decide ((0 : Int) ≤ at6)) && (decide (at6 < (List.length l0 : Nat)))) then
 bif (decide (List.length out4 + List.length ([(List.getD l0 (Int.toNat at6) (0 : UInt8))] : List UInt8) ≤ room)) then
 next l0 (out4 ++ ([(List.getD l0 (Int.toNat at6) (0 : UInt8))] : List UInt8)) (IntKind.wrap .i64 (strange5 + (1 : Int))) (IntKind.wrap .i64 (at6 + (1 : Int)))
 else none
 else none
 else
 bif ((decide ((0 : Int) ≤ at6)) && (decide (at6 < (List.length l0 : Nat)))) then
 bif (decide (List.length out4 + List.length ([(List.getD l0 (Int.toNat at6) (0 : UInt8))] : List UInt8) ≤ room)) then
 next l0 (out4 ++ ([(List.getD l0 (Int.toNat at6) (0 : UInt8))] : List UInt8)) strange5 (IntKind.wrap .i64 (at6 + (1 : Int)))
 else none
 else none
 else none
 else none
 else
 k0 out4 strange5
def z46_l4 (k0 : List UInt8 → Int → Option AV) : Nat → List UInt8 → List UInt8 → Int → Int → Option AV
 | 0 => fun _ _ _ _ => none
 | n + 1 => z46_l4_b k0 (z46_l4 k0 n) n
def z46_k4_0 (_n : Nat) (out4 : List UInt8) (strange5 : Int) : Option AV :=
 z46_ret out4 strange5
def z46_sh (n : Nat) (l0 : List UInt8) : Option AV :=
 z46_l4 (z46_k4_0 n) n l0 ([] : List UInt8) (0 : Int) (0 : Int)
def z25_ret (s2 : List UInt8) (s3 : Bool) : Option AV := some (.tup [(.dat (.sl .byte) s2 none), (.dat .bool s3 none)])
def z25_sh (_n : Nat) (l0 : List UInt8) : Option AV :=
 bif ((z45_ok l0) && true) then
 bif ((z46_ok ((z45 l0).1)) && true) then
 z25_ret ((z46 ((z45 l0).1)).1) ((z45 l0).2)
 else none
 else none
def z84_ret (s2 : Bool) : Option AV := some (.dat .bool s2 none)
def z84_sh (_n : Nat) (bufLen0 : Int) : Option AV :=
 z84_ret (decide ((8 : Int) < bufLen0))
def z63_ret (s4 : Int) : Option AV := some (.dat (.int .i64) s4 none)
def z63_l7_b (m0 : Int) (ret : Int → Option AV) (k0 : Option AV) (next : List UInt8 → Nat → Option AV) (_n : Nat) (s28 : List UInt8) (s28p : Nat) : Option AV :=
 bif (decide (s28p < List.length s28)) then
 bif (decide (s28p < List.length s28)) then
 bif ((decL s28 s28p).1 == (65533 : Int)) then
 ret (0 : Int)
 else
 next s28 (bif (decide (s28p < List.length s28)) then s28p + (decL s28 s28p).2 else s28p)
 else none
 else
 k0
def z63_l7 (m0 : Int) (ret : Int → Option AV) (k0 : Option AV) : Nat → List UInt8 → Nat → Option AV
 | 0 => fun _ _ => none
 | n + 1 => (z63_l7_b m0) ret k0 ((z63_l7 m0) ret k0 n) n
def z63_k7_0 (m0 : Int) (_n : Nat) : Option AV :=
 z63_ret (-1 : Int)
def z63_l24_b (m0 : Int) (ret : Int → Option AV) (k2 : Option AV) (next : List Bool → List UInt8 → Int → Int → Option AV) (_n : Nat) (as7 : List Bool) (s60 : List UInt8) (s61 : Int) (s62 : Int) : Option AV :=
 bif (decide (s62 < s61)) then
 bif ((decide ((0 : Int) ≤ s62)) && (decide (s62 < (List.length s60 : Nat)))) then
 bif (z85 as7 (List.getD s60 (Int.toNat s62) (0 : UInt8))) then
 ret s62
 else
 next as7 s60 s61 (IntKind.wrap .i64 (s62 + (1 : Int)))
 else none
 else
 k2
def z63_l24 (m0 : Int) (ret : Int → Option AV) (k2 : Option AV) : Nat → List Bool → List UInt8 → Int → Int → Option AV
 | 0 => fun _ _ _ _ => none
 | n + 1 => (z63_l24_b m0) ret k2 ((z63_l24 m0) ret k2 n) n
def z63_k24_2 (m0 : Int) (_n : Nat) : Option AV :=
 z63_ret (-1 : Int)
def z63_l48_b (m0 : Int) (ret : Int → Option AV) (k6 : List UInt8 → List UInt8 → Int → Int → Option AV) (next : List UInt8 → List UInt8 → Int → Int → Int → List UInt8 → Nat → Option AV) (_n : Nat) (s0 : List UInt8) (chars1 : List UInt8) (width11 : Int) (i12 : Int) (r13 : Int) (s121 : List UInt8) (s121p : Nat) : Option AV :=
 bif (decide (s121p < List.length s121)) then
 bif (decide (s121p < List.length s121)) then
 bif (r13 == (decL s121 s121p).1) then
 ret i12
 else
 next s0 chars1 width11 i12 r13 s121 (bif (decide (s121p < List.length s121)) then s121p + (decL s121 s121p).2 else s121p)
 else none
 else
 k6 s0 chars1 width11 i12
def z63_l48 (m0 : Int) (ret : Int → Option AV) (k6 : List UInt8 → List UInt8 → Int → Int → Option AV) : Nat → List UInt8 → List UInt8 → Int → Int → Int → List UInt8 → Nat → Option AV
 | 0 => fun _ _ _ _ _ _ _ => none
 | n + 1 => (z63_l48_b m0) ret k6 ((z63_l48 m0) ret k6 n) n
def z63_k48_6 (m0 : Int) (_ret : Int → Option AV) (_k4 : Option AV) (next : List UInt8 → List UInt8 → Int → Option AV) (_n : Nat) (s0 : List UInt8) (chars1 : List UInt8) (width11 : Int) (i12 : Int) : Option AV :=
 next s0 chars1 (IntKind.wrap .i64 (i12 + width11))
def z63_l32_b (m0 : Int) (ret : Int → Option AV) (k4 : Option AV) (next : List UInt8 → List UInt8 → Int → Option AV) (n : Nat) (s0 : List UInt8) (chars1 : List UInt8) (i12 : Int) : Option AV :=
 bif (decide (i12 < ((List.length s0 : Nat) : Int))) then
 bif ((decide ((0 : Int) ≤ i12)) && (decide (i12 < (List.length s0 : Nat)))) then
 bif (decide ((IntKind.wrap .i32 ((UInt8.toNat (List.getD s0 (Int.toNat i12) (0 : UInt8)) : Nat) : Int)) < (128 : Int))) then
 bif ((decide ((0 : Int) ≤ i12)) && (decide (i12 < (List.length s0 : Nat)))) then
 bif (decide ((0 : Int) ≤ (z82 chars1 (List.getD s0 (Int.toNat i12) (0 : UInt8))))) then
 ret i12
 else
 next s0 chars1 (IntKind.wrap .i64 (i12 + (1 : Int)))
 else none
 else
 bif (((decide ((0 : Int) ≤ i12)) && (decide (i12 ≤ ((List.length s0 : Nat) : Int)))) && (decide (((List.length s0 : Nat) : Int) ≤ ((List.length s0 : Nat) : Int)))) then
 bif ((z86_ok (List.drop (Int.toNat i12) (List.take (Int.toNat ((List.length s0 : Nat) : Int)) s0))) && true) then
 bif (((z86 (List.drop (Int.toNat i12) (List.take (Int.toNat ((List.length s0 : Nat) : Int)) s0))).1) != (65533 : Int)) then
 bif (((List.length chars1 : Nat) : Int) == ((z86 (List.drop (Int.toNat i12) (List.take (Int.toNat ((List.length s0 : Nat) : Int)) s0))).2)) then
 bif (chars1 == (Utf8.encode ((z86 (List.drop (Int.toNat i12) (List.take (Int.toNat ((List.length s0 : Nat) : Int)) s0))).1)).data.toList) then
 ret i12
 else
 next s0 chars1 (IntKind.wrap .i64 (i12 + ((z86 (List.drop (Int.toNat i12) (List.take (Int.toNat ((List.length s0 : Nat) : Int)) s0))).2)))
 else
 bif (decide (((z86 (List.drop (Int.toNat i12) (List.take (Int.toNat ((List.length s0 : Nat) : Int)) s0))).2) ≤ m0)) then
 bif ((z87_ok m0 chars1 (Utf8.encode ((z86 (List.drop (Int.toNat i12) (List.take (Int.toNat ((List.length s0 : Nat) : Int)) s0))).1)).data.toList) && true) then
 bif (decide ((0 : Int) ≤ (z87 chars1 (Utf8.encode ((z86 (List.drop (Int.toNat i12) (List.take (Int.toNat ((List.length s0 : Nat) : Int)) s0))).1)).data.toList))) then
 ret i12
 else
 next s0 chars1 (IntKind.wrap .i64 (i12 + ((z86 (List.drop (Int.toNat i12) (List.take (Int.toNat ((List.length s0 : Nat) : Int)) s0))).2)))
 else none
 else
 (z63_l48 m0) ret ((z63_k48_6 m0) ret k4 next n) n s0 chars1 ((z86 (List.drop (Int.toNat i12) (List.take (Int.toNat ((List.length s0 : Nat) : Int)) s0))).2) i12 ((z86 (List.drop (Int.toNat i12) (List.take (Int.toNat ((List.length s0 : Nat) : Int)) s0))).1) chars1 0
 else
 (z63_l48 m0) ret ((z63_k48_6 m0) ret k4 next n) n s0 chars1 ((z86 (List.drop (Int.toNat i12) (List.take (Int.toNat ((List.length s0 : Nat) : Int)) s0))).2) i12 ((z86 (List.drop (Int.toNat i12) (List.take (Int.toNat ((List.length s0 : Nat) : Int)) s0))).1) chars1 0
 else none
 else none
 else none
 else
 k4
def z63_l32 (m0 : Int) (ret : Int → Option AV) (k4 : Option AV) : Nat → List UInt8 → List UInt8 → Int → Option AV
 | 0 => fun _ _ _ => none
 | n + 1 => (z63_l32_b m0) ret k4 ((z63_l32 m0) ret k4 n) n
def z63_k32_4 (m0 : Int) (_n : Nat) : Option AV :=
 z63_ret (-1 : Int)
def z63_sh (m0 : Int) (n : Nat) (s0 : List UInt8) (chars1 : List UInt8) : Option AV :=
 bif (chars1 == ([] : List UInt8)) then
 z63_ret (-1 : Int)
 else
 bif (((List.length s0 : Nat) : Int) == (1 : Int)) then
 bif ((decide ((0 : Int) ≤ (0 : Int))) && (decide ((0 : Int) < (List.length s0 : Nat)))) then
 bif (decide ((128 : Int) ≤ (IntKind.wrap .i32 ((UInt8.toNat (List.getD s0 (Int.toNat (0 : Int)) (0 : UInt8)) : Nat) : Int)))) then
 (z63_l7 m0) z63_ret ((z63_k7_0 m0) n) n chars1 0
 else
 bif ((decide ((0 : Int) ≤ (0 : Int))) && (decide ((0 : Int) < (List.length s0 : Nat)))) then
 bif (decide ((0 : Int) ≤ (z82 chars1 (List.getD s0 (Int.toNat (0 : Int)) (0 : UInt8))))) then
 z63_ret (0 : Int)
 else
 z63_ret (-1 : Int)
 else none
 else none
 else
 bif (((List.length chars1 : Nat) : Int) == (1 : Int)) then
 bif ((decide ((0 : Int) ≤ (0 : Int))) && (decide ((0 : Int) < (List.length chars1 : Nat)))) then
 bif (decide ((128 : Int) ≤ (IntKind.wrap .i32 ((UInt8.toNat (List.getD chars1 (Int.toNat (0 : Int)) (0 : UInt8)) : Nat) : Int)))) then
 bif ((z83_ok s0 (65533 : Int)) && true) then
 z63_ret (z83 s0 (65533 : Int))
 else none
 else
 bif ((z83_ok s0 (IntKind.wrap .i32 ((UInt8.toNat (List.getD chars1 (Int.toNat (0 : Int)) (0 : UInt8)) : Nat) : Int))) && true) then
 z63_ret (z83 s0 (IntKind.wrap .i32 ((UInt8.toNat (List.getD chars1 (Int.toNat (0 : Int)) (0 : UInt8)) : Nat) : Int)))
 else none
 else none
 else
 bif (z84 ((List.length s0 : Nat) : Int)) then
 bif ((z78_ok chars1) && true) then
 bif ((z78 chars1).2) then
 (z63_l24 m0) z63_ret ((z63_k24_2 m0) n) n ((z78 chars1).1) s0 ((List.length s0 : Nat) : Int) (0 : Int)
 else
 (z63_l32 m0) z63_ret ((z63_k32_4 m0) n) n s0 chars1 (0 : Int)
 else none
 else
 (z63_l32 m0) z63_ret ((z63_k32_4 m0) n) n s0 chars1 (0 : Int)
def z88_ret (s4 : Bool) : Option AV := some (.dat .bool s4 none)
def z88_sh (_n : Nat) (s0 : List UInt8) (prefix1 : List UInt8) : Option AV :=
 bif (decide (((List.length prefix1 : Nat) : Int) ≤ ((List.length s0 : Nat) : Int))) then
 bif (((decide ((0 : Int) ≤ ((0 : Nat) : Int))) && (decide (((0 : Nat) : Int) ≤ ((List.length prefix1 : Nat) : Int)))) && (decide (((List.length prefix1 : Nat) : Int) ≤ ((List.length s0 : Nat) : Int)))) then
 z88_ret (z66 (List.drop (Int.toNat ((0 : Nat) : Int)) (List.take (Int.toNat ((List.length prefix1 : Nat) : Int)) s0)) prefix1)
 else none
 else
 z88_ret false
def z64_ret (s2 : Int) : Option AV := some (.dat (.int .i64) s2 none)
def z64_sh (_n : Nat) (s0 : List UInt8) : Option AV :=
 bif (z88 s0 ([(13 : UInt8), (10 : UInt8)] : List UInt8)) then
 z64_ret (2 : Int)
 else
 bif (decide ((0 : Int) < ((List.length s0 : Nat) : Int))) then
 z64_ret (1 : Int)
 else
 z64_ret (0 : Int)
def z62_ret (V : Sigma Inv) (xv : Den V.1) (s36 : List UInt8) : Option AV := some (.tup [(.tup []), (.abs V.1 V.2 xv), (.pbox (.leaf (.sl .byte)) s36 none)])
def z62_l0_b (V : Sigma Inv) (ret : Den V.1 → List UInt8 → Option AV) (k0 : Den V.1 → List UInt8 → Option AV) (next : Den V.1 → List UInt8 → Option AV) (_n : Nat) (xv : Den V.1) (s36 : List UInt8) : Option AV :=
 bif (decide ((0 : Int) < ((List.length s36 : Nat) : Int))) then
 bif ((z63_ok s36 ([13, 10] : List UInt8)) && true) then
 bif (decide ((z63 s36 ([13, 10] : List UInt8)) < (0 : Int))) then
 bif (((decide ((0 : Int) ≤ ((List.length s36 : Nat) : Int))) && (decide (((List.length s36 : Nat) : Int) ≤ ((List.length s36 : Nat) : Int)))) && (decide (((List.length s36 : Nat) : Int) ≤ ((List.length s36 : Nat) : Int)))) then
 bif (((decide ((0 : Int) ≤ ((0 : Nat) : Int))) && (decide (((0 : Nat) : Int) ≤ ((List.length s36 : Nat) : Int)))) && (decide (((List.length s36 : Nat) : Int) ≤ ((List.length s36 : Nat) : Int)))) then
 bif (((decide ((0 : Int) ≤ ((List.length s36 : Nat) : Int))) && (decide (((List.length s36 : Nat) : Int) ≤ (IntKind.wrap .i64 (((List.length s36 : Nat) : Int) + (z64 (List.drop (Int.toNat ((List.length s36 : Nat) : Int)) (List.take (Int.toNat ((List.length s36 : Nat) : Int)) s36)))))))) && (decide ((IntKind.wrap .i64 (((List.length s36 : Nat) : Int) + (z64 (List.drop (Int.toNat ((List.length s36 : Nat) : Int)) (List.take (Int.toNat ((List.length s36 : Nat) : Int)) s36))))) ≤ ((List.length s36 : Nat) : Int)))) then
 bif (V.2.spec xv [⟨(.sl .byte), (List.drop (Int.toNat ((0 : Nat) : Int)) (List.take (Int.toNat ((List.length s36 : Nat) : Int)) s36))⟩, ⟨(.sl .byte), (List.drop (Int.toNat ((List.length s36 : Nat) : Int)) (List.take (Int.toNat (IntKind.wrap .i64 (((List.length s36 : Nat) : Int) + (z64 (List.drop (Int.toNat ((List.length s36 : Nat) : Int)) (List.take (Int.toNat ((List.length s36 : Nat) : Int)) s36)))))) s36))⟩]).1 then
 bif (!(V.2.spec xv [⟨(.sl .byte), (List.drop (Int.toNat ((0 : Nat) : Int)) (List.take (Int.toNat ((List.length s36 : Nat) : Int)) s36))⟩, ⟨(.sl .byte), (List.drop (Int.toNat ((List.length s36 : Nat) : Int)) (List.take (Int.toNat (IntKind.wrap .i64 (((List.length s36 : Nat) : Int) + (z64 (List.drop (Int.toNat ((List.length s36 : Nat) : Int)) (List.take (Int.toNat ((List.length s36 : Nat) : Int)) s36)))))) s36))⟩]).2.1) then
 ret (V.2.spec xv [⟨(.sl .byte), (List.drop (Int.toNat ((0 : Nat) : Int)) (List.take (Int.toNat ((List.length s36 : Nat) : Int)) s36))⟩, ⟨(.sl .byte), (List.drop (Int.toNat ((List.length s36 : Nat) : Int)) (List.take (Int.toNat (IntKind.wrap .i64 (((List.length s36 : Nat) : Int) + (z64 (List.drop (Int.toNat ((List.length s36 : Nat) : Int)) (List.take (Int.toNat ((List.length s36 : Nat) : Int)) s36)))))) s36))⟩]).2.2 s36
 else
 bif (((decide ((0 : Int) ≤ (IntKind.wrap .i64 (((List.length s36 : Nat) : Int) + (z64 (List.drop (Int.toNat ((List.length s36 : Nat) : Int)) (List.take (Int.toNat ((List.length s36 : Nat) : Int)) s36))))))) && (decide ((IntKind.wrap .i64 (((List.length s36 : Nat) : Int) + (z64 (List.drop (Int.toNat ((List.length s36 : Nat) : Int)) (List.take (Int.toNat ((List.length s36 : Nat) : Int)) s36))))) ≤ ((List.length s36 : Nat) : Int)))) && (decide (((List.length s36 : Nat) : Int) ≤ ((List.length s36 : Nat) : Int)))) then
 next (V.2.spec xv [⟨(.sl .byte), (List.drop (Int.toNat ((0 : Nat) : Int)) (List.take (Int.toNat ((List.length s36 : Nat) : Int)) s36))⟩, ⟨(.sl .byte), (List.drop (Int.toNat ((List.length s36 : Nat) : Int)) (List.take (Int.toNat (IntKind.wrap .i64 (((List.length s36 : Nat) : Int) + (z64 (List.drop (Int.toNat ((List.length s36 : Nat) : Int)) (List.take (Int.toNat ((List.length s36 : Nat) : Int)) s36)))))) s36))⟩]).2.2 (List.drop (Int.toNat (IntKind.wrap .i64 (((List.length s36 : Nat) : Int) + (z64 (List.drop (Int.toNat ((List.length s36 : Nat) : Int)) (List.take (Int.toNat ((List.length s36 : Nat) : Int)) s36)))))) (List.take (Int.toNat ((List.length s36 : Nat) : Int)) s36))
 else none
 else none
 else none
 else none
 else none
 else
 bif (((decide ((0 : Int) ≤ (z63 s36 ([13, 10] : List UInt8)))) && (decide ((z63 s36 ([13, 10] : List UInt8)) ≤ ((List.length s36 : Nat) : Int)))) && (decide (((List.length s36 : Nat) : Int) ≤ ((List.length s36 : Nat) : Int)))) then
 bif (((decide ((0 : Int) ≤ ((0 : Nat) : Int))) && (decide (((0 : Nat) : Int) ≤ (z63 s36 ([13, 10] : List UInt8))))) && (decide ((z63 s36 ([13, 10] : List UInt8)) ≤ ((List.length s36 : Nat) : Int)))) then
 bif (((decide ((0 : Int) ≤ (z63 s36 ([13, 10] : List UInt8)))) && (decide ((z63 s36 ([13, 10] : List UInt8)) ≤ (IntKind.wrap .i64 ((z63 s36 ([13, 10] : List UInt8)) + (z64 (List.drop (Int.toNat (z63 s36 ([13, 10] : List UInt8))) (List.take (Int.toNat ((List.length s36 : Nat) : Int)) s36)))))))) && (decide ((IntKind.wrap .i64 ((z63 s36 ([13, 10] : List UInt8)) + (z64 (List.drop (Int.toNat (z63 s36 ([13, 10] : List UInt8))) (List.take (Int.toNat ((List.length s36 : Nat) : Int)) s36))))) ≤ ((List.length s36 : Nat) : Int)))) then
 bif (V.2.spec xv [⟨(.sl .byte), (List.drop (Int.toNat ((0 : Nat) : Int)) (List.take (Int.toNat (z63 s36 ([13, 10] : List UInt8))) s36))⟩, ⟨(.sl .byte), (List.drop (Int.toNat (z63 s36 ([13, 10] : List UInt8))) (List.take (Int.toNat (IntKind.wrap .i64 ((z63 s36 ([13, 10] : List UInt8)) + (z64 (List.drop (Int.toNat (z63 s36 ([13, 10] : List UInt8))) (List.take (Int.toNat ((List.length s36 : Nat) : Int)) s36)))))) s36))⟩]).1 then
 bif (!(V.2.spec xv [⟨(.sl .byte), (List.drop (Int.toNat ((0 : Nat) : Int)) (List.take (Int.toNat (z63 s36 ([13, 10] : List UInt8))) s36))⟩, ⟨(.sl .byte), (List.drop (Int.toNat (z63 s36 ([13, 10] : List UInt8))) (List.take (Int.toNat (IntKind.wrap .i64 ((z63 s36 ([13, 10] : List UInt8)) + (z64 (List.drop (Int.toNat (z63 s36 ([13, 10] : List UInt8))) (List.take (Int.toNat ((List.length s36 : Nat) : Int)) s36)))))) s36))⟩]).2.1) then
 ret (V.2.spec xv [⟨(.sl .byte), (List.drop (Int.toNat ((0 : Nat) : Int)) (List.take (Int.toNat (z63 s36 ([13, 10] : List UInt8))) s36))⟩, ⟨(.sl .byte), (List.drop (Int.toNat (z63 s36 ([13, 10] : List UInt8))) (List.take (Int.toNat (IntKind.wrap .i64 ((z63 s36 ([13, 10] : List UInt8)) + (z64 (List.drop (Int.toNat (z63 s36 ([13, 10] : List UInt8))) (List.take (Int.toNat ((List.length s36 : Nat) : Int)) s36)))))) s36))⟩]).2.2 s36
 else
 bif (((decide ((0 : Int) ≤ (IntKind.wrap .i64 ((z63 s36 ([13, 10] : List UInt8)) + (z64 (List.drop (Int.toNat (z63 s36 ([13, 10] : List UInt8))) (List.take (Int.toNat ((List.length s36 : Nat) : Int)) s36))))))) && (decide ((IntKind.wrap .i64 ((z63 s36 ([13, 10] : List UInt8)) + (z64 (List.drop (Int.toNat (z63 s36 ([13, 10] : List UInt8))) (List.take (Int.toNat ((List.length s36 : Nat) : Int)) s36))))) ≤ ((List.length s36 : Nat) : Int)))) && (decide (((List.length s36 : Nat) : Int) ≤ ((List.length s36 : Nat) : Int)))) then
 next (V.2.spec xv [⟨(.sl .byte), (List.drop (Int.toNat ((0 : Nat) : Int)) (List.take (Int.toNat (z63 s36 ([13, 10] : List UInt8))) s36))⟩, ⟨(.sl .byte), (List.drop (Int.toNat (z63 s36 ([13, 10] : List UInt8))) (List.take (Int.toNat (IntKind.wrap .i64 ((z63 s36 ([13, 10] : List UInt8)) + (z64 (List.drop (Int.toNat (z63 s36 ([13, 10] : List UInt8))) (List.take (Int.toNat ((List.length s36 : Nat) : Int)) s36)))))) s36))⟩]).2.2 (List.drop (Int.toNat (IntKind.wrap .i64 ((z63 s36 ([13, 10] : List UInt8)) + (z64 (List.drop (Int.toNat (z63 s36 ([13, 10] : List UInt8))) (List.take (Int.toNat ((List.length s36 : Nat) : Int)) s36)))))) (List.take (Int.toNat ((List.length s36 : Nat) : Int)) s36))
 else none
 else none
 else none
 else none
 else none
 else none
 else
 k0 xv s36
def z62_l0 (V : Sigma Inv) (ret : Den V.1 → List UInt8 → Option AV) (k0 : Den V.1 → List UInt8 → Option AV) : Nat → Den V.1 → List UInt8 → Option AV
 | 0 => fun _ _ => none
 | n + 1 => (z62_l0_b V) ret k0 ((z62_l0 V) ret k0 n) n
def z62_k0_0 (V : Sigma Inv) (_n : Nat) (xv : Den V.1) (s36 : List UInt8) : Option AV :=
 (z62_ret V) xv s36
def z62_sh (V : Sigma Inv) (n : Nat) (x0 : Den V.1) (x1 : List UInt8) : Option AV :=
 (z62_l0 V) (z62_ret V) ((z62_k0_0 V) n) n x0 x1
def z48_sh (_n : Nat) (s0 : List UInt8) : Option AV :=
 some (.abs (prodSh [.leaf (.sl .byte)]) (clInv 62 [.leaf (.sl .byte)]) (s0, ()))
def z27_ret (s2 : List UInt8) : Option AV := some (.dat (.sl .byte) s2 none)
def z27_r5 (n : Nat) (x : Bool × (List UInt8) × Unit) (y0 : List UInt8) (y1 : List UInt8) : Bool × Bool × (Bool × (List UInt8) × Unit) :=
 bif x.1 then (false, false, x) else yfin (.pair (.sl .byte) .unit) x (
 bif ((z25_ok y0) && true) then
 bif (decide (List.length x.2.1 + List.length ((z25 y0).1) ≤ room)) then
 bif (!((z25 y0).2)) then
 bif (decide (List.length (x.2.1 ++ ((z25 y0).1)) + List.length y1 ≤ room)) then
 some (.dat (.pair .bool (.pair (.sl .byte) .unit)) (false, (((x.2.1 ++ ((z25 y0).1)) ++ y1), ())) none)
 else none
 else
 some (.dat (.pair .bool (.pair (.sl .byte) .unit)) (false, ((x.2.1 ++ ((z25 y0).1)), ())) none)
 else none
 else none)
def z27_sh (n : Nat) (s0 : List UInt8) : Option AV :=
 bif (z62 (z27_r5 n) (false, (([] : List UInt8), ())) s0).1 then
 bif (z62 (z27_r5 n) (false, (([] : List UInt8), ())) s0).2.1.1 then
 z27_ret ([] : List UInt8)
 else
 z27_ret (z62 (z27_r5 n) (false, (([] : List UInt8), ())) s0).2.1.2.1
 else none
def z31_ret (s2 : Int) : Option AV := some (.dat (.int .i64) s2 none)
def z31_r4 (n : Nat) (x : Bool × Int × Unit) (y0 : List UInt8) (y1 : List UInt8) : Bool × Bool × (Bool × Int × Unit) :=
 bif x.1 then (false, false, x) else yfin (.pair (.int .i64) .unit) x (
 bif ((z45_ok y0) && true) then
 bif ((z46_ok ((z45 y0).1)) && true) then
 some (.dat (.pair .bool (.pair (.int .i64) .unit)) (false, ((IntKind.wrap .i64 (x.2.1 + ((z46 ((z45 y0).1)).2))), ())) none)
 else none
 else none)
def z31_sh (n : Nat) (s0 : List UInt8) : Option AV :=
 bif (z62 (z31_r4 n) (false, ((0 : Int), ())) s0).1 then
 bif (z62 (z31_r4 n) (false, ((0 : Int), ())) s0).2.1.1 then
 z31_ret (0 : Int)
 else
 z31_ret (z62 (z31_r4 n) (false, ((0 : Int), ())) s0).2.1.2.1
 else none
def z24_ret (s0 : Bool) : Option AV := some (.dat .bool s0 none)
def z24_sh (_n : Nat) : Option AV :=
 bif ((z27_ok ([(97 : UInt8), (61 : UInt8), (32 : UInt8), (10 : UInt8), (61 : UInt8), (51 : UInt8), (100 : UInt8), (98 : UInt8)] : List UInt8)) && true) then
 bif ((z25_ok ([(61 : UInt8), (90 : UInt8), (61 : UInt8)] : List UInt8)) && true) then
 bif ((z27 ([(97 : UInt8), (61 : UInt8), (32 : UInt8), (10 : UInt8), (61 : UInt8), (51 : UInt8), (100 : UInt8), (98 : UInt8)] : List UInt8)) == ([97, 61, 98] : List UInt8)) then
 bif (((z25 ([(61 : UInt8), (90 : UInt8), (61 : UInt8)] : List UInt8)).1) == ([61, 90] : List UInt8)) then
 bif ((z25 ([(61 : UInt8), (90 : UInt8), (61 : UInt8)] : List UInt8)).2) then
 bif ((z31_ok ([(61 : UInt8), (90 : UInt8), (61 : UInt8)] : List UInt8)) && true) then
 z24_ret ((z31 ([(61 : UInt8), (90 : UInt8), (61 : UInt8)] : List UInt8)) == (1 : Int))
 else none
 else
 z24_ret false
 else
 z24_ret false
 else
 z24_ret false
 else none
 else none
def z33_ret (before4 : List UInt8) (after5 : List UInt8) (found6 : Bool) : Option AV := some (.tup [(.dat (.sl .byte) before4 none), (.dat (.sl .byte) after5 none), (.dat .bool found6 none)])
def z33_sh (_n : Nat) (s0 : List UInt8) (sep1 : List UInt8) : Option AV :=
 bif ((z49_ok s0 sep1) && true) then
 bif (decide ((0 : Int) ≤ (z49 s0 sep1))) then
 bif (((decide ((0 : Int) ≤ ((0 : Nat) : Int))) && (decide (((0 : Nat) : Int) ≤ (z49 s0 sep1)))) && (decide ((z49 s0 sep1) ≤ ((List.length s0 : Nat) : Int)))) then
 bif (((decide ((0 : Int) ≤ (IntKind.wrap .i64 ((z49 s0 sep1) + ((List.length sep1 : Nat) : Int))))) && (decide ((IntKind.wrap .i64 ((z49 s0 sep1) + ((List.length sep1 : Nat) : Int))) ≤ ((List.length s0 : Nat) : Int)))) && (decide (((List.length s0 : Nat) : Int) ≤ ((List.length s0 : Nat) : Int)))) then
 z33_ret (List.drop (Int.toNat ((0 : Nat) : Int)) (List.take (Int.toNat (z49 s0 sep1)) s0)) (List.drop (Int.toNat (IntKind.wrap .i64 ((z49 s0 sep1) + ((List.length sep1 : Nat) : Int)))) (List.take (Int.toNat ((List.length s0 : Nat) : Int)) s0)) true
 else none
 else none
 else
 z33_ret s0 ([] : List UInt8) false
 else none
def z71_ret (s4 : Bool) : Option AV := some (.dat .bool s4 none)
def z71_sh (_n : Nat) (b0 : List UInt8) (chars1 : List UInt8) : Option AV :=
 bif ((z63_ok b0 chars1) && true) then
 z71_ret (decide ((0 : Int) ≤ (z63 b0 chars1)))
 else none
def z51_ret (s2 : Bool) : Option AV := some (.dat .bool s2 none)
def z51_sh (_n : Nat) (s0 : List UInt8) : Option AV :=
 bif ((z71_ok s0 ([97, 98, 99, 100, 101, 102] : List UInt8)) && true) then
 z51_ret (!(z71 s0 ([97, 98, 99, 100, 101, 102] : List UInt8)))
 else none
def z34_ret (s2 : Bool) : Option AV := some (.dat .bool s2 none)
def z34_l2_b (ret : Bool → Option AV) (k0 : List UInt8 → Option AV) (next : List UInt8 → List UInt8 → Int → Int → Option AV) (_n : Nat) (l0 : List UInt8) (s7 : List UInt8) (s8 : Int) (s9 : Int) : Option AV :=
 bif (decide (s9 < s8)) then
 bif ((decide ((0 : Int) ≤ s9)) && (decide (s9 < (List.length s7 : Nat)))) then
 bif (!(z41 (List.getD s7 (Int.toNat s9) (0 : UInt8)) (6 : Int))) then
 ret false
 else
 bif ((List.getD s7 (Int.toNat s9) (0 : UInt8)) != (61 : UInt8)) then
 next l0 s7 s8 (IntKind.wrap .i64 (s9 + (1 : Int)))
 else
 bif (s9 == (IntKind.wrap .i64 (((List.length l0 : Nat) : Int) - (1 : Int)))) then
 next l0 s7 s8 (IntKind.wrap .i64 (s9 + (1 : Int)))
 else
 bif ((z50_ok l0 s9 (61 : UInt8)) && true) then
 bif (!((z50 l0 s9 (61 : UInt8)).2)) then
 ret false
 else
 bif (((decide ((0 : Int) ≤ (IntKind.wrap .i64 (s9 + (1 : Int))))) && (decide ((IntKind.wrap .i64 (s9 + (1 : Int))) ≤ (IntKind.wrap .i64 (s9 + (3 : Int)))))) && (decide ((IntKind.wrap .i64 (s9 + (3 : Int))) ≤ ((List.length l0 : Nat) : Int)))) then
 bif ((z51_ok (List.drop (Int.toNat (IntKind.wrap .i64 (s9 + (1 : Int)))) (List.take (Int.toNat (IntKind.wrap .i64 (s9 + (3 : Int)))) l0))) && true) then
 bif (!(z51 (List.drop (Int.toNat (IntKind.wrap .i64 (s9 + (1 : Int)))) (List.take (Int.toNat (IntKind.wrap .i64 (s9 + (3 : Int)))) l0)))) then
 ret false
 else
 next l0 s7 s8 (IntKind.wrap .i64 (s9 + (1 : Int)))
 else none
 else none
 else none
 else none
 else
 k0 l0
def z34_l2 (ret : Bool → Option AV) (k0 : List UInt8 → Option AV) : Nat → List UInt8 → List UInt8 → Int → Int → Option AV
 | 0 => fun _ _ _ _ => none
 | n + 1 => z34_l2_b ret k0 (z34_l2 ret k0 n) n
def z34_k2_0 (_n : Nat) (l0 : List UInt8) : Option AV :=
 bif (((List.length l0 : Nat) : Int) == (0 : Int)) then
 z34_ret true
 else
 bif ((decide ((0 : Int) ≤ (IntKind.wrap .i64 (((List.length l0 : Nat) : Int) - (1 : Int))))) && (decide ((IntKind.wrap .i64 (((List.length l0 : Nat) : Int) - (1 : Int))) < (List.length l0 : Nat)))) then
 z34_ret (!(z41 (List.getD l0 (Int.toNat (IntKind.wrap .i64 (((List.length l0 : Nat) : Int) - (1 : Int)))) (0 : UInt8)) (2 : Int)))
 else none
def z34_sh (n : Nat) (l0 : List UInt8) : Option AV :=
 z34_l2 z34_ret (z34_k2_0 n) n l0 l0 ((List.length l0 : Nat) : Int) (0 : Int)
def z12_ret (s2 : Int) : Option AV := some (.dat (.int .i64) s2 none)
def z12_l1_b (ret : Int → Option AV) (k0 : Option AV) (next : List UInt8 → Option AV) (_n : Nat) (s0 : List UInt8) : Option AV :=
 bif (decide ((0 : Int) < ((List.length s0 : Nat) : Int))) then
 bif ((z33_ok s0 ([(13 : UInt8), (10 : UInt8)] : List UInt8)) && true) then
 bif (decide ((76 : Int) < ((List.length ((z33 s0 ([(13 : UInt8), (10 : UInt8)] : List UInt8)).1) : Nat) : Int))) then
 ret (12 : Int)
 else
 bif (!((z33 s0 ([(13 : UInt8), (10 : UInt8)] : List UInt8)).2.2)) then
 ret (4 : Int)
 else
 bif ((z34_ok ((z33 s0 ([(13 : UInt8), (10 : UInt8)] : List UInt8)).1)) && true) then
 bif (!(z34 ((z33 s0 ([(13 : UInt8), (10 : UInt8)] : List UInt8)).1))) then
 ret (3 : Int)
 else
 next ((z33 s0 ([(13 : UInt8), (10 : UInt8)] : List UInt8)).2.1)
 else none
 else none
 else
 k0
def z12_l1 (ret : Int → Option AV) (k0 : Option AV) : Nat → List UInt8 → Option AV
 | 0 => fun _ => none
 | n + 1 => z12_l1_b ret k0 (z12_l1 ret k0 n) n
def z12_k1_0 (_n : Nat) : Option AV :=
 z12_ret (0 : Int)
def z12_sh (n : Nat) (s0 : List UInt8) : Option AV :=
 z12_l1 z12_ret (z12_k1_0 n) n s0
def z29_ret (s2 : List UInt8) (s3 : Int) : Option AV := some (.tup [(.dat (.sl .byte) s2 none), (.dat (.int .i64) s3 none)])
def z29_sh (_n : Nat) (s0 : List UInt8) : Option AV :=
 bif ((z12_ok s0) && true) then
 bif ((z12 s0) != (0 : Int)) then
 z29_ret ([] : List UInt8) (z12 s0)
 else
 bif ((z27_ok s0) && true) then
 z29_ret (z27 s0) (0 : Int)
 else none
 else none
def z75_ret (s2 : UInt8) : Option AV := some (.dat .byte s2 none)
def z75_sh (_n : Nat) (n0 : Int) : Option AV :=
 bif ((decide ((0 : Int) ≤ (bits .and .i64 n0 (15 : Int)))) && (decide ((bits .and .i64 n0 (15 : Int)) < (List.length ([48, 49, 50, 51, 52, 53, 54, 55, 56, 57, 65, 66, 67, 68, 69, 70] : List UInt8) : Nat)))) then
 z75_ret (List.getD ([48, 49, 50, 51, 52, 53, 54, 55, 56, 57, 65, 66, 67, 68, 69, 70] : List UInt8) (Int.toNat (bits .and .i64 n0 (15 : Int))) (0 : UInt8))
 else none
def z56_ret (s2 : List UInt8) : Option AV := some (.dat (.sl .byte) s2 (some (2, 5)))
def z56_sh (_n : Nat) (c0 : UInt8) : Option AV :=
 bif ((z75_ok (IntKind.wrap .i64 ((UInt8.toNat (UInt8.ofNat (UInt8.toNat c0 / 2 ^ (min (Int.toNat (4 : Int)) 8))) : Nat) : Int))) && true) then
 bif ((z75_ok (IntKind.wrap .i64 ((UInt8.toNat c0 : Nat) : Int))) && true) then
 z56_ret ([(z75 (IntKind.wrap .i64 ((UInt8.toNat (UInt8.ofNat (UInt8.toNat c0 / 2 ^ (min (Int.toNat (4 : Int)) 8))) : Nat) : Int))), (z75 (IntKind.wrap .i64 ((UInt8.toNat c0 : Nat) : Int)))] : List UInt8)
 else none
 else none
def z42_ret (s6 : List UInt8) : Option AV := some (.dat (.sl .byte) s6 (some (6, 5)))
def z42_sh (_n : Nat) (b0 : List UInt8) (sign1 : UInt8) (c2 : UInt8) : Option AV :=
 bif ((z55_ok b0) && true) then
 bif (decide (List.length (z55 b0) + List.length ([sign1] : List UInt8) ≤ room)) then
 bif (decide (List.length ((z55 b0) ++ ([sign1] : List UInt8)) + List.length (z56 c2) ≤ room)) then
 z42_ret (((z55 b0) ++ ([sign1] : List UInt8)) ++ (z56 c2))
 else none
 else none
 else none
def z22_ret (s4 : List UInt8) : Option AV := some (.dat (.sl .byte) s4 (some (4, 5)))
def z22_sh (_n : Nat) (c0 : UInt8) (ends1 : Bool) : Option AV :=
 bif (c0 != (61 : UInt8)) then
 bif (z41 c0 (4 : Int)) then
 z22_ret ([c0] : List UInt8)
 else
 bif (!ends1) then
 bif (z41 c0 (2 : Int)) then
 z22_ret ([c0] : List UInt8)
 else
 bif ((z42_ok ([] : List UInt8) (61 : UInt8) c0) && true) then
 z22_ret (z42 ([] : List UInt8) (61 : UInt8) c0)
 else none
 else
 bif ((z42_ok ([] : List UInt8) (61 : UInt8) c0) && true) then
 z22_ret (z42 ([] : List UInt8) (61 : UInt8) c0)
 else none
 else
 bif (!ends1) then
 bif (z41 c0 (2 : Int)) then
 z22_ret ([c0] : List UInt8)
 else
 bif ((z42_ok ([] : List UInt8) (61 : UInt8) c0) && true) then
 z22_ret (z42 ([] : List UInt8) (61 : UInt8) c0)
 else none
 else
 bif ((z42_ok ([] : List UInt8) (61 : UInt8) c0) && true) then
 z22_ret (z42 ([] : List UInt8) (61 : UInt8) c0)
 else none
def z40_ret (s25 : (List UInt8) × (Int × Unit)) : Option AV := some (.tup [(.tup []), (.pbox (.ppair (.osl 5 .byte) (.ppair (.leaf (.int .i64)) (.leaf .unit))) s25 none), .bad])
def z40_sh (_n : Nat) (p0 : (List UInt8) × (Int × Unit)) (soft1 : Bool) : Option AV :=
 bif soft1 then
 bif (decide (List.length p0.1 + List.length ([(61 : UInt8)] : List UInt8) ≤ room)) then
 bif (decide (List.length ((p0.1 ++ ([(61 : UInt8)] : List UInt8)), p0.2).1 + List.length ([13, 10] : List UInt8) ≤ room)) then
 z40_ret (((((p0.1 ++ ([(61 : UInt8)] : List UInt8)), p0.2).1 ++ ([13, 10] : List UInt8)), ((p0.1 ++ ([(61 : UInt8)] : List UInt8)), p0.2).2).1, ((0 : Int), ((((p0.1 ++ ([(61 : UInt8)] : List UInt8)), p0.2).1 ++ ([13, 10] : List UInt8)), ((p0.1 ++ ([(61 : UInt8)] : List UInt8)), p0.2).2).2.2))
 else none
 else none
 else
 bif (decide (List.length p0.1 + List.length ([13, 10] : List UInt8) ≤ room)) then
 z40_ret (((p0.1 ++ ([13, 10] : List UInt8)), p0.2).1, ((0 : Int), ((p0.1 ++ ([13, 10] : List UInt8)), p0.2).2.2))
 else none
def z38_ret (s32 : (List UInt8) × (Int × Unit)) : Option AV := some (.tup [(.tup []), (.pbox (.ppair (.osl 5 .byte) (.ppair (.leaf (.int .i64)) (.leaf .unit))) s32 none), .bad])
def z38_sh (_n : Nat) (p0 : (List UInt8) × (Int × Unit)) (u1 : List UInt8) : Option AV :=
 bif (decide ((75 : Int) < (IntKind.wrap .i64 (p0.2.1 + ((List.length u1 : Nat) : Int))))) then
 bif (z40_ok p0 true) then
 bif (decide (List.length (z40 p0 true).1 + List.length u1 ≤ room)) then
 z38_ret ((((z40 p0 true).1 ++ u1), (z40 p0 true).2).1, ((IntKind.wrap .i64 ((((z40 p0 true).1 ++ u1), (z40 p0 true).2).2.1 + ((List.length u1 : Nat) : Int))), (((z40 p0 true).1 ++ u1), (z40 p0 true).2).2.2))
 else none
 else none
 else
 bif (decide (List.length p0.1 + List.length u1 ≤ room)) then
 z38_ret (((p0.1 ++ u1), p0.2).1, ((IntKind.wrap .i64 (((p0.1 ++ u1), p0.2).2.1 + ((List.length u1 : Nat) : Int))), ((p0.1 ++ u1), p0.2).2.2))
 else none
def z39_ret (s4 : Int) : Option AV := some (.dat (.int .i64) s4 none)
def z39_sh (_n : Nat) (s0 : List UInt8) (at1 : Int) : Option AV :=
 bif (decide (((List.length s0 : Nat) : Int) ≤ at1)) then
 z39_ret (0 : Int)
 else
 bif ((decide ((0 : Int) ≤ at1)) && (decide (at1 < (List.length s0 : Nat)))) then
 bif ((List.getD s0 (Int.toNat at1) (0 : UInt8)) != (13 : UInt8)) then
 bif ((decide ((0 : Int) ≤ at1)) && (decide (at1 < (List.length s0 : Nat)))) then
 bif ((List.getD s0 (Int.toNat at1) (0 : UInt8)) != (10 : UInt8)) then
 z39_ret (0 : Int)
 else
 bif ((decide ((0 : Int) ≤ at1)) && (decide (at1 < (List.length s0 : Nat)))) then
 bif ((List.getD s0 (Int.toNat at1) (0 : UInt8)) == (13 : UInt8)) then
 bif (decide ((IntKind.wrap .i64 (at1 + (1 : Int))) < ((List.length s0 : Nat) : Int))) then
 bif ((decide ((0 : Int) ≤ (IntKind.wrap .i64 (at1 + (1 : Int))))) && (decide ((IntKind.wrap .i64 (at1 + (1 : Int))) < (List.length s0 : Nat)))) then
 bif ((List.getD s0 (Int.toNat (IntKind.wrap .i64 (at1 + (1 : Int)))) (0 : UInt8)) == (10 : UInt8)) then
 z39_ret (2 : Int)
 else
 z39_ret (1 : Int)
 else none
 else
 z39_ret (1 : Int)
 else
 z39_ret (1 : Int)
 else none
 else none
 else
 bif ((decide ((0 : Int) ≤ at1)) && (decide (at1 < (List.length s0 : Nat)))) then
 bif ((List.getD s0 (Int.toNat at1) (0 : UInt8)) == (13 : UInt8)) then
 bif (decide ((IntKind.wrap .i64 (at1 + (1 : Int))) < ((List.length s0 : Nat) : Int))) then
 bif ((decide ((0 : Int) ≤ (IntKind.wrap .i64 (at1 + (1 : Int))))) && (decide ((IntKind.wrap .i64 (at1 + (1 : Int))) < (List.length s0 : Nat)))) then
 bif ((List.getD s0 (Int.toNat (IntKind.wrap .i64 (at1 + (1 : Int)))) (0 : UInt8)) == (10 : UInt8)) then
 z39_ret (2 : Int)
 else
 z39_ret (1 : Int)
 else none
 else
 z39_ret (1 : Int)
 else
 z39_ret (1 : Int)
 else none
 else none
def z16_ret (s2 : List UInt8) : Option AV := some (.dat (.sl .byte) s2 none)
def z16_l4_b (k0 : (List UInt8) × (Int × Unit) → Option AV) (next : List UInt8 → (List UInt8) × (Int × Unit) → Int → Option AV) (_n : Nat) (s0 : List UInt8) (p3 : (List UInt8) × (Int × Unit)) (at5 : Int) : Option AV :=
 bif (decide (at5 < ((List.length s0 : Nat) : Int))) then
 bif ((z39_ok s0 at5) && true) then
 bif (decide ((0 : Int) < (z39 s0 at5))) then
 bif (z40_ok p3 false) then
 next s0 (z40 p3 false) (IntKind.wrap .i64 (at5 + (z39 s0 at5)))
 else none
 else
 bif ((decide ((0 : Int) ≤ at5)) && (decide (at5 < (List.length s0 : Nat)))) then
 bif ((z39_ok s0 (IntKind.wrap .i64 (at5 + (1 : Int)))) && true) then
 bif (z38_ok p3 (z22 (List.getD s0 (Int.toNat at5) (0 : UInt8)) (decide ((0 : Int) < (z39 s0 (IntKind.wrap .i64 (at5 + (1 : Int)))))))) then
 next s0 (z38 p3 (z22 (List.getD s0 (Int.toNat at5) (0 : UInt8)) (decide ((0 : Int) < (z39 s0 (IntKind.wrap .i64 (at5 + (1 : Int)))))))) (IntKind.wrap .i64 (at5 + (1 : Int)))
 else none
 else none
 else none
 else none
 else
 k0 p3
def z16_l4 (k0 : (List UInt8) × (Int × Unit) → Option AV) : Nat → List UInt8 → (List UInt8) × (Int × Unit) → Int → Option AV
 | 0 => fun _ _ _ => none
 | n + 1 => z16_l4_b k0 (z16_l4 k0 n) n
def z16_k4_0 (_n : Nat) (p3 : (List UInt8) × (Int × Unit)) : Option AV :=
 bif (decide ((0 : Int) < p3.2.1)) then
 bif (z40_ok p3 true) then
 z16_ret (z40 p3 true).1
 else none
 else
 z16_ret p3.1
def z16_sh (n : Nat) (s0 : List UInt8) : Option AV :=
 z16_l4 (z16_k4_0 n) n s0 (([] : List UInt8), ((0 : Int), ())) (0 : Int)
def z32_ret (s2 : List UInt8) : Option AV := some (.dat (.sl .byte) s2 none)
def z32_sh (_n : Nat) (s0 : List UInt8) : Option AV :=
 bif ((z27_ok s0) && true) then
 bif ((z16_ok (z27 s0)) && true) then
 z32_ret (z16 (z27 s0))
 else none
 else none
def z10_ret (s2 : Bool) : Option AV := some (.dat .bool s2 none)
def z10_sh (_n : Nat) (s0 : List UInt8) : Option AV :=
 bif (decide ((1000 : Int) < ((List.length s0 : Nat) : Int))) then
 z10_ret z24
 else
 bif ((z19_ok s0) && true) then
 bif ((z29_ok (z19 s0)) && true) then
 bif ((z21_ok s0) && true) then
 bif ((z18_ok ((z29 (z19 s0)).1) (z21 s0)) && true) then
 bif (z18 ((z29 (z19 s0)).1) (z21 s0)) then
 bif (((z29 (z19 s0)).2) == (0 : Int)) then
 bif ((z27_ok (z19 s0)) && true) then
 bif ((z18_ok (z27 (z19 s0)) ((z29 (z19 s0)).1)) && true) then
 bif (z18 (z27 (z19 s0)) ((z29 (z19 s0)).1)) then
 bif ((z32_ok (z19 s0)) && true) then
 bif ((z18_ok (z32 (z19 s0)) (z19 s0)) && true) then
 bif (z18 (z32 (z19 s0)) (z19 s0)) then
 bif ((z31_ok (z19 s0)) && true) then
 bif ((z31 (z19 s0)) == (0 : Int)) then
 z10_ret z24
 else
 z10_ret false
 else none
 else
 z10_ret false
 else none
 else none
 else
 z10_ret false
 else none
 else none
 else
 z10_ret false
 else
 z10_ret false
 else none
 else none
 else none
 else none
end
end Go.Av
