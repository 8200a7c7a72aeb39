/-
  The shallow readings of the layer 'hexa' compute what HxM says: values, escapes, any of some octets.
-/
import Derived.Test.YtmbakokcfihafaaDoorHxP1
namespace Go.Av
theorem wrapByte (c : UInt8) : IntKind.wrap .i64 ((UInt8.toNat c : Nat) : Int) = ((UInt8.toNat c : Nat) : Int) := by
  have := c.toNat_lt
  exact IntWalk.i64_in _ (by omega)

theorem hexa_Value_math : ∀ (c0 : UInt8), ∃ n, hexa_Value_sh n c0 = hexa_Value_ret (hexa_Value c0).1 (hexa_Value c0).2 := fun c => ⟨0, by
  unfold hexa_Value_sh hexa_Value
  have h := (octet_Lower c - 97).toNat_lt
  rw [wrapByte, wrapByte, IntWalk.i64_in (((octet_Lower c - 97).toNat : Int) + 10) (by omega)]
  cases octet_Is (octet_Lower c) 8 <;> cases decide ((97 : UInt8) ≤ octet_Lower c) <;> cases decide (octet_Lower c ≤ (102 : UInt8)) <;> rfl⟩

theorem ref02_Value_loop (ret : Int → Bool → Option AV) (k0 : Option AV) (hk : k0 = ret 0 false) (c : UInt8) : ∀ (d : Nat) (i : Int) (n : Nat), i + d = 16 → 0 ≤ i → d < n →
    ref02_Value_l2 ret k0 n c i = ret (refVal d i c).1 (refVal d i c).2
  | d, i, 0, hi, h0, hn => by omega
  | 0, i, n + 1, hi, h0, hn => by
    show ref02_Value_l2_b ret k0 (ref02_Value_l2 ret k0 n) n c i = _
    unfold ref02_Value_l2_b
    rw [decide_eq_false (by omega), cond_false, hk]
    rfl
  | d + 1, i, n + 1, hi, h0, hn => by
    show ref02_Value_l2_b ret k0 (ref02_Value_l2 ret k0 n) n c i = _
    unfold ref02_Value_l2_b
    have hok : ref02_Digit_ok i = true := by unfold ref02_Digit_ok; rw [decide_eq_true_eq]; omega
    rw [decide_eq_true (by omega), cond_true, hok, IntWalk.i64_in (i + 1) (by omega), ref02_Value_loop ret k0 hk c d (i + 1) n (by omega) (by omega) (by omega)]
    show _ = ret (bif ref02_Digit i == c then (i, true) else bif decide ((10 : Int) ≤ i) && (ref02_Digit i + 32 == c) then (i, true) else refVal d (i + 1) c).1 (bif ref02_Digit i == c then (i, true) else bif decide ((10 : Int) ≤ i) && (ref02_Digit i + 32 == c) then (i, true) else refVal d (i + 1) c).2
    generalize refVal d (i + 1) c = z
    cases ref02_Digit i == c <;> cases decide ((10 : Int) ≤ i) <;> cases ref02_Digit i + 32 == c <;> rfl
theorem ref02_Value_math : ∀ (c0 : UInt8), ∃ n, ref02_Value_sh n c0 = ref02_Value_ret (ref02_Value c0).1 (ref02_Value c0).2 := fun c => ⟨17, ref02_Value_loop ref02_Value_ret (ref02_Value_k2_0 17) rfl c 16 0 17 (by omega) (by omega) (by omega)⟩

theorem value_same : ∀ i : Fin 256, hexa_Value (UInt8.ofNat i.val) = ref02_Value (UInt8.ofNat i.val) := by decide +kernel
theorem value_range' : ∀ i : Fin 256, 0 ≤ (hexa_Value (UInt8.ofNat i.val)).1 ∧ (hexa_Value (UInt8.ofNat i.val)).1 < 16 := by decide +kernel
theorem of_fin {P : UInt8 → Prop} (h : ∀ i : Fin 256, P (UInt8.ofNat i.val)) (c : UInt8) : P c := by
  have := h ⟨c.toNat, c.toNat_lt⟩
  simpa using this
theorem values (c : UInt8) : ref02_Value c = hexa_Value c := (of_fin (P := fun c => hexa_Value c = ref02_Value c) value_same c).symm
theorem value_range (c : UInt8) : 0 ≤ (hexa_Value c).1 ∧ (hexa_Value c).1 < 16 := of_fin (P := fun c => 0 ≤ (hexa_Value c).1 ∧ (hexa_Value c).1 < 16) value_range' c

theorem or_small : ∀ a b : Fin 16, UInt8.ofNat (Int.toNat (IntKind.wrap .u8 (bits .or .i64 (IntKind.wrap .i64 (((a.val : Nat) : Int) * 2 ^ (min (Int.toNat (4 : Int)) (IntKind.bits .i64)))) ((b.val : Nat) : Int)))) = UInt8.ofNat (Int.toNat (((a.val : Nat) : Int) * 16 + ((b.val : Nat) : Int))) := by decide +kernel
theorem sum_small : ∀ a b : Fin 16, UInt8.ofNat (Int.toNat (IntKind.wrap .u8 (IntKind.wrap .i64 ((IntKind.wrap .i64 ((16 : Int) * ((a.val : Nat) : Int))) + ((b.val : Nat) : Int))))) = UInt8.ofNat (Int.toNat (((a.val : Nat) : Int) * 16 + ((b.val : Nat) : Int))) := by decide +kernel
theorem two_fins {P : Int → Int → Prop} (h : ∀ a b : Fin 16, P ((a.val : Nat) : Int) ((b.val : Nat) : Int)) {x y : Int} (hx : 0 ≤ x ∧ x < 16) (hy : 0 ≤ y ∧ y < 16) : P x y := by
  have := h ⟨x.toNat, by omega⟩ ⟨y.toNat, by omega⟩
  simp only [Int.toNat_of_nonneg hx.1, Int.toNat_of_nonneg hy.1] at this
  exact this

theorem hexa_pair_math : ∀ (a0 : UInt8) (b1 : UInt8), ∃ n, hexa_pair_sh n a0 b1 = hexa_pair_ret (hexa_pair a0 b1).1 (hexa_pair a0 b1).2 := fun a b => ⟨0, by
  unfold hexa_pair_sh hexa_pair
  have h := two_fins (P := fun x y => UInt8.ofNat (Int.toNat (IntKind.wrap .u8 (bits .or .i64 (IntKind.wrap .i64 (x * 2 ^ (min (Int.toNat (4 : Int)) (IntKind.bits .i64)))) y))) = UInt8.ofNat (Int.toNat (x * 16 + y))) or_small (value_range a) (value_range b)
  rw [← h]
  cases (hexa_Value a).2 <;> cases (hexa_Value b).2 <;> rfl⟩

theorem take_common (s : List UInt8) (at1 : Int) (hl : s.length ≤ 1048576) (h0 : ¬ at1 < 0) (h1 : ¬ IntKind.wrap .i64 (((List.length s : Nat) : Int) - 3) < at1) : ∃ i : Nat, at1 = i ∧ i + 2 < s.length := by
  rw [IntWalk.i64_in _ (by omega)] at h1
  exact ⟨at1.toNat, by omega, by omega⟩

theorem hexa_Take_math : ∀ (s0 : List UInt8) (at1 : Int) (sign2 : UInt8), (hexa_Take_ok s0 at1 sign2 = true) → ∃ n, hexa_Take_sh n s0 at1 sign2 = hexa_Take_ret (hexa_Take s0 at1 sign2).1 (hexa_Take s0 at1 sign2).2 := fun s at1 sign h => ⟨0, by
  have hl := lenOk_le h
  unfold hexa_Take_sh hexa_Take
  by_cases h0 : at1 < 0
  · rw [decide_eq_true h0, decide_eq_false (show ¬ 0 ≤ at1 by omega)]; rfl
  by_cases h1 : IntKind.wrap .i64 (((List.length s : Nat) : Int) - 3) < at1
  · have h2 : ¬ at1 ≤ (s.length : Int) - 3 := by rw [IntWalk.i64_in _ (by omega)] at h1; omega
    rw [decide_eq_false h0, decide_eq_true h1, decide_eq_false h2, Bool.and_false]; rfl
  obtain ⟨i, rfl, hi⟩ := take_common s at1 hl h0 h1
  rw [decide_eq_false h0, decide_eq_false h1, cond_false, cond_false, dec_nonneg, dec_lt, decide_eq_true (show i < s.length by omega), Bool.and_true, cond_true, toNat_nat, i64_succ (by omega),
    show IntKind.wrap .i64 ((i : Int) + 2) = ((i + 2 : Nat) : Int) by rw [IntWalk.i64_in _ (by omega)]; omega, dec_nonneg, dec_nonneg, dec_lt, dec_lt, decide_eq_true (show i + 1 < s.length by omega), decide_eq_true hi, toNat_nat, toNat_nat,
    decide_eq_true (show (i : Int) ≤ (s.length : Int) - 3 by omega), Bool.and_true, cond_true]
  unfold takeAt
  cases he : (List.getD s i 0 == sign) with
  | true => rw [show (List.getD s i 0 != sign) = false by simp only [bne, he, Bool.not_true]]; rfl
  | false => rw [show (List.getD s i 0 != sign) = true by simp only [bne, he, Bool.not_false]]; rfl⟩

theorem ref02_Take_math : ∀ (s0 : List UInt8) (at1 : Int) (sign2 : UInt8), (ref02_Take_ok s0 at1 sign2 = true) → ∃ n, ref02_Take_sh n s0 at1 sign2 = ref02_Take_ret (ref02_Take s0 at1 sign2).1 (ref02_Take s0 at1 sign2).2 := fun s at1 sign h => ⟨0, by
  have hl := lenOk_le h
  unfold ref02_Take_sh ref02_Take hexa_Take
  by_cases h0 : at1 < 0
  · rw [decide_eq_true h0, decide_eq_false (show ¬ 0 ≤ at1 by omega)]; rfl
  by_cases h1 : IntKind.wrap .i64 (((List.length s : Nat) : Int) - 3) < at1
  · have h2 : ¬ at1 ≤ (s.length : Int) - 3 := by rw [IntWalk.i64_in _ (by omega)] at h1; omega
    rw [decide_eq_false h0, decide_eq_true h1, decide_eq_false h2, Bool.and_false]; rfl
  obtain ⟨i, rfl, hi⟩ := take_common s at1 hl h0 h1
  rw [decide_eq_false h0, decide_eq_false h1, cond_false, cond_false, dec_nonneg, dec_lt, decide_eq_true (show i < s.length by omega), Bool.and_true, cond_true, toNat_nat, i64_succ (by omega),
    show IntKind.wrap .i64 ((i : Int) + 2) = ((i + 2 : Nat) : Int) by rw [IntWalk.i64_in _ (by omega)]; omega, dec_nonneg, dec_nonneg, dec_lt, dec_lt, decide_eq_true (show i + 1 < s.length by omega), decide_eq_true hi, toNat_nat, toNat_nat,
    decide_eq_true (show (i : Int) ≤ (s.length : Int) - 3 by omega), Bool.and_true, cond_true]
  rw [values, values]
  have h := two_fins (P := fun x y => UInt8.ofNat (Int.toNat (IntKind.wrap .u8 (IntKind.wrap .i64 ((IntKind.wrap .i64 ((16 : Int) * x)) + y)))) = UInt8.ofNat (Int.toNat (x * 16 + y))) sum_small (value_range (List.getD s (i + 1) 0)) (value_range (List.getD s (i + 2) 0))
  rw [h]
  unfold takeAt hexa_pair
  cases he : (List.getD s i 0 == sign) with
  | true =>
    rw [show (List.getD s i 0 != sign) = false by simp only [bne, he, Bool.not_true]]
    cases (hexa_Value (List.getD s (i + 1) 0)).2 <;> cases (hexa_Value (List.getD s (i + 2) 0)).2 <;> rfl
  | false => rw [show (List.getD s i 0 != sign) = true by simp only [bne, he, Bool.not_false]]; rfl⟩

theorem both_small : ∀ i : Fin 256, [hexa_Digit (IntKind.wrap .i64 ((UInt8.toNat (UInt8.ofNat (UInt8.toNat (UInt8.ofNat i.val) / 2 ^ (min (Int.toNat (4 : Int)) 8))) : Nat) : Int)), hexa_Digit (IntKind.wrap .i64 ((UInt8.toNat (UInt8.ofNat i.val) : Nat) : Int))] = hexa_both (UInt8.ofNat i.val) := by decide +kernel
theorem refboth_small : ∀ i : Fin 256, [ref02_Digit (IntKind.wrap .i64 (Int.tdiv (IntKind.wrap .i64 ((UInt8.toNat (UInt8.ofNat i.val) : Nat) : Int)) (16 : Int))), ref02_Digit (Int.tmod (IntKind.wrap .i64 ((UInt8.toNat (UInt8.ofNat i.val) : Nat) : Int)) (16 : Int))] = hexa_both (UInt8.ofNat i.val) := by decide +kernel
theorem refok_small : ∀ i : Fin 256, ref02_Digit_ok (IntKind.wrap .i64 (Int.tdiv (IntKind.wrap .i64 ((UInt8.toNat (UInt8.ofNat i.val) : Nat) : Int)) (16 : Int))) = true ∧ ref02_Digit_ok (Int.tmod (IntKind.wrap .i64 ((UInt8.toNat (UInt8.ofNat i.val) : Nat) : Int)) (16 : Int)) = true ∧
    hexa_Digit_ok (IntKind.wrap .i64 ((UInt8.toNat (UInt8.ofNat (UInt8.toNat (UInt8.ofNat i.val) / 2 ^ (min (Int.toNat (4 : Int)) 8))) : Nat) : Int)) = true ∧ hexa_Digit_ok (IntKind.wrap .i64 ((UInt8.toNat (UInt8.ofNat i.val) : Nat) : Int)) = true := by decide +kernel
theorem boths (c : UInt8) : [hexa_Digit (IntKind.wrap .i64 ((UInt8.toNat (UInt8.ofNat (UInt8.toNat c / 2 ^ (min (Int.toNat (4 : Int)) 8))) : Nat) : Int)), hexa_Digit (IntKind.wrap .i64 ((UInt8.toNat c : Nat) : Int))] = hexa_both c := of_fin (P := fun c => [hexa_Digit (IntKind.wrap .i64 ((UInt8.toNat (UInt8.ofNat (UInt8.toNat c / 2 ^ (min (Int.toNat (4 : Int)) 8))) : Nat) : Int)), hexa_Digit (IntKind.wrap .i64 ((UInt8.toNat c : Nat) : Int))] = hexa_both c) both_small c
theorem refboths (c : UInt8) : [ref02_Digit (IntKind.wrap .i64 (Int.tdiv (IntKind.wrap .i64 ((UInt8.toNat c : Nat) : Int)) (16 : Int))), ref02_Digit (Int.tmod (IntKind.wrap .i64 ((UInt8.toNat c : Nat) : Int)) (16 : Int))] = hexa_both c := of_fin (P := fun c => [ref02_Digit (IntKind.wrap .i64 (Int.tdiv (IntKind.wrap .i64 ((UInt8.toNat c : Nat) : Int)) (16 : Int))), ref02_Digit (Int.tmod (IntKind.wrap .i64 ((UInt8.toNat c : Nat) : Int)) (16 : Int))] = hexa_both c) refboth_small c
theorem refoks (c : UInt8) : ref02_Digit_ok (IntKind.wrap .i64 (Int.tdiv (IntKind.wrap .i64 ((UInt8.toNat c : Nat) : Int)) (16 : Int))) = true ∧ ref02_Digit_ok (Int.tmod (IntKind.wrap .i64 ((UInt8.toNat c : Nat) : Int)) (16 : Int)) = true ∧
    hexa_Digit_ok (IntKind.wrap .i64 ((UInt8.toNat (UInt8.ofNat (UInt8.toNat c / 2 ^ (min (Int.toNat (4 : Int)) 8))) : Nat) : Int)) = true ∧ hexa_Digit_ok (IntKind.wrap .i64 ((UInt8.toNat c : Nat) : Int)) = true := of_fin (P := fun c => ref02_Digit_ok (IntKind.wrap .i64 (Int.tdiv (IntKind.wrap .i64 ((UInt8.toNat c : Nat) : Int)) (16 : Int))) = true ∧ ref02_Digit_ok (Int.tmod (IntKind.wrap .i64 ((UInt8.toNat c : Nat) : Int)) (16 : Int)) = true ∧
    hexa_Digit_ok (IntKind.wrap .i64 ((UInt8.toNat (UInt8.ofNat (UInt8.toNat c / 2 ^ (min (Int.toNat (4 : Int)) 8))) : Nat) : Int)) = true ∧ hexa_Digit_ok (IntKind.wrap .i64 ((UInt8.toNat c : Nat) : Int)) = true) refok_small c

theorem hexa_both_math : ∀ (c0 : UInt8), ∃ n, hexa_both_sh n c0 = hexa_both_ret (hexa_both c0) := fun c => ⟨0, by
  obtain ⟨_, _, h1, h2⟩ := refoks c
  unfold hexa_both_sh
  rw [h1, h2, boths]
  rfl⟩
theorem hexa_Put_math : ∀ (b0 : List UInt8) (sign1 : UInt8) (c2 : UInt8), (hexa_Put_ok b0 sign1 c2 = true) → ∃ n, hexa_Put_sh n b0 sign1 c2 = hexa_Put_ret (hexa_Put b0 sign1 c2) := fun b sign c h => ⟨0, by
  have hl := lenOk_le h
  unfold hexa_Put_sh hexa_Put bytes_Clone_ok bytes_Clone
  rw [show lenOk b = true from h, Bool.and_true, cond_true, decide_eq_true (by unfold room; simp; omega), cond_true, decide_eq_true (by unfold room hexa_both; simp; omega), cond_true, List.append_assoc]
  rfl⟩
theorem ref02_Put_math : ∀ (b0 : List UInt8) (sign1 : UInt8) (c2 : UInt8), (ref02_Put_ok b0 sign1 c2 = true) → ∃ n, ref02_Put_sh n b0 sign1 c2 = ref02_Put_ret (ref02_Put b0 sign1 c2) := fun b sign c h => ⟨0, by
  have hl := lenOk_le h
  obtain ⟨h1, h2, _, _⟩ := refoks c
  unfold ref02_Put_sh ref02_Put
  rw [h1, h2, decide_eq_true (by unfold room; simp; omega), Bool.and_true, cond_true, cond_true, decide_eq_true (by unfold room; simp; omega), cond_true, ← refboths c]
  rfl⟩
end Go.Av
