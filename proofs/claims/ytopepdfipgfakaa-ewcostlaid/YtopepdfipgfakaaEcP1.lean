/-
  The shallow readings compute what EcM says: octets and signs.
-/
import Derived.Test.YtopepdfipgfakaaEcSh
import Derived.Test.YtopepdfipgfakaaAvD
import Derived.IntWalk
import Derived.KernelRfl
namespace Go.Av
theorem dT {p : Prop} [Decidable p] (h : p) : decide p = true := decide_eq_true h
theorem dF {p : Prop} [Decidable p] (h : ¬ p) : decide p = false := decide_eq_false h
theorem tn (i : Nat) : Int.toNat (i : Int) = i := by simp
theorem lenOk_of {α : Type} {l : List α} (h : l.length ≤ 1048576) : lenOk l = true := by simpa [lenOk] using h
theorem fin_of {P : UInt8 → Prop} (h : ∀ i : Fin 256, P (UInt8.ofNat i.val)) (c : UInt8) : P c := by
  have := h ⟨c.toNat, c.toNat_lt⟩
  simpa using this
theorem bneT {a b : Int} (h : a ≠ b) : (a != b) = true := by simp [bne, h]
theorem bneF {a b : Int} (h : a = b) : (a != b) = false := by simp [h]
theorem beqT {a b : Int} (h : a = b) : (a == b) = true := by simp [h]
theorem beqF {a b : Int} (h : a ≠ b) : (a == b) = false := by simp [h]

theorem octet_plain_math : ∀ (c0 : UInt8), ∃ n, octet_plain_sh n c0 = octet_plain_ret (octet_plain c0) := fun c => ⟨0, by
  unfold octet_plain_sh octet_plain plainTail orI
  cases decide (c < (32 : UInt8)) <;> cases (c == (127 : UInt8)) <;> cases (c == (32 : UInt8)) <;> cases (c == (9 : UInt8)) <;> cases decide ((48 : UInt8) ≤ c) <;> cases decide (c ≤ (57 : UInt8)) <;> cases decide ((65 : UInt8) ≤ c) <;> cases decide (c ≤ (90 : UInt8)) <;> cases decide ((97 : UInt8) ≤ c) <;> cases decide (c ≤ (122 : UInt8)) <;> rfl⟩
theorem internal_stringslite_IndexByte_math : ∀ (s0 : List UInt8) (c1 : UInt8), ∃ n, internal_stringslite_IndexByte_sh n s0 c1 = internal_stringslite_IndexByte_ret (internal_stringslite_IndexByte s0 c1) := fun _ _ => ⟨0, rfl⟩
theorem strings_IndexByte_math : ∀ (s0 : List UInt8) (c1 : UInt8), ∃ n, strings_IndexByte_sh n s0 c1 = strings_IndexByte_ret (strings_IndexByte s0 c1) := fun _ _ => ⟨0, rfl⟩
theorem octet_in_math : ∀ (s0 : List UInt8) (c1 : UInt8), ∃ n, octet_in_sh n s0 c1 = octet_in_ret (octet_in s0 c1) := fun _ _ => ⟨0, rfl⟩
theorem octet_Kinds_math : ∀ (c0 : UInt8), ∃ n, octet_Kinds_sh n c0 = octet_Kinds_ret (octet_Kinds c0) := fun c => ⟨0, by
  unfold octet_Kinds_sh octet_Kinds kindIf orI
  cases decide (c < (33 : UInt8)) <;> cases decide ((126 : UInt8) < c) <;> cases octet_in [33, 42, 43, 45, 47] c <;> cases octet_in [43, 47] c <;> cases octet_in [40, 41, 60, 62, 64, 44, 59, 58, 92, 34, 47, 91, 93, 63, 61] c <;> cases octet_in [42, 39, 37] c <;> rfl⟩
theorem octet_Is_math : ∀ (c0 : UInt8) (kinds1 : Int), ∃ n, octet_Is_sh n c0 kinds1 = octet_Is_ret (octet_Is c0 kinds1) := fun _ _ => ⟨0, rfl⟩
theorem has_loop (ret : Bool → Option AV) (k0 : Option AV) (hk : k0 = ret false) (s : List UInt8) (c : UInt8) (hl : s.length ≤ 1048576) : ∀ (d i n : Nat), i + d = s.length → d < n →
    ref01_has_l2 ret k0 n s c (i : Nat) = ret ((s.drop i).contains c)
  | d, i, 0, hi, hn => by omega
  | 0, i, n + 1, hi, hn => by
    show ref01_has_l2_b ret k0 (ref01_has_l2 ret k0 n) n _ _ _ = _
    unfold ref01_has_l2_b
    rw [dF (by omega), cond_false, List.drop_eq_nil_of_le (by omega), hk]
    rfl
  | d + 1, i, n + 1, hi, hn => by
    show ref01_has_l2_b ret k0 (ref01_has_l2 ret k0 n) n _ _ _ = _
    unfold ref01_has_l2_b
    have hlt : i < s.length := by omega
    have ih := has_loop ret k0 hk s c hl d (i + 1) n (by omega) (by omega)
    rw [getD_drop (d := (0 : UInt8)) hlt, List.contains_cons]
    simp (disch := omega) only [dT, cond_true, Bool.and_true, tn, i64_succ]
    rw [ih, show (s.getD i 0 == c) = (c == s.getD i 0) from Bool.beq_comm]
    cases (c == s.getD i 0) <;> rfl
theorem ref01_has_math : ∀ (s0 : List UInt8) (c1 : UInt8), (ref01_has_ok s0 c1 = true) → ∃ n, ref01_has_sh n s0 c1 = ref01_has_ret (ref01_has s0 c1) := fun s c h => ⟨s.length + 1, by
  unfold ref01_has_sh
  have := has_loop ref01_has_ret (ref01_has_k2_0 (s.length + 1)) rfl s c (lenOk_le h) s.length 0 (s.length + 1) (by omega) (by omega)
  exact this⟩
theorem ref01_Is_math : ∀ (c0 : UInt8) (kinds1 : Int), ∃ n, ref01_Is_sh n c0 kinds1 = ref01_Is_ret (ref01_Is c0 kinds1) := fun _ _ => ⟨0, rfl⟩
theorem tmod16 (n : Int) : Int.tmod (Int.tmod n 16 + 16) 16 = n % 16 := by
  have h : Int.tmod n 16 = n % 16 ∨ Int.tmod n 16 = n % 16 - 16 := by
    rcases Int.le_total 0 n with h | h
    · exact .inl (Int.tmod_eq_emod_of_nonneg h)
    · have h2 : Int.tmod n 16 = -((-n) % 16) := by
        have := Int.neg_tmod (-n) 16
        rw [Int.neg_neg] at this
        rw [this, Int.tmod_eq_emod_of_nonneg (by omega)]
      omega
  have h3 : 0 ≤ Int.tmod n 16 + 16 := by omega
  rw [Int.tmod_eq_emod_of_nonneg h3]
  omega
theorem tmod16_range (n : Int) : -16 < Int.tmod n 16 ∧ Int.tmod n 16 < 16 := by
  have h : Int.tmod n 16 = n % 16 ∨ Int.tmod n 16 = n % 16 - 16 ∧ n % 16 ≠ 0 := by
    rcases Int.le_total 0 n with h | h
    · exact .inl (Int.tmod_eq_emod_of_nonneg h)
    · have h2 : Int.tmod n 16 = -((-n) % 16) := by
        have := Int.neg_tmod (-n) 16
        rw [Int.neg_neg] at this
        rw [this, Int.tmod_eq_emod_of_nonneg (by omega)]
      omega
  omega
theorem digits_small : ∀ j : Fin 16, (bif decide (((j.val : Nat) : Int) < 10) then UInt8.ofNat (Int.toNat (IntKind.wrap .u8 (IntKind.wrap .i64 ((48 : Int) + ((j.val : Nat) : Int)))))
    else UInt8.ofNat (Int.toNat (IntKind.wrap .u8 (IntKind.wrap .i64 ((IntKind.wrap .i64 ((65 : Int) + ((j.val : Nat) : Int))) - (10 : Int)))))) = List.getD hexD j.val 0 := by decide +kernel
theorem ref02_Digit_math : ∀ (n0 : Int), (ref02_Digit_ok n0 = true) → ∃ n, ref02_Digit_sh n n0 = ref02_Digit_ret (ref02_Digit n0) := fun n _ => ⟨0, by
  unfold ref02_Digit_sh ref02_Digit
  have hr := tmod16_range n
  rw [IntWalk.i64_in (Int.tmod n 16 + 16) (by omega), tmod16]
  have hj : (n % 16).toNat < 16 := by omega
  have := digits_small ⟨(n % 16).toNat, hj⟩
  simp only [Int.toNat_of_nonneg (show 0 ≤ n % 16 by omega)] at this
  rw [← this]
  cases decide (n % 16 < 10) <;> rfl⟩
theorem put_small : ∀ i : Fin 256, IntKind.wrap .i64 (Int.tdiv (IntKind.wrap .i64 ((UInt8.toNat (UInt8.ofNat i.val) : Nat) : Int)) (16 : Int)) = (((UInt8.ofNat i.val).toNat / 16 : Nat) : Int) ∧ Int.tmod (IntKind.wrap .i64 ((UInt8.toNat (UInt8.ofNat i.val) : Nat) : Int)) (16 : Int) = (((UInt8.ofNat i.val).toNat % 16 : Nat) : Int) ∧
    ref02_Digit_ok (((UInt8.ofNat i.val).toNat / 16 : Nat) : Int) = true ∧ ref02_Digit_ok (((UInt8.ofNat i.val).toNat % 16 : Nat) : Int) = true := by decide +kernel
theorem puts (c : UInt8) : IntKind.wrap .i64 (Int.tdiv (IntKind.wrap .i64 ((UInt8.toNat c : Nat) : Int)) (16 : Int)) = ((c.toNat / 16 : Nat) : Int) ∧ Int.tmod (IntKind.wrap .i64 ((UInt8.toNat c : Nat) : Int)) (16 : Int) = ((c.toNat % 16 : Nat) : Int) ∧
    ref02_Digit_ok ((c.toNat / 16 : Nat) : Int) = true ∧ ref02_Digit_ok ((c.toNat % 16 : Nat) : Int) = true := fin_of (P := fun c => IntKind.wrap .i64 (Int.tdiv (IntKind.wrap .i64 ((UInt8.toNat c : Nat) : Int)) (16 : Int)) = ((c.toNat / 16 : Nat) : Int) ∧ Int.tmod (IntKind.wrap .i64 ((UInt8.toNat c : Nat) : Int)) (16 : Int) = ((c.toNat % 16 : Nat) : Int) ∧
    ref02_Digit_ok ((c.toNat / 16 : Nat) : Int) = true ∧ ref02_Digit_ok ((c.toNat % 16 : Nat) : Int) = true) put_small c
theorem ref02_Put_math : ∀ (b0 : List UInt8) (sign1 : UInt8) (c2 : UInt8), (ref02_Put_ok b0 sign1 c2 = true) → ∃ n, ref02_Put_sh n b0 sign1 c2 = ref02_Put_ret (ref02_Put b0 sign1 c2) := fun b sign c h => ⟨0, by
  have hl := lenOk_le h
  obtain ⟨h1, h2, h3, h4⟩ := puts c
  unfold ref02_Put_sh ref02_Put
  rw [h1, h2, h3, h4, dT (by unfold room; simp; omega), Bool.and_true, cond_true, cond_true, dT (by unfold room; simp; omega), cond_true]
  rfl⟩
/-! ### signs -/
theorem scalar_Surrogate_math : ∀ (c0 : Int), ∃ n, scalar_Surrogate_sh n c0 = scalar_Surrogate_ret (scalar_Surrogate c0) := fun c => ⟨0, by
  unfold scalar_Surrogate_sh scalar_Surrogate
  cases decide ((55296 : Int) ≤ c) <;> rfl⟩
theorem scalar_Is_math : ∀ (c0 : Int), ∃ n, scalar_Is_sh n c0 = scalar_Is_ret (scalar_Is c0) := fun c => ⟨0, by
  unfold scalar_Is_sh scalar_Is
  cases decide (IntKind.wrap .u32 c ≤ 1114111) <;> rfl⟩
theorem scalar_First_1_math : ∀ (c0 : Int), ∃ n, scalar_First_1_sh n c0 = scalar_First_1_ret (scalar_First_1 c0) := fun _ => ⟨0, rfl⟩
theorem ref03_Surrogate_math : ∀ (c0 : Int), ∃ n, ref03_Surrogate_sh n c0 = ref03_Surrogate_ret (ref03_Surrogate c0) := fun c => ⟨0, by
  unfold ref03_Surrogate_sh ref03_Surrogate
  cases decide ((55296 : Int) ≤ c) <;> rfl⟩
theorem ref03_Is_math : ∀ (c0 : Int), ∃ n, ref03_Is_sh n c0 = ref03_Is_ret (ref03_Is c0) := fun c => ⟨0, by
  unfold ref03_Is_sh ref03_Is
  cases decide ((0 : Int) ≤ c) <;> cases decide (c ≤ (1114111 : Int)) <;> rfl⟩
/-- A loop that looks for the first place where p fails. -/
theorem lack_rule {t : List Int} {p : Int → Bool} {k0 : Option AV} {ret : Int → Option AV} {L : Nat → Int → Option AV} (hl : t.length ≤ 1048576)
    (hL : ∀ n (i : Nat), i < t.length → L (n + 1) (i : Int) = bif p (t.getD i 0) then L n ((i + 1 : Nat) : Int) else ret (i : Int)) (hE : ∀ n, L (n + 1) (t.length : Nat) = k0) :
    ∀ d i n : Nat, i + d = t.length → d < n → L n (i : Int) = bif lackAt p (t.drop i) i == -1 then k0 else ret (lackAt p (t.drop i) i)
  | d, i, 0, hi, hn => by omega
  | 0, i, n + 1, hi, hn => by
    obtain rfl : i = t.length := by omega
    rw [hE, List.drop_eq_nil_of_le (by omega)]
    rfl
  | d + 1, i, n + 1, hi, hn => by
    have hlt : i < t.length := by omega
    rw [hL n i hlt, lack_rule hl hL hE d (i + 1) n (by omega) (by omega), getD_drop (d := (0 : Int)) hlt]
    rw [show lackAt p (t.getD i 0 :: t.drop (i + 1)) (i : Int) = bif p (t.getD i 0) then lackAt p (t.drop (i + 1)) ((i + 1 : Nat) : Int) else (i : Int) from rfl]
    cases p (t.getD i 0) with
    | true => rfl
    | false =>
      have : ((i : Int) == -1) = false := by simp only [beq_eq_false_iff_ne, ne_eq]; omega
      simp [this]
theorem lack_top {p : Int → Bool} {t : List Int} {k0 : Option AV} {ret : Int → Option AV} {x : Option AV} (h : x = bif lackAt p (t.drop 0) (0 : Nat) == -1 then k0 else ret (lackAt p (t.drop 0) (0 : Nat))) (hk : k0 = ret (-1)) : x = ret (lackAt p t 0) := by
  rw [h, List.drop_zero]
  cases e : (lackAt p t (0 : Nat) == -1) with
  | true =>
    rw [beq_iff_eq] at e
    have e' : lackAt p t 0 = -1 := e
    rw [e', hk]
    rfl
  | false => rfl
theorem slices_Index___rune_rune__math : ∀ (s0 : List Int) (v1 : Int), (slices_Index___rune_rune__ok s0 v1 = true) → ∃ n, slices_Index___rune_rune__sh n s0 v1 = slices_Index___rune_rune__ret (slices_Index___rune_rune_ s0 v1) := fun t v h => ⟨t.length + 1, by
  have hl := lenOk_le (l := t) h
  unfold slices_Index___rune_rune__sh slices_Index___rune_rune_
  refine lack_top (lack_rule (L := fun n i => slices_Index___rune_rune__l2 slices_Index___rune_rune__ret (slices_Index___rune_rune__k2_0 (t.length + 1)) n t v ((t.length : Nat) : Int) i) hl (fun n i hi => ?_) (fun n => ?_) t.length 0 (t.length + 1) (by omega) (by omega)) rfl
  · show slices_Index___rune_rune__l2_b _ _ _ n _ _ _ _ = _
    unfold slices_Index___rune_rune__l2_b
    simp (disch := omega) only [dT, cond_true, Bool.and_true, tn, i64_succ]
    cases (v == t.getD i 0) <;> rfl
  · show slices_Index___rune_rune__l2_b _ _ _ n _ _ _ _ = _
    unfold slices_Index___rune_rune__l2_b
    rw [dF (by omega)]
    rfl⟩
end Go.Av
