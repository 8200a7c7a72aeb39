/-
  The library's small functions, escapes and lines: as in the layers that they were read for first.
-/
import Derived.Test.YtejhjmmdachijaaDoorQpSh
import Derived.Test.YtejhjmmdachijaaDoorAvD
import Derived.Lib.IndexAny
import Derived.Lib.IndexMore
import Derived.Lib.IndexBytes
import Derived.IntWalk
import Derived.KernelRfl
namespace Go.Av
theorem and15 (n : Int) : bits .and .i64 n 15 = n % 16 := by
  have h : (BitVec.ofInt 64 n &&& BitVec.ofInt 64 15).toNat = (n % 16).toNat := by
    rw [BitVec.toNat_and]
    have h1 : (BitVec.ofInt 64 15).toNat = 2 ^ 4 - 1 := by decide
    rw [h1, Nat.and_two_pow_sub_one_eq_mod, BitVec.toNat_ofInt]
    omega
  show IntKind.wrap .i64 (((BitVec.ofInt 64 n &&& BitVec.ofInt 64 15).toNat : Nat) : Int) = _
  rw [h, IntWalk.i64_in _ (by omega)]
  omega

theorem hexa_Digit_math : ∀ (n0 : Int), (hexa_Digit_ok n0 = true) → ∃ n, hexa_Digit_sh n n0 = hexa_Digit_ret (hexa_Digit n0) := fun n _ => ⟨0, by
  unfold hexa_Digit_sh hexa_Digit
  rw [and15]
  have h0 : (0 : Int) ≤ n % 16 := by omega
  have h1 : n % 16 < (((([48, 49, 50, 51, 52, 53, 54, 55, 56, 57, 65, 66, 67, 68, 69, 70] : List UInt8).length : Nat)) : Int) := by simp; omega
  rw [decide_eq_true h0, decide_eq_true h1]
  rfl⟩

theorem tmod16 (n : Int) : Int.tmod (Int.tmod n 16 + 16) 16 = n % 16 := by
  have h : Int.tmod n 16 = n % 16 ∨ Int.tmod n 16 = n % 16 - 16 := by
    rcases Int.le_total 0 n with h | h
    · exact .inl (Int.tmod_eq_emod_of_nonneg h)
    · have h2 : Int.tmod n 16 = -((-n) % 16) := by
        have := Int.neg_tmod (-n) 16
        rw [Int.neg_neg] at this
        rw [this, Int.tmod_eq_emod_of_nonneg (by omega)]
      omega
  have h3 : 0 ≤ Int.tmod n 16 + 16 := by omega
  rw [Int.tmod_eq_emod_of_nonneg h3]
  omega
theorem tmod16_range (n : Int) : -16 < Int.tmod n 16 ∧ Int.tmod n 16 < 16 := by
  have h : Int.tmod n 16 = n % 16 ∨ Int.tmod n 16 = n % 16 - 16 ∧ n % 16 ≠ 0 := by
    rcases Int.le_total 0 n with h | h
    · exact .inl (Int.tmod_eq_emod_of_nonneg h)
    · have h2 : Int.tmod n 16 = -((-n) % 16) := by
        have := Int.neg_tmod (-n) 16
        rw [Int.neg_neg] at this
        rw [this, Int.tmod_eq_emod_of_nonneg (by omega)]
      omega
  omega

theorem digits_small : ∀ j : Fin 16, (bif decide (((j.val : Nat) : Int) < 10) then UInt8.ofNat (Int.toNat (IntKind.wrap .u8 (IntKind.wrap .i64 ((48 : Int) + ((j.val : Nat) : Int)))))
    else UInt8.ofNat (Int.toNat (IntKind.wrap .u8 (IntKind.wrap .i64 ((IntKind.wrap .i64 ((65 : Int) + ((j.val : Nat) : Int))) - (10 : Int)))))) = List.getD hexD j.val 0 := by decide +kernel

theorem ref02_Digit_math : ∀ (n0 : Int), (ref02_Digit_ok n0 = true) → ∃ n, ref02_Digit_sh n n0 = ref02_Digit_ret (ref02_Digit n0) := fun n _ => ⟨0, by
  unfold ref02_Digit_sh ref02_Digit
  have hr := tmod16_range n
  rw [IntWalk.i64_in (Int.tmod n 16 + 16) (by omega), tmod16]
  have hj : (n % 16).toNat < 16 := by omega
  have := digits_small ⟨(n % 16).toNat, hj⟩
  simp only [Int.toNat_of_nonneg (show 0 ≤ n % 16 by omega)] at this
  rw [← this]
  cases decide (n % 16 < 10) <;> rfl⟩

theorem octet_Lower_math : ∀ (c0 : UInt8), ∃ n, octet_Lower_sh n c0 = octet_Lower_ret (octet_Lower c0) := fun c => ⟨0, by
  unfold octet_Lower_sh octet_Lower
  cases decide ((65 : UInt8) ≤ c) <;> cases decide (c ≤ (90 : UInt8)) <;> rfl⟩
theorem like_drop {α : Type} [DecidableEq α] {a b : List α} {i : Nat} (ha : i < a.length) (hb : i < b.length) (d : α) : decide (a.drop i = b.drop i) = bif a.getD i d != b.getD i d then false else decide (a.drop (i + 1) = b.drop (i + 1)) := by
  rw [getD_drop (d := d) ha, getD_drop (d := d) hb]
  generalize a.getD i d = x
  generalize b.getD i d = y
  by_cases h : x = y
  · subst h; simp
  · simp [h]

theorem ref01_Like_loop (ret : Bool → Option AV) (a b : List UInt8) (hab : a.length = b.length) (hl : a.length ≤ 1048576) : ∀ (d i n : Nat), i + d = a.length → d < n →
    ref01_Like_l4 ret (ret true) n a b (i : Nat) = ret (decide (a.drop i = b.drop i))
  | d, i, 0, hi, hn => by omega
  | 0, i, n + 1, hi, hn => by
    show ref01_Like_l4_b ret (ret true) (ref01_Like_l4 ret (ret true) n) n a b _ = _
    unfold ref01_Like_l4_b
    rw [decide_eq_false (by omega), cond_false, List.drop_eq_nil_of_le (by omega), List.drop_eq_nil_of_le (by omega)]
    rfl
  | d + 1, i, n + 1, hi, hn => by
    show ref01_Like_l4_b ret (ret true) (ref01_Like_l4 ret (ret true) n) n a b _ = _
    unfold ref01_Like_l4_b
    have hlt : i < a.length := by omega
    have hlt' : i < b.length := by omega
    have ih := ref01_Like_loop ret a b hab hl d (i + 1) n (by omega) (by omega)
    rw [dec_lt, decide_eq_true hlt, cond_true, dec_nonneg, Bool.true_and, cond_true, Bool.true_and, dec_lt, decide_eq_true hlt', cond_true, i64_succ (by omega), toNat_nat, ih, like_drop hlt hlt' 0]
    cases (a.getD i 0 != b.getD i 0) <;> rfl

theorem ref01_Like_math : ∀ (a0 : List UInt8) (b1 : List UInt8), (ref01_Like_ok a0 b1 = true) → ∃ n, ref01_Like_sh n a0 b1 = ref01_Like_ret (ref01_Like a0 b1) := fun a b h => ⟨a.length + 1, by
  unfold ref01_Like_sh ref01_Like
  by_cases hab : a.length = b.length
  · rw [show (((a.length : Nat) : Int) != ((b.length : Nat) : Int)) = false by simp [hab], cond_false]
    exact ref01_Like_loop ref01_Like_ret a b hab (lenOk_le h) a.length 0 (a.length + 1) (by omega) (by omega)
  · rw [show (((a.length : Nat) : Int) != ((b.length : Nat) : Int)) = true by simp only [bne_iff_ne, ne_eq]; omega, cond_true, decide_eq_false (fun e => hab (by rw [e]))]⟩

theorem bytes_shouldUseASCIISet_math : ∀ (bufLen0 : Int), ∃ n, bytes_shouldUseASCIISet_sh n bufLen0 = bytes_shouldUseASCIISet_ret (bytes_shouldUseASCIISet bufLen0) := fun _ => ⟨0, rfl⟩

theorem byte_lt256 (c : UInt8) : decide (((UInt8.toNat c : Nat) : Int) < (256 : Nat)) = true := by
  have := c.toNat_lt
  rw [decide_eq_true]
  omega

theorem makeASCIISet_loop (ret : List Bool → Bool → Option AV) (k0 : List Bool → Option AV) (cs : List UInt8) (ha : ascii cs = true) (hl : cs.length ≤ 1048576) : ∀ (d i n : Nat) (a : List Bool), i + d = cs.length → d < n →
    bytes_makeASCIISet_l2 ret k0 n cs a (i : Nat) = k0 (setOf (cs.drop i) a)
  | d, i, 0, a, hi, hn => by omega
  | 0, i, n + 1, a, hi, hn => by
    show bytes_makeASCIISet_l2_b ret k0 (bytes_makeASCIISet_l2 ret k0 n) n cs a _ = _
    unfold bytes_makeASCIISet_l2_b
    rw [decide_eq_false (by omega), cond_false, List.drop_eq_nil_of_le (by omega)]
    rfl
  | d + 1, i, n + 1, a, hi, hn => by
    show bytes_makeASCIISet_l2_b ret k0 (bytes_makeASCIISet_l2 ret k0 n) n cs a _ = _
    unfold bytes_makeASCIISet_l2_b
    have hlt : i < cs.length := by omega
    have hc : decide ((128 : UInt8) ≤ List.getD cs i 0) = false := by
      unfold ascii at ha
      rw [List.all_eq_true] at ha
      have := ha (cs.getD i 0) (by simp [List.getD, hlt])
      rw [decide_eq_false_iff_not]
      simp only [decide_eq_true_eq] at this
      exact UInt8.not_le.2 this
    rw [dec_lt, decide_eq_true hlt, cond_true, dec_nonneg, Bool.true_and, cond_true, toNat_nat, hc, cond_false, dec_nonneg, byte_lt256, Bool.true_and, cond_true, i64_succ (by omega),
      makeASCIISet_loop ret k0 cs ha hl d (i + 1) n _ (by omega) (by omega), getD_drop (d := 0) hlt]
    rfl
theorem bytes_makeASCIISet_math : ∀ (chars0 : List UInt8), (bytes_makeASCIISet_ok chars0 = true) → ∃ n, bytes_makeASCIISet_sh n chars0 = bytes_makeASCIISet_ret (bytes_makeASCIISet chars0).1 (bytes_makeASCIISet chars0).2 := fun cs h => ⟨cs.length + 1, by
  unfold bytes_makeASCIISet_ok at h
  rw [Bool.and_eq_true] at h
  exact makeASCIISet_loop bytes_makeASCIISet_ret (bytes_makeASCIISet_k2_0 (cs.length + 1)) cs h.1 (lenOk_le h.2) cs.length 0 (cs.length + 1) _ (by omega) (by omega)⟩
theorem __bytes_asciiSet__contains_math : ∀ (as0 : List Bool) (c1 : UInt8), ∃ n, __bytes_asciiSet__contains_sh n as0 c1 = __bytes_asciiSet__contains_ret (__bytes_asciiSet__contains as0 c1) := fun as c => ⟨0, by
  unfold __bytes_asciiSet__contains_sh
  rw [dec_nonneg, byte_lt256]
  rfl⟩
theorem octet_plain_math : ∀ (c0 : UInt8), ∃ n, octet_plain_sh n c0 = octet_plain_ret (octet_plain c0) := fun c => ⟨0, by
  unfold octet_plain_sh octet_plain plainTail orI
  cases decide (c < (32 : UInt8)) <;> cases (c == (127 : UInt8)) <;> cases (c == (32 : UInt8)) <;> cases (c == (9 : UInt8)) <;> cases decide ((48 : UInt8) ≤ c) <;> cases decide (c ≤ (57 : UInt8)) <;> cases decide ((65 : UInt8) ≤ c) <;> cases decide (c ≤ (90 : UInt8)) <;> cases decide ((97 : UInt8) ≤ c) <;> cases decide (c ≤ (122 : UInt8)) <;> rfl⟩
theorem internal_stringslite_IndexByte_math : ∀ (s0 : List UInt8) (c1 : UInt8), ∃ n, internal_stringslite_IndexByte_sh n s0 c1 = internal_stringslite_IndexByte_ret (internal_stringslite_IndexByte s0 c1) := fun _ _ => ⟨0, rfl⟩
theorem strings_IndexByte_math : ∀ (s0 : List UInt8) (c1 : UInt8), ∃ n, strings_IndexByte_sh n s0 c1 = strings_IndexByte_ret (strings_IndexByte s0 c1) := fun _ _ => ⟨0, rfl⟩
theorem octet_in_math : ∀ (s0 : List UInt8) (c1 : UInt8), ∃ n, octet_in_sh n s0 c1 = octet_in_ret (octet_in s0 c1) := fun _ _ => ⟨0, rfl⟩
theorem octet_Kinds_math : ∀ (c0 : UInt8), ∃ n, octet_Kinds_sh n c0 = octet_Kinds_ret (octet_Kinds c0) := fun c => ⟨0, by
  unfold octet_Kinds_sh octet_Kinds kindIf orI
  cases decide (c < (33 : UInt8)) <;> cases decide ((126 : UInt8) < c) <;> cases octet_in [33, 42, 43, 45, 47] c <;> cases octet_in [43, 47] c <;> cases octet_in [40, 41, 60, 62, 64, 44, 59, 58, 92, 34, 47, 91, 93, 63, 61] c <;> cases octet_in [42, 39, 37] c <;> rfl⟩
theorem octet_Is_math : ∀ (c0 : UInt8) (kinds1 : Int), ∃ n, octet_Is_sh n c0 kinds1 = octet_Is_ret (octet_Is c0 kinds1) := fun _ _ => ⟨0, rfl⟩
theorem wrapByte (c : UInt8) : IntKind.wrap .i64 ((UInt8.toNat c : Nat) : Int) = ((UInt8.toNat c : Nat) : Int) := by
  have := c.toNat_lt
  exact IntWalk.i64_in _ (by omega)

theorem hexa_Value_math : ∀ (c0 : UInt8), ∃ n, hexa_Value_sh n c0 = hexa_Value_ret (hexa_Value c0).1 (hexa_Value c0).2 := fun c => ⟨0, by
  unfold hexa_Value_sh hexa_Value
  have h := (octet_Lower c - 97).toNat_lt
  rw [wrapByte, wrapByte, IntWalk.i64_in (((octet_Lower c - 97).toNat : Int) + 10) (by omega)]
  cases octet_Is (octet_Lower c) 8 <;> cases decide ((97 : UInt8) ≤ octet_Lower c) <;> cases decide (octet_Lower c ≤ (102 : UInt8)) <;> rfl⟩

theorem ref02_Value_loop (ret : Int → Bool → Option AV) (k0 : Option AV) (hk : k0 = ret 0 false) (c : UInt8) : ∀ (d : Nat) (i : Int) (n : Nat), i + d = 16 → 0 ≤ i → d < n →
    ref02_Value_l2 ret k0 n c i = ret (refVal d i c).1 (refVal d i c).2
  | d, i, 0, hi, h0, hn => by omega
  | 0, i, n + 1, hi, h0, hn => by
    show ref02_Value_l2_b ret k0 (ref02_Value_l2 ret k0 n) n c i = _
    unfold ref02_Value_l2_b
    rw [decide_eq_false (by omega), cond_false, hk]
    rfl
  | d + 1, i, n + 1, hi, h0, hn => by
    show ref02_Value_l2_b ret k0 (ref02_Value_l2 ret k0 n) n c i = _
    unfold ref02_Value_l2_b
    have hok : ref02_Digit_ok i = true := by unfold ref02_Digit_ok; rw [decide_eq_true_eq]; omega
    rw [decide_eq_true (by omega), cond_true, hok, IntWalk.i64_in (i + 1) (by omega), ref02_Value_loop ret k0 hk c d (i + 1) n (by omega) (by omega) (by omega)]
    show _ = ret (bif ref02_Digit i == c then (i, true) else bif decide ((10 : Int) ≤ i) && (ref02_Digit i + 32 == c) then (i, true) else refVal d (i + 1) c).1 (bif ref02_Digit i == c then (i, true) else bif decide ((10 : Int) ≤ i) && (ref02_Digit i + 32 == c) then (i, true) else refVal d (i + 1) c).2
    generalize refVal d (i + 1) c = z
    cases ref02_Digit i == c <;> cases decide ((10 : Int) ≤ i) <;> cases ref02_Digit i + 32 == c <;> rfl
theorem ref02_Value_math : ∀ (c0 : UInt8), ∃ n, ref02_Value_sh n c0 = ref02_Value_ret (ref02_Value c0).1 (ref02_Value c0).2 := fun c => ⟨17, ref02_Value_loop ref02_Value_ret (ref02_Value_k2_0 17) rfl c 16 0 17 (by omega) (by omega) (by omega)⟩

theorem value_same : ∀ i : Fin 256, hexa_Value (UInt8.ofNat i.val) = ref02_Value (UInt8.ofNat i.val) := by decide +kernel
theorem value_range' : ∀ i : Fin 256, 0 ≤ (hexa_Value (UInt8.ofNat i.val)).1 ∧ (hexa_Value (UInt8.ofNat i.val)).1 < 16 := by decide +kernel
theorem of_fin {P : UInt8 → Prop} (h : ∀ i : Fin 256, P (UInt8.ofNat i.val)) (c : UInt8) : P c := by
  have := h ⟨c.toNat, c.toNat_lt⟩
  simpa using this
theorem values (c : UInt8) : ref02_Value c = hexa_Value c := (of_fin (P := fun c => hexa_Value c = ref02_Value c) value_same c).symm
theorem value_range (c : UInt8) : 0 ≤ (hexa_Value c).1 ∧ (hexa_Value c).1 < 16 := of_fin (P := fun c => 0 ≤ (hexa_Value c).1 ∧ (hexa_Value c).1 < 16) value_range' c

theorem or_small : ∀ a b : Fin 16, UInt8.ofNat (Int.toNat (IntKind.wrap .u8 (bits .or .i64 (IntKind.wrap .i64 (((a.val : Nat) : Int) * 2 ^ (min (Int.toNat (4 : Int)) (IntKind.bits .i64)))) ((b.val : Nat) : Int)))) = UInt8.ofNat (Int.toNat (((a.val : Nat) : Int) * 16 + ((b.val : Nat) : Int))) := by decide +kernel
theorem sum_small : ∀ a b : Fin 16, UInt8.ofNat (Int.toNat (IntKind.wrap .u8 (IntKind.wrap .i64 ((IntKind.wrap .i64 ((16 : Int) * ((a.val : Nat) : Int))) + ((b.val : Nat) : Int))))) = UInt8.ofNat (Int.toNat (((a.val : Nat) : Int) * 16 + ((b.val : Nat) : Int))) := by decide +kernel
theorem two_fins {P : Int → Int → Prop} (h : ∀ a b : Fin 16, P ((a.val : Nat) : Int) ((b.val : Nat) : Int)) {x y : Int} (hx : 0 ≤ x ∧ x < 16) (hy : 0 ≤ y ∧ y < 16) : P x y := by
  have := h ⟨x.toNat, by omega⟩ ⟨y.toNat, by omega⟩
  simp only [Int.toNat_of_nonneg hx.1, Int.toNat_of_nonneg hy.1] at this
  exact this

theorem hexa_pair_math : ∀ (a0 : UInt8) (b1 : UInt8), ∃ n, hexa_pair_sh n a0 b1 = hexa_pair_ret (hexa_pair a0 b1).1 (hexa_pair a0 b1).2 := fun a b => ⟨0, by
  unfold hexa_pair_sh hexa_pair
  have h := two_fins (P := fun x y => UInt8.ofNat (Int.toNat (IntKind.wrap .u8 (bits .or .i64 (IntKind.wrap .i64 (x * 2 ^ (min (Int.toNat (4 : Int)) (IntKind.bits .i64)))) y))) = UInt8.ofNat (Int.toNat (x * 16 + y))) or_small (value_range a) (value_range b)
  rw [← h]
  cases (hexa_Value a).2 <;> cases (hexa_Value b).2 <;> rfl⟩

theorem take_common (s : List UInt8) (at1 : Int) (hl : s.length ≤ 1048576) (h0 : ¬ at1 < 0) (h1 : ¬ IntKind.wrap .i64 (((List.length s : Nat) : Int) - 3) < at1) : ∃ i : Nat, at1 = i ∧ i + 2 < s.length := by
  rw [IntWalk.i64_in _ (by omega)] at h1
  exact ⟨at1.toNat, by omega, by omega⟩

theorem hexa_Take_math : ∀ (s0 : List UInt8) (at1 : Int) (sign2 : UInt8), (hexa_Take_ok s0 at1 sign2 = true) → ∃ n, hexa_Take_sh n s0 at1 sign2 = hexa_Take_ret (hexa_Take s0 at1 sign2).1 (hexa_Take s0 at1 sign2).2 := fun s at1 sign h => ⟨0, by
  have hl := lenOk_le h
  unfold hexa_Take_sh hexa_Take
  by_cases h0 : at1 < 0
  · rw [decide_eq_true h0, decide_eq_false (show ¬ 0 ≤ at1 by omega)]; rfl
  by_cases h1 : IntKind.wrap .i64 (((List.length s : Nat) : Int) - 3) < at1
  · have h2 : ¬ at1 ≤ (s.length : Int) - 3 := by rw [IntWalk.i64_in _ (by omega)] at h1; omega
    rw [decide_eq_false h0, decide_eq_true h1, decide_eq_false h2, Bool.and_false]; rfl
  obtain ⟨i, rfl, hi⟩ := take_common s at1 hl h0 h1
  rw [decide_eq_false h0, decide_eq_false h1, cond_false, cond_false, dec_nonneg, dec_lt, decide_eq_true (show i < s.length by omega), Bool.and_true, cond_true, toNat_nat, i64_succ (by omega),
    show IntKind.wrap .i64 ((i : Int) + 2) = ((i + 2 : Nat) : Int) by rw [IntWalk.i64_in _ (by omega)]; omega, dec_nonneg, dec_nonneg, dec_lt, dec_lt, decide_eq_true (show i + 1 < s.length by omega), decide_eq_true hi, toNat_nat, toNat_nat,
    decide_eq_true (show (i : Int) ≤ (s.length : Int) - 3 by omega), Bool.and_true, cond_true]
  unfold takeAt
  cases he : (List.getD s i 0 == sign) with
  | true => rw [show (List.getD s i 0 != sign) = false by simp only [bne, he, Bool.not_true]]; rfl
  | false => rw [show (List.getD s i 0 != sign) = true by simp only [bne, he, Bool.not_false]]; rfl⟩

theorem ref02_Take_math : ∀ (s0 : List UInt8) (at1 : Int) (sign2 : UInt8), (ref02_Take_ok s0 at1 sign2 = true) → ∃ n, ref02_Take_sh n s0 at1 sign2 = ref02_Take_ret (ref02_Take s0 at1 sign2).1 (ref02_Take s0 at1 sign2).2 := fun s at1 sign h => ⟨0, by
  have hl := lenOk_le h
  unfold ref02_Take_sh ref02_Take hexa_Take
  by_cases h0 : at1 < 0
  · rw [decide_eq_true h0, decide_eq_false (show ¬ 0 ≤ at1 by omega)]; rfl
  by_cases h1 : IntKind.wrap .i64 (((List.length s : Nat) : Int) - 3) < at1
  · have h2 : ¬ at1 ≤ (s.length : Int) - 3 := by rw [IntWalk.i64_in _ (by omega)] at h1; omega
    rw [decide_eq_false h0, decide_eq_true h1, decide_eq_false h2, Bool.and_false]; rfl
  obtain ⟨i, rfl, hi⟩ := take_common s at1 hl h0 h1
  rw [decide_eq_false h0, decide_eq_false h1, cond_false, cond_false, dec_nonneg, dec_lt, decide_eq_true (show i < s.length by omega), Bool.and_true, cond_true, toNat_nat, i64_succ (by omega),
    show IntKind.wrap .i64 ((i : Int) + 2) = ((i + 2 : Nat) : Int) by rw [IntWalk.i64_in _ (by omega)]; omega, dec_nonneg, dec_nonneg, dec_lt, dec_lt, decide_eq_true (show i + 1 < s.length by omega), decide_eq_true hi, toNat_nat, toNat_nat,
    decide_eq_true (show (i : Int) ≤ (s.length : Int) - 3 by omega), Bool.and_true, cond_true]
  rw [values, values]
  have h := two_fins (P := fun x y => UInt8.ofNat (Int.toNat (IntKind.wrap .u8 (IntKind.wrap .i64 ((IntKind.wrap .i64 ((16 : Int) * x)) + y)))) = UInt8.ofNat (Int.toNat (x * 16 + y))) sum_small (value_range (List.getD s (i + 1) 0)) (value_range (List.getD s (i + 2) 0))
  rw [h]
  unfold takeAt hexa_pair
  cases he : (List.getD s i 0 == sign) with
  | true =>
    rw [show (List.getD s i 0 != sign) = false by simp only [bne, he, Bool.not_true]]
    cases (hexa_Value (List.getD s (i + 1) 0)).2 <;> cases (hexa_Value (List.getD s (i + 2) 0)).2 <;> rfl
  | false => rw [show (List.getD s i 0 != sign) = true by simp only [bne, he, Bool.not_false]]; rfl⟩

theorem both_small : ∀ i : Fin 256, [hexa_Digit (IntKind.wrap .i64 ((UInt8.toNat (UInt8.ofNat (UInt8.toNat (UInt8.ofNat i.val) / 2 ^ (min (Int.toNat (4 : Int)) 8))) : Nat) : Int)), hexa_Digit (IntKind.wrap .i64 ((UInt8.toNat (UInt8.ofNat i.val) : Nat) : Int))] = hexa_both (UInt8.ofNat i.val) := by decide +kernel
theorem refboth_small : ∀ i : Fin 256, [ref02_Digit (IntKind.wrap .i64 (Int.tdiv (IntKind.wrap .i64 ((UInt8.toNat (UInt8.ofNat i.val) : Nat) : Int)) (16 : Int))), ref02_Digit (Int.tmod (IntKind.wrap .i64 ((UInt8.toNat (UInt8.ofNat i.val) : Nat) : Int)) (16 : Int))] = hexa_both (UInt8.ofNat i.val) := by decide +kernel
theorem refok_small : ∀ i : Fin 256, ref02_Digit_ok (IntKind.wrap .i64 (Int.tdiv (IntKind.wrap .i64 ((UInt8.toNat (UInt8.ofNat i.val) : Nat) : Int)) (16 : Int))) = true ∧ ref02_Digit_ok (Int.tmod (IntKind.wrap .i64 ((UInt8.toNat (UInt8.ofNat i.val) : Nat) : Int)) (16 : Int)) = true ∧
    hexa_Digit_ok (IntKind.wrap .i64 ((UInt8.toNat (UInt8.ofNat (UInt8.toNat (UInt8.ofNat i.val) / 2 ^ (min (Int.toNat (4 : Int)) 8))) : Nat) : Int)) = true ∧ hexa_Digit_ok (IntKind.wrap .i64 ((UInt8.toNat (UInt8.ofNat i.val) : Nat) : Int)) = true := by decide +kernel
theorem boths (c : UInt8) : [hexa_Digit (IntKind.wrap .i64 ((UInt8.toNat (UInt8.ofNat (UInt8.toNat c / 2 ^ (min (Int.toNat (4 : Int)) 8))) : Nat) : Int)), hexa_Digit (IntKind.wrap .i64 ((UInt8.toNat c : Nat) : Int))] = hexa_both c := of_fin (P := fun c => [hexa_Digit (IntKind.wrap .i64 ((UInt8.toNat (UInt8.ofNat (UInt8.toNat c / 2 ^ (min (Int.toNat (4 : Int)) 8))) : Nat) : Int)), hexa_Digit (IntKind.wrap .i64 ((UInt8.toNat c : Nat) : Int))] = hexa_both c) both_small c
theorem refboths (c : UInt8) : [ref02_Digit (IntKind.wrap .i64 (Int.tdiv (IntKind.wrap .i64 ((UInt8.toNat c : Nat) : Int)) (16 : Int))), ref02_Digit (Int.tmod (IntKind.wrap .i64 ((UInt8.toNat c : Nat) : Int)) (16 : Int))] = hexa_both c := of_fin (P := fun c => [ref02_Digit (IntKind.wrap .i64 (Int.tdiv (IntKind.wrap .i64 ((UInt8.toNat c : Nat) : Int)) (16 : Int))), ref02_Digit (Int.tmod (IntKind.wrap .i64 ((UInt8.toNat c : Nat) : Int)) (16 : Int))] = hexa_both c) refboth_small c
theorem refoks (c : UInt8) : ref02_Digit_ok (IntKind.wrap .i64 (Int.tdiv (IntKind.wrap .i64 ((UInt8.toNat c : Nat) : Int)) (16 : Int))) = true ∧ ref02_Digit_ok (Int.tmod (IntKind.wrap .i64 ((UInt8.toNat c : Nat) : Int)) (16 : Int)) = true ∧
    hexa_Digit_ok (IntKind.wrap .i64 ((UInt8.toNat (UInt8.ofNat (UInt8.toNat c / 2 ^ (min (Int.toNat (4 : Int)) 8))) : Nat) : Int)) = true ∧ hexa_Digit_ok (IntKind.wrap .i64 ((UInt8.toNat c : Nat) : Int)) = true := of_fin (P := fun c => ref02_Digit_ok (IntKind.wrap .i64 (Int.tdiv (IntKind.wrap .i64 ((UInt8.toNat c : Nat) : Int)) (16 : Int))) = true ∧ ref02_Digit_ok (Int.tmod (IntKind.wrap .i64 ((UInt8.toNat c : Nat) : Int)) (16 : Int)) = true ∧
    hexa_Digit_ok (IntKind.wrap .i64 ((UInt8.toNat (UInt8.ofNat (UInt8.toNat c / 2 ^ (min (Int.toNat (4 : Int)) 8))) : Nat) : Int)) = true ∧ hexa_Digit_ok (IntKind.wrap .i64 ((UInt8.toNat c : Nat) : Int)) = true) refok_small c

theorem hexa_both_math : ∀ (c0 : UInt8), ∃ n, hexa_both_sh n c0 = hexa_both_ret (hexa_both c0) := fun c => ⟨0, by
  obtain ⟨_, _, h1, h2⟩ := refoks c
  unfold hexa_both_sh
  rw [h1, h2, boths]
  rfl⟩
theorem hexa_Put_math : ∀ (b0 : List UInt8) (sign1 : UInt8) (c2 : UInt8), (hexa_Put_ok b0 sign1 c2 = true) → ∃ n, hexa_Put_sh n b0 sign1 c2 = hexa_Put_ret (hexa_Put b0 sign1 c2) := fun b sign c h => ⟨0, by
  have hl := lenOk_le h
  unfold hexa_Put_sh hexa_Put bytes_Clone_ok bytes_Clone
  rw [show lenOk b = true from h, Bool.and_true, cond_true, decide_eq_true (by unfold room; simp; omega), cond_true, decide_eq_true (by unfold room hexa_both; simp; omega), cond_true, List.append_assoc]
  rfl⟩
theorem ref02_Put_math : ∀ (b0 : List UInt8) (sign1 : UInt8) (c2 : UInt8), (ref02_Put_ok b0 sign1 c2 = true) → ∃ n, ref02_Put_sh n b0 sign1 c2 = ref02_Put_ret (ref02_Put b0 sign1 c2) := fun b sign c h => ⟨0, by
  have hl := lenOk_le h
  obtain ⟨h1, h2, _, _⟩ := refoks c
  unfold ref02_Put_sh ref02_Put
  rw [h1, h2, decide_eq_true (by unfold room; simp; omega), Bool.and_true, cond_true, cond_true, decide_eq_true (by unfold room; simp; omega), cond_true, ← refboths c]
  rfl⟩
theorem byte256 (c : UInt8) : c.toNat < 256 := c.toNat_lt

theorem enc_size (c : Nat) (h : 128 ≤ c) : 2 ≤ (Utf8.encode (c : Int)).size ∧ (c < 2048 → (Utf8.encode (c : Int)).size ≤ 2) ∧ (c < 65536 → (Utf8.encode (c : Int)).size ≤ 3) ∧ (Utf8.encode (c : Int)).size ≤ 4 := by
  by_cases hv : Utf8.valid (c : Int) = true
  · have hc : (c : Int).toNat = c := by omega
    unfold Utf8.encode
    simp only [hv, if_true, hc]
    rw [if_neg (by omega)]
    split
    · refine ⟨?_, ?_, ?_, ?_⟩ <;> simp [ByteArray.size]
    · split
      · refine ⟨?_, ?_, ?_, ?_⟩ <;> simp [ByteArray.size] <;> omega
      · refine ⟨?_, ?_, ?_, ?_⟩ <;> simp [ByteArray.size] <;> omega
  · have hn : 2048 ≤ c := by
      rcases Nat.lt_or_ge c 2048 with h2 | h2
      · exact absurd (by unfold Utf8.valid; simp; omega) hv
      · exact h2
    have hv' : Utf8.valid (c : Int) = false := by simpa using hv
    have he : Utf8.encode (c : Int) = ⟨#[239, 191, 189]⟩ := by
      unfold Utf8.encode
      simp only [hv', Bool.false_eq_true, if_false]
      decide
    rw [he]
    refine ⟨?_, ?_, ?_, ?_⟩ <;> simp [ByteArray.size] <;> omega

theorem enc_first (c : Nat) (h : 128 ≤ c) : ∃ e r, (Utf8.encode (c : Int)).data.toList = e :: r ∧ 128 ≤ e.toNat := by
  unfold Utf8.encode
  generalize hg : (if Utf8.valid (c : Int) = true then (c : Int).toNat else Utf8.runeError) = x
  have hx : 128 ≤ x ∧ x ≤ 1114111 := by
    split at hg
    · rename_i hv
      unfold Utf8.valid at hv
      simp only [Bool.or_eq_true, Bool.and_eq_true, decide_eq_true_eq] at hv
      omega
    · unfold Utf8.runeError at hg; omega
  simp only [if_neg (show ¬ x < 128 by omega)]
  split
  · exact ⟨_, _, rfl, by simp; omega⟩
  · split
    · exact ⟨_, _, rfl, by simp; omega⟩
    · exact ⟨_, _, rfl, by simp; omega⟩

/-- What is decoded at an octet beyond ASCII. -/
theorem dec_facts (p : List UInt8) (hp : 0 < p.length) (h0 : 128 ≤ (p.getD 0 0).toNat) : 128 ≤ (Lib.decodeL p).1 ∧ 1 ≤ (Lib.decodeL p).2 ∧ (Lib.decodeL p).2 ≤ p.length ∧ (∀ j, j < (Lib.decodeL p).2 → 128 ≤ (p.getD j 0).toNat) ∧
    ((Lib.decodeL p).1 ≠ 65533 → 2 ≤ (Utf8.encode ((Lib.decodeL p).1 : Int)).size ∧ (Utf8.encode ((Lib.decodeL p).1 : Int)).size ≤ (Lib.decodeL p).2) := by
  rw [Lib.decodeL_N]
  have b0 := byte256 (p.getD 0 0)
  have b1 := byte256 (p.getD 1 0)
  have b2 := byte256 (p.getD 2 0)
  have b3 := byte256 (p.getD 3 0)
  rcases Lib.decodeN_shape p.length (p.getD 0 0).toNat (p.getD 1 0).toNat (p.getD 2 0).toNat (p.getD 3 0).toNat with ⟨h, _⟩ | ⟨h1, h2, h3, h4, e⟩ | ⟨h1, h2, h3, h4, h5, _, e⟩ | ⟨h1, h2, h3, h4, h5, h6, h7, e⟩ | e
  · omega
  · rw [e]
    dsimp only
    have hs := enc_size _ h4
    refine ⟨h4, by omega, by omega, fun j hj => ?_, fun _ => ⟨hs.1, hs.2.1 (by omega)⟩⟩
    match j, hj with
    | 0, _ => exact h0
    | 1, _ => omega
    | n + 2, hj => omega
  · rw [e]
    dsimp only
    have hs := enc_size (((p.getD 0 0).toNat % 16) * 4096 + (p.getD 1 0).toNat % 64 * 64 + (p.getD 2 0).toNat % 64) (by omega)
    refine ⟨by omega, by omega, by omega, fun j hj => ?_, fun _ => ⟨hs.1, hs.2.2.1 (by omega)⟩⟩
    match j, hj with
    | 0, _ => exact h0
    | 1, _ => omega
    | 2, _ => omega
    | n + 3, hj => omega
  · rw [e]
    dsimp only
    have hs := enc_size (((p.getD 0 0).toNat % 8) * 262144 + (p.getD 1 0).toNat % 64 * 4096 + (p.getD 2 0).toNat % 64 * 64 + (p.getD 3 0).toNat % 64) (by omega)
    refine ⟨by omega, by omega, by omega, fun j hj => ?_, fun _ => ⟨hs.1, hs.2.2.2⟩⟩
    match j, hj with
    | 0, _ => exact h0
    | 1, _ => omega
    | 2, _ => omega
    | 3, _ => omega
    | n + 4, hj => omega
  · rw [e]
    dsimp only
    refine ⟨by omega, by omega, by omega, fun j hj => ?_, fun h => absurd rfl h⟩
    match j, hj with
    | 0, _ => exact h0
    | n + 1, hj => omega

theorem ascii_at {cs : List UInt8} (ha : ascii cs = true) {i : Nat} (hi : i < cs.length) : (cs.getD i 0).toNat < 128 := by
  unfold ascii at ha
  rw [List.all_eq_true] at ha
  have := ha (cs.getD i 0) (by simp [List.getD, hi])
  simp only [decide_eq_true_eq] at this
  exact this
theorem ascii_mem {cs : List UInt8} (ha : ascii cs = true) {x : UInt8} (hx : 128 ≤ x.toNat) : cs.contains x = false := by
  cases h : cs.contains x with
  | false => rfl
  | true =>
    unfold ascii at ha
    rw [List.all_eq_true] at ha
    have := ha x (by simpa using h)
    simp only [decide_eq_true_eq] at this
    have : x.toNat < 128 := this
    omega

theorem decL_ascii {cs : List UInt8} (ha : ascii cs = true) {i : Nat} (hi : i < cs.length) : decL cs i = (((cs.getD i 0).toNat : Int), 1) := by
  unfold decL
  rw [Lib.decode_N]
  rw [Lib.decodeN_ascii _ _ _ _ _ (by simpa using ascii_at ha hi)]

theorem index_beyond {cs : List UInt8} (ha : ascii cs = true) (c : Nat) (hc : 128 ≤ c) : Lib.index cs (Utf8.encode (c : Int)).data.toList = -1 := by
  obtain ⟨e, r, he, h1⟩ := enc_first c hc
  rw [he]
  refine Lib.index_none fun j _ => ?_
  unfold Lib.occAt
  cases hd : cs.drop j with
  | nil => rfl
  | cons x t =>
    have hj : j < cs.length := by
      rcases Nat.lt_or_ge j cs.length with h | h
      · exact h
      · rw [List.drop_eq_nil_of_le h] at hd; cases hd
    have hx : x = cs.getD j 0 := by
      rw [getD_drop (d := 0) hj] at hd
      exact (List.cons.inj hd).1.symm
    have := ascii_at ha hj
    rw [← hx] at this
    have hne : (e == x) = false := by
      rw [beq_eq_false_iff_ne]
      rintro rfl
      omega
    simp [List.isPrefixOf, hne]

theorem same_beyond {cs : List UInt8} (ha : ascii cs = true) (hn : cs ≠ []) (c : Nat) (hc : 128 ≤ c) : (cs == (Utf8.encode (c : Int)).data.toList) = false := by
  obtain ⟨e, r, he, h1⟩ := enc_first c hc
  rw [he, beq_eq_false_iff_ne]
  rintro rfl
  have := ascii_at ha (i := 0) (by simp)
  simp at this
  omega

theorem any_skip (cs : List UInt8) : ∀ (w : Nat) (p : List UInt8) (i : Int), w ≤ p.length → (∀ j, j < w → cs.contains (p.getD j 0) = false) → anyAt cs p i = anyAt cs (p.drop w) (i + w)
  | 0, p, i, _, _ => by simp
  | w + 1, [], i, h, _ => by simp at h
  | w + 1, x :: p, i, h, hc => by
    have h0 := hc 0 (by omega)
    simp only [List.getD_cons_zero] at h0
    have ih := any_skip cs w p (i + 1) (by simpa using h) (fun j hj => by have := hc (j + 1) (by omega); simpa using this)
    show (bif cs.contains x then i else anyAt cs p (i + 1)) = anyAt cs (p.drop w) (i + ((w + 1 : Nat) : Int))
    rw [h0, cond_false, ih]
    congr 1
    omega

variable (m0 : Int)

theorem any_l7 (ret : Int → Option AV) (k0 : Option AV) (cs : List UInt8) (ha : ascii cs = true) : ∀ (d i n : Nat), i + d = cs.length → d < n → bytes_IndexAny_l7 m0 ret k0 n cs i = k0
  | d, i, 0, hi, hn => by omega
  | 0, i, n + 1, hi, hn => by
    show bytes_IndexAny_l7_b m0 ret k0 (bytes_IndexAny_l7 m0 ret k0 n) n cs i = _
    unfold bytes_IndexAny_l7_b
    rw [decide_eq_false (by omega)]
    rfl
  | d + 1, i, n + 1, hi, hn => by
    show bytes_IndexAny_l7_b m0 ret k0 (bytes_IndexAny_l7 m0 ret k0 n) n cs i = _
    unfold bytes_IndexAny_l7_b
    have hlt : i < cs.length := by omega
    have hx := ascii_at ha hlt
    rw [decide_eq_true hlt, decL_ascii ha hlt, cond_true, cond_true, cond_true, show ((((cs.getD i 0).toNat : Nat) : Int) == 65533) = false by rw [beq_eq_false_iff_ne]; omega, cond_false]
    exact any_l7 ret k0 cs ha d (i + 1) n (by omega) (by omega)

theorem any_l48 (ret : Int → Option AV) (k6 : List UInt8 → List UInt8 → Int → Int → Option AV) (s cs : List UInt8) (w at1 r : Int) (hr : 128 ≤ r) (ha : ascii cs = true) : ∀ (d i n : Nat), i + d = cs.length → d < n → bytes_IndexAny_l48 m0 ret k6 n s cs w at1 r cs i = k6 s cs w at1
  | d, i, 0, hi, hn => by omega
  | 0, i, n + 1, hi, hn => by
    show bytes_IndexAny_l48_b m0 ret k6 (bytes_IndexAny_l48 m0 ret k6 n) n s cs w at1 r cs i = _
    unfold bytes_IndexAny_l48_b
    rw [decide_eq_false (by omega)]
    rfl
  | d + 1, i, n + 1, hi, hn => by
    show bytes_IndexAny_l48_b m0 ret k6 (bytes_IndexAny_l48 m0 ret k6 n) n s cs w at1 r cs i = _
    unfold bytes_IndexAny_l48_b
    have hlt : i < cs.length := by omega
    have hx := ascii_at ha hlt
    rw [decide_eq_true hlt, decL_ascii ha hlt, cond_true, cond_true, cond_true, show (r == (((cs.getD i 0).toNat : Nat) : Int)) = false by rw [beq_eq_false_iff_ne]; omega, cond_false]
    exact any_l48 ret k6 s cs w at1 r hr ha d (i + 1) n (by omega) (by omega)

theorem setOf_at (cs : List UInt8) (x : UInt8) : ∀ (a : List Bool), a.length = 256 → (setOf cs a).getD x.toNat false = (cs.contains x || a.getD x.toNat false) := by
  induction cs with
  | nil => intro a _; simp [setOf]
  | cons c cs ih =>
    intro a hl
    show (setOf cs (List.set a c.toNat true)).getD x.toNat false = _
    rw [ih _ (by simpa using hl)]
    have hx := byte256 x
    have hc := byte256 c
    by_cases e : c = x
    · subst e
      have : (List.set a c.toNat true).getD c.toNat false = true := by simp [List.getD, hl, hc]
      rw [this]
      simp
    · have hne : c.toNat ≠ x.toNat := fun h => e (UInt8.toNat_inj.1 h)
      have : (List.set a c.toNat true).getD x.toNat false = a.getD x.toNat false := by simp [List.getD, List.getElem?_set_ne hne]
      rw [this]
      have hb : ¬ x = c := fun h => e h.symm
      simp [hb]

theorem any_l24 (ret : Int → Option AV) (k2 : Option AV) (hk : k2 = ret (-1)) (s cs : List UInt8) (hl : s.length ≤ 1048576) : ∀ (d i n : Nat), i + d = s.length → d < n →
    bytes_IndexAny_l24 m0 ret k2 n (setOf cs (List.replicate 256 false)) s (s.length : Nat) (i : Nat) = ret (anyAt cs (s.drop i) i)
  | d, i, 0, hi, hn => by omega
  | 0, i, n + 1, hi, hn => by
    show bytes_IndexAny_l24_b m0 ret k2 (bytes_IndexAny_l24 m0 ret k2 n) n _ s _ _ = _
    unfold bytes_IndexAny_l24_b
    rw [decide_eq_false (by omega), cond_false, List.drop_eq_nil_of_le (by omega), hk]
    rfl
  | d + 1, i, n + 1, hi, hn => by
    show bytes_IndexAny_l24_b m0 ret k2 (bytes_IndexAny_l24 m0 ret k2 n) n _ s _ _ = _
    unfold bytes_IndexAny_l24_b __bytes_asciiSet__contains
    have hlt : i < s.length := by omega
    rw [dec_lt, decide_eq_true hlt, cond_true, dec_nonneg, Bool.true_and, cond_true, toNat_nat, setOf_at _ _ _ List.length_replicate, i64_succ (by omega), any_l24 ret k2 hk s cs hl d (i + 1) n (by omega) (by omega), getD_drop (d := 0) hlt]
    have : (List.replicate 256 false).getD (s.getD i 0).toNat false = false := by rw [List.getD_eq_getElem?_getD, List.getElem?_replicate]; split <;> rfl
    rw [this, Bool.or_false]
    show _ = ret (bif cs.contains (s.getD i 0) then (i : Int) else anyAt cs (s.drop (i + 1)) (i + 1))
    cases cs.contains (s.getD i 0) <;> rfl

set_option maxRecDepth 100000 in
theorem any_l32 (ret : Int → Option AV) (k4 : Option AV) (hk : k4 = ret (-1)) (s cs : List UInt8) (hl : s.length ≤ 1048576) (ha : ascii cs = true) (hc2 : 2 ≤ cs.length) (hcl : cs.length ≤ 1048576) (d i n : Nat) (hi : i + d = s.length) (hn : d + cs.length + 1 < n) :
    bytes_IndexAny_l32 m0 ret k4 n s cs (i : Nat) = ret (anyAt cs (s.drop i) i) := by
  obtain ⟨n, rfl⟩ : ∃ n', n = n' + 1 := ⟨n - 1, by omega⟩
  show bytes_IndexAny_l32_b m0 ret k4 (bytes_IndexAny_l32 m0 ret k4 n) n s cs (i : Nat) = _
  unfold bytes_IndexAny_l32_b
  match d, hi, hn with
  | 0, hi, hn =>
    rw [decide_eq_false (by omega), cond_false, List.drop_eq_nil_of_le (by omega), hk]
    rfl
  | d + 1, hi, hn =>
    have hlt : i < s.length := by omega
    have hb := byte256 (s.getD i 0)
    rw [dec_lt, decide_eq_true hlt, cond_true, dec_nonneg, Bool.true_and, cond_true, cond_true, toNat_nat, toNat_nat, List.take_length, IntWalk.i32_in _ (by omega)]
    by_cases h128 : (s.getD i 0).toNat < 128
    · rw [decide_eq_true (show (((s.getD i 0).toNat : Nat) : Int) < 128 by omega), cond_true, i64_succ (by omega), any_l32 ret k4 hk s cs hl ha hc2 hcl d (i + 1) n (by omega) (by omega), getD_drop (d := 0) hlt]
      show (bif decide ((0 : Int) ≤ Lib.indexByte cs (s.getD i 0)) then ret i else ret (anyAt cs (s.drop (i + 1)) ((i + 1 : Nat) : Int))) = ret (bif cs.contains (s.getD i 0) then (i : Int) else anyAt cs (s.drop (i + 1)) (i + 1))
      rw [← Lib.contains_iff_indexByte]
      cases cs.contains (s.getD i 0) <;> rfl
    · rw [decide_eq_false (show ¬ (((s.getD i 0).toNat : Nat) : Int) < 128 by omega), cond_false, decide_eq_true (show (i : Int) ≤ ((s.length : Nat) : Int) by omega), decide_eq_true (Int.le_refl _)]
      have hp : 0 < (s.drop i).length := by rw [List.length_drop]; omega
      have h0 : 128 ≤ ((s.drop i).getD 0 0).toNat := by
        rw [getD_drop (d := 0) hlt]
        simp only [List.getD_cons_zero]
        omega
      obtain ⟨f1, f2, f3, f4, f5⟩ := dec_facts (s.drop i) hp h0
      rw [show unicode_utf8_DecodeRune_ok (s.drop i) = true by unfold unicode_utf8_DecodeRune_ok; exact decide_eq_true hp]
      have hd1 : (unicode_utf8_DecodeRune (s.drop i)).1 = ((Lib.decodeL (s.drop i)).1 : Int) := rfl
      have hd2 : (unicode_utf8_DecodeRune (s.drop i)).2 = ((Lib.decodeL (s.drop i)).2 : Int) := rfl
      rw [hd1, hd2]
      obtain ⟨r, hr⟩ : ∃ r, (Lib.decodeL (s.drop i)).1 = r := ⟨_, rfl⟩
      obtain ⟨w, hw⟩ : ∃ w, (Lib.decodeL (s.drop i)).2 = w := ⟨_, rfl⟩
      rw [hr] at f1 f5
      rw [hw] at f2 f3 f4 f5
      rw [hr, hw]
      rw [List.length_drop] at f3
      have hnext : bytes_IndexAny_l32 m0 ret k4 n s cs (IntKind.wrap .i64 ((i : Int) + (w : Int))) = ret (anyAt cs (s.drop i) i) := by
        rw [IntWalk.i64_in _ (by omega), show (i : Int) + (w : Int) = ((i + w : Nat) : Int) by omega, any_l32 ret k4 hk s cs hl ha hc2 hcl (d + 1 - w) (i + w) n (by omega) (by omega),
          any_skip cs w (s.drop i) i (by rw [List.length_drop]; exact f3) (fun j hj => ascii_mem ha (f4 j hj)), List.drop_drop]
        congr 2
      have h48 : bytes_IndexAny_l48 m0 ret (bytes_IndexAny_k48_6 m0 ret k4 (bytes_IndexAny_l32 m0 ret k4 n) n) n s cs (w : Int) (i : Int) (r : Int) cs 0 = ret (anyAt cs (s.drop i) i) := by
        rw [any_l48 m0 ret _ s cs w i r (by omega) ha cs.length 0 n (by omega) (by omega)]
        exact hnext
      simp only [Bool.and_self, cond_true]
      by_cases hre : r = 65533
      · rw [show ((r : Int) != 65533) = false by simp only [bne_eq_false_iff_eq]; omega, cond_false, h48]
      · obtain ⟨e1, e2⟩ := f5 hre
        rw [show ((r : Int) != 65533) = true by simp only [bne_iff_ne, ne_eq]; omega, cond_true, same_beyond ha (by rintro rfl; simp at hc2) r f1, cond_false, hnext]
        cases ((cs.length : Int) == (w : Int)) with
        | true => rfl
        | false =>
          rw [cond_false]
          by_cases hm : (w : Int) ≤ m0
          · have hok : internal_bytealg_IndexString_ok m0 cs (Utf8.encode (r : Int)).data.toList = true := by
              unfold internal_bytealg_IndexString_ok
              rw [← Lib.size_eq]
              simp only [Bool.and_eq_true, decide_eq_true_eq]
              omega
            rw [decide_eq_true hm, hok]
            unfold internal_bytealg_IndexString
            rw [index_beyond ha r f1]
            rfl
          · rw [decide_eq_false hm, cond_false, h48]
  termination_by d
  decreasing_by all_goals omega

set_option maxRecDepth 100000 in
theorem bytes_IndexAny_math : ∀ (s0 : List UInt8) (chars1 : List UInt8), (bytes_IndexAny_ok s0 chars1 = true) → ∃ n, bytes_IndexAny_sh m0 n s0 chars1 = bytes_IndexAny_ret (bytes_IndexAny s0 chars1) := fun s cs h => ⟨s.length + cs.length + 2, by
  unfold bytes_IndexAny_ok at h
  simp only [Bool.and_eq_true, decide_eq_true_eq] at h
  obtain ⟨⟨hc2, ha, hcl⟩, hl⟩ := h
  have hcl' := lenOk_le hcl
  have hl' := lenOk_le hl
  unfold bytes_IndexAny_sh bytes_IndexAny
  rw [show (cs == []) = false by cases cs with | nil => simp at hc2 | cons c r => rfl, cond_false]
  have hcne : (((cs.length : Nat) : Int) == 1) = false := by rw [beq_eq_false_iff_ne]; omega
  by_cases h1 : s.length = 1
  · rw [show (((s.length : Nat) : Int) == 1) = true by rw [beq_iff_eq]; omega, cond_true]
    obtain ⟨x, rfl⟩ := List.length_eq_one_iff.1 h1
    have hx := byte256 x
    show (bif decide ((128 : Int) ≤ IntKind.wrap .i32 ((x.toNat : Nat) : Int)) then _ else _) = _
    rw [IntWalk.i32_in _ (by omega)]
    by_cases h128 : x.toNat < 128
    · rw [decide_eq_false (show ¬ (128 : Int) ≤ ((x.toNat : Nat) : Int) by omega), cond_false]
      show (bif decide ((0 : Int) ≤ Lib.indexByte cs x) then bytes_IndexAny_ret 0 else bytes_IndexAny_ret (-1)) = bytes_IndexAny_ret (bif cs.contains x then 0 else -1)
      rw [← Lib.contains_iff_indexByte]
      cases cs.contains x <;> rfl
    · rw [decide_eq_true (show (128 : Int) ≤ ((x.toNat : Nat) : Int) by omega), cond_true, any_l7 m0 _ _ cs ha cs.length 0 _ (by omega) (by omega)]
      show bytes_IndexAny_ret (-1) = bytes_IndexAny_ret (bif cs.contains x then 0 else -1)
      rw [ascii_mem ha (by omega)]
      rfl
  · rw [show (((s.length : Nat) : Int) == 1) = false by rw [beq_eq_false_iff_ne]; omega, cond_false, hcne, cond_false]
    have h32 := any_l32 m0 bytes_IndexAny_ret (bytes_IndexAny_k32_4 m0 (s.length + cs.length + 2)) rfl s cs hl' ha hc2 hcl' s.length 0 (s.length + cs.length + 2) (by omega) (by omega)
    have h24 := any_l24 m0 bytes_IndexAny_ret (bytes_IndexAny_k24_2 m0 (s.length + cs.length + 2)) rfl s cs hl' s.length 0 (s.length + cs.length + 2) (by omega) (by omega)
    rw [show bytes_makeASCIISet_ok cs = true by unfold bytes_makeASCIISet_ok; rw [ha, hcl]; rfl]
    cases bytes_shouldUseASCIISet ((s.length : Nat) : Int) with
    | true => exact h24
    | false =>
      rw [cond_false]
      exact h32⟩
theorem bytes_ContainsAny_math : ∀ (b0 : List UInt8) (chars1 : List UInt8), (bytes_ContainsAny_ok b0 chars1 = true) → ∃ n, bytes_ContainsAny_sh n b0 chars1 = bytes_ContainsAny_ret (bytes_ContainsAny b0 chars1) := fun b cs h => ⟨0, by
  unfold bytes_ContainsAny_sh bytes_ContainsAny
  rw [show bytes_IndexAny_ok b cs = true from h]
  rfl⟩
theorem capital_ok (s : List UInt8) (h : hexa_Capital_ok s = true) : bytes_ContainsAny_ok s [97, 98, 99, 100, 101, 102] = true := by
  unfold bytes_ContainsAny_ok bytes_IndexAny_ok
  rw [show lenOk s = true from h, Bool.and_true]
  decide
theorem hexa_Capital_math : ∀ (s0 : List UInt8), (hexa_Capital_ok s0 = true) → ∃ n, hexa_Capital_sh n s0 = hexa_Capital_ret (hexa_Capital s0) := fun s h => ⟨0, by
  unfold hexa_Capital_sh hexa_Capital
  rw [capital_ok s h]
  rfl⟩
theorem lenOk_app {s : List UInt8} (h : s.length ≤ 1000) (sign c : UInt8) : lenOk (hexa_Put s sign c) = true := by
  unfold lenOk hexa_Put hexa_both
  rw [decide_eq_true_eq]
  simp
  omega

theorem pair_both : ∀ i : Fin 256, hexa_pair (List.getD (hexa_both (UInt8.ofNat i.val)) 0 0) (List.getD (hexa_both (UInt8.ofNat i.val)) 1 0) = (UInt8.ofNat i.val, true) := by decide +kernel
theorem pair_of_both (c : UInt8) : hexa_pair (List.getD (hexa_both c) 0 0) (List.getD (hexa_both c) 1 0) = (c, true) := of_fin (P := fun c => hexa_pair (List.getD (hexa_both c) 0 0) (List.getD (hexa_both c) 1 0) = (c, true)) pair_both c

theorem take_put (s : List UInt8) (sign c : UInt8) : hexa_Take (hexa_Put s sign c) ((s.length : Nat) : Int) sign = (c, true) := by
  have hl : (hexa_Put s sign c).length = s.length + 3 := by unfold hexa_Put hexa_both; simp
  unfold hexa_Take
  rw [decide_eq_true (show (0 : Int) ≤ (s.length : Int) by omega), decide_eq_true (by omega), Bool.and_true, cond_true, toNat_nat]
  unfold takeAt
  have e : ∀ j, (hexa_Put s sign c).getD (s.length + j) 0 = (sign :: hexa_both c).getD j 0 := fun j => by
    unfold hexa_Put
    simp only [List.getD_eq_getElem?_getD]
    rw [List.getElem?_append_right (by omega), Nat.add_sub_cancel_left]
  have e0 := e 0
  rw [Nat.add_zero] at e0
  rw [e0, e 1, e 2]
  show (bif sign == sign then hexa_pair (List.getD (hexa_both c) 0 0) (List.getD (hexa_both c) 1 0) else (0, false)) = _
  rw [beq_self_eq_true, cond_true, pair_of_both]

theorem bytes_Cut_math : ∀ (s0 : List UInt8) (sep1 : List UInt8), (bytes_Cut_ok s0 sep1 = true) → ∃ n, bytes_Cut_sh n s0 sep1 = bytes_Cut_ret (bytes_Cut s0 sep1).1 (bytes_Cut s0 sep1).2.1 (bytes_Cut s0 sep1).2.2 := fun s sep h => ⟨0, by
  have h0 := h
  unfold bytes_Cut_ok at h
  rw [Bool.and_eq_true] at h
  have hl := lenOk_le h.1
  have hl2 := lenOk_le (Bool.and_eq_true _ _ ▸ h.2).1
  unfold bytes_Cut_sh bytes_Cut bytes_Index
  rw [show bytes_Index_ok s sep = true from h0]
  by_cases h1 : 0 ≤ Lib.index s sep
  · have hr := Lib.index_room s sep h1
    have e : IntKind.wrap .i64 (Lib.index s sep + ((sep.length : Nat) : Int)) = Lib.index s sep + ((sep.length : Nat) : Int) := IntWalk.i64_in _ (by omega)
    rw [e, decide_eq_true h1, decide_eq_true (show (0 : Int) ≤ ((0 : Nat) : Int) by omega), decide_eq_true (show ((0 : Nat) : Int) ≤ Lib.index s sep by omega), decide_eq_true (show Lib.index s sep ≤ ((s.length : Nat) : Int) by omega),
      decide_eq_true (show (0 : Int) ≤ Lib.index s sep + ((sep.length : Nat) : Int) by omega), decide_eq_true (show Lib.index s sep + ((sep.length : Nat) : Int) ≤ ((s.length : Nat) : Int) by omega), decide_eq_true (Int.le_refl ((s.length : Nat) : Int)), toNat_nat, toNat_nat, List.take_length,
      show Int.toNat (Lib.index s sep + ((sep.length : Nat) : Int)) = (Lib.index s sep).toNat + sep.length by omega]
    rfl
  · rw [decide_eq_false h1]; rfl⟩

theorem unfS_one (x : UInt8) (r : List UInt8) : unfS 1 (x :: r) = unf r := by cases r <;> rfl
theorem nfS_one (x : UInt8) (r : List UInt8) : nfS 1 (x :: r) = nfolds r := by cases r <;> rfl
theorem unf_cons (x : UInt8) (r : List UInt8) : unf (x :: r) = bif isFold (x :: r) then unf (r.drop 1) else x :: unf r := by
  show (bif isFold (x :: r) then unfS 1 r else x :: unfS 0 r) = _
  cases r with
  | nil => rfl
  | cons y r => rw [unfS_one]; rfl
theorem nfolds_cons (x : UInt8) (r : List UInt8) : nfolds (x :: r) = bif isFold (x :: r) then nfolds (r.drop 1) + 1 else nfolds r := by
  show (bif isFold (x :: r) then nfS 1 r + 1 else nfS 0 r) = _
  cases r with
  | nil => rfl
  | cons y r => rw [nfS_one]; rfl
theorem unf_nil : unf [] = [] := rfl
theorem nfolds_nil : nfolds [] = 0 := rfl

theorem isFold_len {x : UInt8} {r : List UInt8} (h : isFold (x :: r) = true) : 2 ≤ r.length := by
  match r, h with
  | [], h => cases h
  | [_], h => cases h
  | _ :: _ :: _, _ => simp

theorem unf_len : ∀ (n : Nat) (s : List UInt8), s.length ≤ n → (unf s).length + 2 * nfolds s = s.length
  | _, [], _ => rfl
  | 0, _ :: _, h => by simp at h
  | n + 1, x :: r, h => by
    rw [unf_cons, nfolds_cons]
    cases hf : isFold (x :: r) with
    | true =>
      have h2 := isFold_len hf
      have ih := unf_len n (r.drop 1) (by simp at h ⊢; omega)
      rw [List.length_drop] at ih
      simp only [cond_true, List.length_cons]
      omega
    | false =>
      have ih := unf_len n r (by simpa using h)
      simp only [cond_false, List.length_cons]
      omega

/-- What follows a line end. -/
def tailF (rest : List UInt8) : List UInt8 := match rest with
  | [] => [13, 10]
  | c :: r => bif blank c then unf (c :: r) else 13 :: 10 :: unf (c :: r)

theorem unf_tail (rest : List UInt8) : unf (13 :: 10 :: rest) = tailF rest := by
  have h10 : ∀ r, isFold (10 :: r) = false := fun r => by
    match r with
    | [] => rfl
    | [_] => rfl
    | _ :: _ :: _ => rfl
  rw [unf_cons, unf_cons, h10]
  cases rest with
  | nil => rfl
  | cons c r =>
    show (bif blank c then unf (c :: r) else 13 :: 10 :: unf (c :: r)) = _
    rfl

theorem crlf_pre (x : UInt8) (r : List UInt8) : (([13, 10] : List UInt8).isPrefixOf (x :: r)) = true → ∃ rest, x = 13 ∧ r = 10 :: rest := by
  intro h
  cases r with
  | nil => simp [List.isPrefixOf] at h
  | cons y r =>
    simp [List.isPrefixOf] at h
    exact ⟨r, h.1.symm, by rw [h.2]⟩
theorem isFold_pre (x : UInt8) (r : List UInt8) (h : isFold (x :: r) = true) : (([13, 10] : List UInt8).isPrefixOf (x :: r)) = true := by
  match r, h with
  | [], h => cases h
  | [_], h => cases h
  | b :: c :: r, h =>
    simp only [isFold, Bool.and_eq_true, beq_iff_eq] at h
    rw [h.1, h.2.1]
    simp [List.isPrefixOf]

theorem unf_index : ∀ s : List UInt8, (Lib.index s [13, 10] = -1 ∧ unf s = s) ∨ (0 ≤ Lib.index s [13, 10] ∧ (Lib.index s [13, 10]).toNat + 2 ≤ s.length ∧ unf s = s.take (Lib.index s [13, 10]).toNat ++ tailF (s.drop ((Lib.index s [13, 10]).toNat + 2)))
  | [] => .inl ⟨rfl, rfl⟩
  | x :: r => by
    have hi : Lib.index (x :: r) [13, 10] = if ([13, 10] : List UInt8).isPrefixOf (x :: r) then 0 else if Lib.index r [13, 10] == -1 then -1 else Lib.index r [13, 10] + 1 := rfl
    cases hp : ([13, 10] : List UInt8).isPrefixOf (x :: r) with
    | true =>
      obtain ⟨rest, rfl, rfl⟩ := crlf_pre x r hp
      right
      rw [hi, hp]
      refine ⟨Int.le_refl _, by simp, ?_⟩
      rw [unf_tail]
      rfl
    | false =>
      have hf : isFold (x :: r) = false := by
        cases h : isFold (x :: r) with
        | false => rfl
        | true => rw [isFold_pre x r h] at hp; cases hp
      rw [hi, hp, unf_cons, hf]
      simp only [Bool.false_eq_true, if_false, cond_false]
      rcases unf_index r with ⟨h1, h2⟩ | ⟨h1, h2, h3⟩
      · left
        rw [h1]
        exact ⟨rfl, by rw [h2]⟩
      · right
        have hne : (Lib.index r [13, 10] == -1) = false := by rw [beq_eq_false_iff_ne]; omega
        rw [hne]
        simp only [Bool.false_eq_true, if_false]
        have e : (Lib.index r [13, 10] + 1).toNat = (Lib.index r [13, 10]).toNat + 1 := by omega
        rw [e]
        refine ⟨by omega, by simp; omega, ?_⟩
        rw [h3, List.take_succ_cons, show (Lib.index r [13, 10]).toNat + 1 + 2 = ((Lib.index r [13, 10]).toNat + 2) + 1 by omega, List.drop_succ_cons]
        rfl

theorem is_blank : ∀ i : Fin 256, octet_Is (UInt8.ofNat i.val) 2 = blank (UInt8.ofNat i.val) := by decide +kernel
theorem fin_of {P : UInt8 → Prop} (h : ∀ i : Fin 256, P (UInt8.ofNat i.val)) (c : UInt8) : P c := by
  have := h ⟨c.toNat, c.toNat_lt⟩
  simpa using this
theorem blanks (c : UInt8) : octet_Is c 2 = blank c := fin_of (P := fun c => octet_Is c 2 = blank c) is_blank c

theorem dT {p : Prop} [Decidable p] (h : p) : decide p = true := decide_eq_true h
theorem dF {p : Prop} [Decidable p] (h : ¬ p) : decide p = false := decide_eq_false h
theorem wr {x : Int} (h : -9223372036854775808 ≤ x ∧ x ≤ 9223372036854775807) : IntKind.wrap .i64 x = x := IntWalk.i64_in x h
theorem tn (i : Nat) : Int.toNat (i : Int) = i := Int.toNat_natCast i
theorem tn1 (i : Nat) : Int.toNat ((i : Int) + 1) = i + 1 := by omega
theorem beqI {a b : Int} (h : a = b) : (a == b) = true := by simp [h]
theorem bneI {a b : Int} (h : a ≠ b) : (a == b) = false := by simp [h]
theorem lenOk_of {α : Type} {l : List α} (h : l.length ≤ 1048576) : lenOk l = true := by unfold lenOk; rw [decide_eq_true_eq]; exact h

theorem dropR_snoc (p : UInt8 → Bool) (t : List UInt8) (x : UInt8) : dropR p (t ++ [x]) = bif p x then dropR p t else t ++ [x] := by
  unfold dropR
  rw [List.reverse_append, List.reverse_singleton, List.singleton_append, List.dropWhile_cons]
  cases p x <;> simp
theorem dropWhile_le (p : UInt8 → Bool) : ∀ s : List UInt8, (s.dropWhile p).length ≤ s.length
  | [] => by simp
  | c :: s => by
    rw [List.dropWhile_cons]
    split
    · have := dropWhile_le p s; simp only [List.length_cons]; omega
    · exact Nat.le_refl _
theorem dropR_le (p : UInt8 → Bool) (s : List UInt8) : (dropR p s).length ≤ s.length := by
  have := dropWhile_le p s.reverse
  unfold dropR
  simpa using this
theorem trimBy_le (p : UInt8 → Bool) (s : List UInt8) : (trimBy p s).length ≤ s.length := Nat.le_trans (dropWhile_le p _) (dropR_le p s)

theorem set_contains (cs : List UInt8) (c : UInt8) : __bytes_asciiSet__contains (bytes_makeASCIISet cs).1 c = cs.contains c := by
  have := setOf_at cs c (List.replicate 256 false) List.length_replicate
  unfold __bytes_asciiSet__contains bytes_makeASCIISet
  have hc : c.toNat < 256 := c.toNat_lt
  rw [this, List.getD_eq_getElem?_getD, List.getElem?_replicate, if_pos hc]
  exact Bool.or_false _
theorem trimSet (cs s : List UInt8) : bytes_trimLeftASCII (bytes_trimRightASCII s (bytes_makeASCIISet cs).1) (bytes_makeASCIISet cs).1 = bytes_Trim s cs := by
  unfold bytes_trimLeftASCII bytes_trimRightASCII bytes_Trim trimBy
  have e : (fun c => __bytes_asciiSet__contains (bytes_makeASCIISet cs).1 c) = fun c => cs.contains c := funext fun c => set_contains cs c
  rw [e]
theorem set_map (f : UInt8 → UInt8) (s : List UInt8) (i : Nat) (h : i < s.length) : List.set (s.take i |>.map f |> fun l => l ++ s.drop i) i (f (s.getD i 0)) = (s.take (i + 1)).map f ++ s.drop (i + 1) := by
  have hg := getD_drop (d := (0 : UInt8)) h
  have hl : ((s.take i).map f).length = i := by simp; omega
  rw [hg, List.set_append_right _ _ (by omega), hl, Nat.sub_self, List.set_cons_zero]
  rw [show s.take (i + 1) = s.take i ++ [s.getD i 0] by
    rw [List.take_add_one]; simp [List.getD, h]]
  simp
theorem countP_all (p : UInt8 → Bool) (s : List UInt8) : (((s.countP p : Nat) : Int) == ((s.length : Nat) : Int)) = s.all p := by
  rw [Bool.eq_iff_iff]
  simp only [beq_iff_eq, List.all_eq_true]
  have := List.countP_eq_length (p := p) (l := s)
  constructor
  · intro h; exact this.1 (by omega)
  · intro h; have := this.2 h; omega
theorem blank_set : (fun c : UInt8 => ([32, 9] : List UInt8).contains c) = blank := by
  funext c
  unfold blank
  simp only [List.contains_cons, List.contains_nil, Bool.or_false]
theorem bneT {a b : Int} (h : a ≠ b) : (a != b) = true := by simp [bne, h]
theorem bneF {a b : Int} (h : a = b) : (a != b) = false := by simp [h]
theorem has_loop (ret : Bool → Option AV) (k0 : Option AV) (hk : k0 = ret false) (s : List UInt8) (c : UInt8) (hl : s.length ≤ 1048576) : ∀ (d i n : Nat), i + d = s.length → d < n →
    ref01_has_l2 ret k0 n s c (i : Nat) = ret ((s.drop i).contains c)
  | d, i, 0, hi, hn => by omega
  | 0, i, n + 1, hi, hn => by
    show ref01_has_l2_b ret k0 (ref01_has_l2 ret k0 n) n _ _ _ = _
    unfold ref01_has_l2_b
    rw [dF (by omega), cond_false, List.drop_eq_nil_of_le (by omega), hk]
    rfl
  | d + 1, i, n + 1, hi, hn => by
    show ref01_has_l2_b ret k0 (ref01_has_l2 ret k0 n) n _ _ _ = _
    unfold ref01_has_l2_b
    have hlt : i < s.length := by omega
    have ih := has_loop ret k0 hk s c hl d (i + 1) n (by omega) (by omega)
    rw [getD_drop (d := (0 : UInt8)) hlt, List.contains_cons]
    simp (disch := omega) only [dT, cond_true, Bool.and_true, tn, i64_succ]
    rw [ih, show (s.getD i 0 == c) = (c == s.getD i 0) from Bool.beq_comm]
    cases (c == s.getD i 0) <;> rfl
/-- A text that is short enough for its signs to be counted. -/
theorem has_math' (s : List UInt8) (c : UInt8) (hl : s.length ≤ 1048576) : ∃ n, ref01_has_sh n s c = ref01_has_ret (ref01_has s c) := ⟨s.length + 1, by
  unfold ref01_has_sh
  have := has_loop ref01_has_ret (ref01_has_k2_0 (s.length + 1)) rfl s c hl s.length 0 (s.length + 1) (by omega) (by omega)
  exact this⟩
theorem ref01_has_math : ∀ (s0 : List UInt8) (c1 : UInt8), (ref01_has_ok s0 c1 = true) → ∃ n, ref01_has_sh n s0 c1 = ref01_has_ret (ref01_has s0 c1) := fun s c h => has_math' s c (lenOk_le h)
theorem ref01_Is_math : ∀ (c0 : UInt8) (kinds1 : Int), ∃ n, ref01_Is_sh n c0 kinds1 = ref01_Is_ret (ref01_Is c0 kinds1) := fun _ _ => ⟨0, rfl⟩
theorem drop_of_dropWhile (p : UInt8 → Bool) : ∀ s : List UInt8, s.drop (s.length - (s.dropWhile p).length) = s.dropWhile p
  | [] => rfl
  | c :: s => by
    rw [List.dropWhile_cons]
    cases p c with
    | true =>
      have := dropWhile_le p s
      simp only [if_true, List.length_cons]
      rw [show s.length + 1 - (s.dropWhile p).length = s.length - (s.dropWhile p).length + 1 by omega, List.drop_succ_cons]
      exact drop_of_dropWhile p s
    | false => simp
/-- Either end may be trimmed first. -/
theorem trim_comm (p : UInt8 → Bool) (s : List UInt8) : dropR p (s.dropWhile p) = trimBy p s := by
  unfold trimBy
  induction s with
  | nil => rfl
  | cons c s ih =>
    rw [List.dropWhile_cons]
    cases hc : p c with
    | true =>
      rw [if_pos rfl, ih]
      rcases List.eq_nil_or_concat (dropR p s) with h0 | ⟨t, x, h0⟩
      · have : dropR p (c :: s) = [] := by
          unfold dropR at h0 ⊢
          rw [List.reverse_cons, List.dropWhile_append]
          have h1 : s.reverse.dropWhile p = [] := by simpa using h0
          rw [h1]
          simp [hc]
        rw [h0, this]
      · have : dropR p (c :: s) = c :: dropR p s := by
          unfold dropR at h0 ⊢
          rw [List.reverse_cons, List.dropWhile_append]
          have h1 : (s.reverse.dropWhile p).isEmpty = false := by
            cases hh : s.reverse.dropWhile p with
            | nil => rw [hh] at h0; simp at h0
            | cons a b => rfl
          rw [h1]
          simp
        rw [this, List.dropWhile_cons, hc]
        rfl
    | false =>
      simp only [Bool.false_eq_true, if_false]
      have : dropR p (c :: s) = c :: dropR p s ∨ dropR p (c :: s) = [c] ∧ dropR p s = [] := by
        unfold dropR
        rw [List.reverse_cons, List.dropWhile_append]
        cases hh : s.reverse.dropWhile p with
        | nil => right; simp [hc]
        | cons a b => left; simp
      rcases this with h | ⟨h, _⟩
      · rw [h, List.dropWhile_cons, hc]; rfl
      · rw [h, List.dropWhile_cons, hc]; rfl
theorem dropR_pre (p : UInt8 → Bool) (s : List UInt8) : s.take (dropR p s).length = dropR p s := by
  have h := drop_of_dropWhile p s.reverse
  unfold dropR
  have hle := dropWhile_le p s.reverse
  rw [List.length_reverse] at hle
  conv => rhs; rw [← h]
  rw [List.length_reverse, List.length_reverse, List.reverse_drop, List.reverse_reverse, List.length_reverse]
  congr 1
  omega
theorem ib_cons (x : UInt8) (s : List UInt8) (c : UInt8) : Lib.indexByte (x :: s) c = if (x == c) = true then 0 else if (Lib.indexByte s c == -1) = true then -1 else Lib.indexByte s c + 1 := rfl
theorem ib_lt : ∀ (s : List UInt8) (c : UInt8), Lib.indexByte s c < (s.length : Int)
  | [], c => by show (-1 : Int) < ((0 : Nat) : Int); omega
  | x :: s, c => by
    have := ib_lt s c
    have hg := Lib.indexByte_ge s c
    rw [ib_cons]
    simp only [List.length_cons]
    split
    · omega
    · split <;> omega
theorem ib_contains : ∀ (s : List UInt8) (c : UInt8), (Lib.indexByte s c != -1) = s.contains c
  | [], c => rfl
  | x :: s, c => by
    have ih := ib_contains s c
    have hg := Lib.indexByte_ge s c
    rw [List.contains_cons, ← ih, ib_cons]
    cases hx : (x == c) with
    | true =>
      have : (c == x) = true := by rw [Bool.beq_comm]; exact hx
      rw [this]; rfl
    | false =>
      have : (c == x) = false := by rw [Bool.beq_comm]; exact hx
      rw [this, Bool.false_or]
      simp only [Bool.false_eq_true, if_false]
      by_cases h : Lib.indexByte s c = -1
      · rw [h]; rfl
      · rw [if_neg (by simpa using h), bneT (by omega), bneT h]
theorem ib_neg (s : List UInt8) (c : UInt8) : decide (Lib.indexByte s c < 0) = !s.contains c := by
  have hg := Lib.indexByte_ge s c
  rw [← ib_contains]
  by_cases h : Lib.indexByte s c = -1
  · rw [h]; rfl
  · rw [bneT h, dF (by omega)]; rfl
theorem nameLen {s : List UInt8} (h : s ≠ []) : s.isEmpty = false := by cases s with
  | nil => exact absurd rfl h
  | cons a b => rfl
theorem cut1_ok {s : List UInt8} (h : lenOk s = true) : bytes_Cut_ok s [58] = true := by unfold bytes_Cut_ok; rw [h]; rfl
theorem cut_le (s sep : List UInt8) : (bytes_Cut s sep).1.length ≤ s.length ∧ (bytes_Cut s sep).2.1.length ≤ s.length := by
  unfold bytes_Cut
  cases decide ((0 : Int) ≤ Lib.index s sep) with
  | true => exact ⟨by simp; omega, by simp⟩
  | false => exact ⟨Nat.le_refl _, by simp⟩
theorem getD_last {α : Type} (pre : List α) (c d : α) : List.getD (pre ++ [c]) pre.length d = c := by simp
theorem set_last {α : Type} (pre : List α) (c y : α) : List.set (pre ++ [c]) pre.length y = pre ++ [y] := by
  rw [List.set_append_right _ _ (Nat.le_refl _), Nat.sub_self]
  rfl
theorem splitS_nil (cur : List UInt8) : splitS cur [] = [cur] := rfl
theorem splitS_step (cur : List UInt8) (c : UInt8) (r : List UInt8) : splitS cur (c :: r) = if c = 13 ∧ r.head? = some 10 then cur :: splitS [] (r.drop 1) else splitS (cur ++ [c]) r := by
  have h : lineB true [] r = splitS [] (r.drop 1) := by cases r <;> rfl
  unfold splitS
  rw [show lineB false cur (c :: r) = if c = 13 ∧ r.head? = some 10 then cur :: lineB true [] r else lineB false (cur ++ [c]) r from rfl, h]
  rfl
theorem head_getD {s : List UInt8} {i : Nat} : (s.drop i).head? = some 10 ↔ (i < s.length ∧ s.getD i 0 = 10) := by
  rw [List.head?_drop]
  constructor
  · intro h
    obtain ⟨h1, h2⟩ := List.getElem?_eq_some_iff.1 h
    exact ⟨h1, by simp [List.getD, h1, h2]⟩
  · intro ⟨h1, h2⟩
    simp [List.getD, h1] at h2
    rw [List.getElem?_eq_getElem h1, h2]
theorem lines_loop (k0 : List (List UInt8) → Option AV) (s : List UInt8) (hl : s.length ≤ 1048576) : ∀ (d i n : Nat) (pre : List (List UInt8)) (cur : List UInt8), i + d = s.length → d < n → pre.length + d ≤ 1048576 → cur.length + d ≤ 1048576 →
    ref18_Lines_l3 k0 n s (pre ++ [cur]) (i : Nat) = k0 (pre ++ splitS cur (s.drop i)) := by
  intro d
  induction d using Nat.strongRecOn with
  | ind d ih =>
    intro i n pre cur hi hn hp hc
    cases n with
    | zero => omega
    | succ n =>
      show ref18_Lines_l3_b k0 (ref18_Lines_l3 k0 n) n _ _ _ = _
      unfold ref18_Lines_l3_b
      by_cases hlt : i < s.length
      · have hlen : (pre ++ [cur]).length = pre.length + 1 := by simp
        have hw : IntKind.wrap .i64 (((pre ++ [cur]).length : Int) - 1) = ((pre.length : Nat) : Int) := by rw [wr (by omega)]; omega
        rw [getD_drop (d := (0 : UInt8)) hlt, splitS_step]
        have one : ref18_Lines_l3 k0 n s (pre ++ [cur ++ [s.getD i 0]]) ((i + 1 : Nat) : Int) = k0 (pre ++ splitS (cur ++ [s.getD i 0]) (s.drop (i + 1))) := ih (d - 1) (by omega) (i + 1) n pre _ (by omega) (by omega) (by omega) (by simp; omega)
        have hr : decide ((cur.length : Nat) + ([s.getD i 0] : List UInt8).length ≤ room) = true := dT (by unfold room; simp; omega)
        have h13 : (s.getD i 0 == 13) = decide (s.getD i 0 = 13) := rfl
        rw [hw]
        simp (disch := omega) only [dT, cond_true, Bool.and_true, tn, i64_succ, getD_last, set_last, hr, h13, beq_self_eq_true]
        by_cases h1 : s.getD i 0 = 13
        · rw [decide_eq_true h1, cond_true]
          by_cases h2 : i + 1 < s.length
          · simp (disch := omega) only [dT, cond_true, Bool.and_true, tn, i64_succ]
            by_cases h3 : s.getD (i + 1) 0 = 10
            · rw [show (s.getD (i + 1) 0 == 10) = true from beq_iff_eq.2 h3, cond_true, if_pos ⟨h1, head_getD.2 ⟨h2, h3⟩⟩, dT (show (pre ++ [cur]).length + ([[]] : List (List UInt8)).length ≤ room by unfold room; simp; omega), cond_true, List.drop_drop]
              have := ih (d - 2) (by omega) (i + 2) n (pre ++ [cur]) [] (by omega) (by omega) (by simp; omega) (by simp; omega)
              refine Eq.trans this ?_
              rw [List.append_assoc, List.singleton_append]
            · rw [show (s.getD (i + 1) 0 == 10) = false from beq_eq_false_iff_ne.2 h3, cond_false, if_neg (fun h => h3 (head_getD.1 h.2).2)]
              exact one
          · rw [dF (by omega), cond_false, if_neg (fun h => h2 (head_getD.1 h.2).1)]
            exact one
        · rw [decide_eq_false h1, cond_false, if_neg (fun h => h1 h.1)]
          exact one
      · rw [dF (by omega), cond_false, List.drop_eq_nil_of_le (by omega)]
        rfl
theorem splitS_ne : ∀ (s cur : List UInt8), splitS cur s ≠ []
  | [], cur => by simp [splitS_nil]
  | c :: r, cur => by
    rw [splitS_step]
    split
    · simp
    · exact splitS_ne r _
theorem linesEnd_last : ∀ (pre : List (List UInt8)) (x : List UInt8), linesEnd (pre ++ [x]) = if x = [] then (pre, true) else (pre ++ [x], false)
  | [], x => by
    simp only [List.nil_append, linesEnd]
  | a :: pre, x => by
    have ih := linesEnd_last pre x
    have : linesEnd (a :: pre ++ [x]) = (a :: (linesEnd (pre ++ [x])).1, (linesEnd (pre ++ [x])).2) := by
      cases pre with
      | nil => rfl
      | cons b p => rfl
    rw [this, ih]
    split <;> rfl
theorem ref18_Lines_math : ∀ (s0 : List UInt8), (ref18_Lines_ok s0 = true) → ∃ n, ref18_Lines_sh n s0 = ref18_Lines_ret (ref18_Lines s0).1 (ref18_Lines s0).2 := fun s h => ⟨s.length + 1, by
  have hl := lenOk_le h
  unfold ref18_Lines_sh
  refine (lines_loop (ref18_Lines_k3_0 (s.length + 1)) s hl s.length 0 (s.length + 1) [] [] (by omega) (by omega) (by simp; omega) (by simp; omega)).trans ?_
  rw [List.nil_append, List.drop_zero]
  unfold ref18_Lines
  have hlen : (splitS [] s).length ≤ s.length + 1 := by
    have : ∀ (n : Nat) (s cur : List UInt8), s.length ≤ n → (splitS cur s).length ≤ s.length + 1 := by
      intro n
      induction n with
      | zero => intro s cur h0; cases s with
        | nil => simp [splitS_nil]
        | cons a b => simp at h0
      | succ n ih =>
        intro s cur h0
        cases s with
        | nil => simp [splitS_nil]
        | cons c r =>
          rw [splitS_step]
          simp only [List.length_cons] at h0 ⊢
          split
          · have := ih (r.drop 1) [] (by simp; omega)
            simp only [List.length_cons, List.length_drop] at this ⊢
            omega
          · have := ih r (cur ++ [c]) (by omega)
            omega
    exact this s.length s [] (Nat.le_refl _)
  rcases List.eq_nil_or_concat (splitS [] s) with h0 | ⟨pre, x, h0⟩
  · exact absurd h0 (splitS_ne s [])
  · rw [List.concat_eq_append] at h0
    rw [h0] at hlen ⊢
    rw [linesEnd_last]
    have hl2 : (pre ++ [x]).length = pre.length + 1 := by simp
    have hw : IntKind.wrap .i64 (((pre ++ [x]).length : Int) - 1) = ((pre.length : Nat) : Int) := by rw [wr (by omega)]; omega
    unfold ref18_Lines_k3_0
    rw [hw]
    have ht : List.drop (Int.toNat ((0 : Nat) : Int)) (List.take pre.length (pre ++ [x])) = pre := by simp
    simp (disch := omega) only [dT, cond_true, Bool.and_true, tn, getD_last, ht]
    cases x with
    | nil => rw [if_pos rfl]; simp
    | cons a b => rw [if_neg (by simp), bneI (by simp only [List.length_cons]; omega)]; rfl⟩
theorem crlf_head (c : UInt8) (r : List UInt8) : (([13, 10] : List UInt8).isPrefixOf (c :: r)) = decide (c = 13 ∧ r.head? = some 10) := by
  cases r with
  | nil => simp [List.isPrefixOf]
  | cons e r =>
    simp only [List.isPrefixOf, Bool.and_true, List.head?_cons, Option.some.injEq]
    rw [Bool.eq_iff_iff]
    simp only [Bool.and_eq_true, beq_iff_eq, decide_eq_true_eq]
    exact ⟨fun h => ⟨h.1.symm, h.2.symm⟩, fun h => ⟨h.1.symm, h.2.symm⟩⟩
theorem idx_cons (c : UInt8) (r : List UInt8) : Lib.index (c :: r) [13, 10] = if c = 13 ∧ r.head? = some 10 then 0 else if Lib.index r [13, 10] = -1 then -1 else Lib.index r [13, 10] + 1 := by
  have : Lib.index (c :: r) [13, 10] = if ([13, 10] : List UInt8).isPrefixOf (c :: r) then 0 else if Lib.index r [13, 10] == -1 then -1 else Lib.index r [13, 10] + 1 := rfl
  rw [this, crlf_head]
  by_cases h : c = 13 ∧ r.head? = some 10
  · rw [if_pos h, if_pos (by simpa using h)]
  · rw [if_neg h, if_neg (by simpa using h)]
    by_cases h2 : Lib.index r [13, 10] = -1
    · simp [h2]
    · rw [if_neg h2, if_neg (by simpa using h2)]
theorem head_drop {r : List UInt8} (h : r.head? = some 10) : 1 ≤ r.length := by cases r with
  | nil => cases h
  | cons a b => simp
/-- Where the first line ends. -/
theorem split_cut : ∀ (s cur : List UInt8), (Lib.index s [13, 10] = -1 ∧ splitS cur s = [cur ++ s]) ∨
    (∃ k : Nat, Lib.index s [13, 10] = k ∧ k + 2 ≤ s.length ∧ splitS cur s = (cur ++ s.take k) :: splitS [] (s.drop (k + 2)))
  | [], cur => .inl ⟨rfl, by simp [splitS_nil]⟩
  | c :: r, cur => by
    rw [idx_cons, splitS_step]
    by_cases h : c = 13 ∧ r.head? = some 10
    · right
      rw [if_pos h, if_pos h]
      refine ⟨0, rfl, by have := head_drop h.2; simp; omega, ?_⟩
      simp
    · rw [if_neg h, if_neg h]
      rcases split_cut r (cur ++ [c]) with ⟨h1, h2⟩ | ⟨k, h1, h2, h3⟩
      · left
        rw [h1, if_pos rfl, h2]
        exact ⟨rfl, by simp⟩
      · right
        refine ⟨k + 1, by rw [h1, if_neg (by omega)]; omega, by simp; omega, ?_⟩
        rw [h3]
        simp
theorem cut_crlf (s : List UInt8) : (bytes_Cut s [13, 10] = (s, [], false) ∧ splitS [] s = [s] ∧ Lib.index s [13, 10] = -1) ∨
    (∃ k : Nat, k + 2 ≤ s.length ∧ bytes_Cut s [13, 10] = (s.take k, s.drop (k + 2), true) ∧ splitS [] s = s.take k :: splitS [] (s.drop (k + 2)) ∧ Lib.index s [13, 10] = k) := by
  rcases split_cut s [] with ⟨h1, h2⟩ | ⟨k, h1, h2, h3⟩
  · left
    refine ⟨?_, by simpa using h2, h1⟩
    unfold bytes_Cut
    rw [h1]
    rfl
  · right
    refine ⟨k, h2, ?_, by simpa using h3, h1⟩
    unfold bytes_Cut
    rw [h1, dT (by omega), cond_true, tn]
    rfl
def linesOf (s : List UInt8) : List (List UInt8) := (linesEnd (splitS [] s)).1
theorem linesOf_nil : linesOf [] = [] := rfl
theorem linesEnd_cons (x : List UInt8) (l : List (List UInt8)) (h : l ≠ []) : (linesEnd (x :: l)).1 = x :: (linesEnd l).1 := by
  cases l with
  | nil => exact absurd rfl h
  | cons a b => rfl
theorem linesOf_cons (s : List UInt8) (h : s ≠ []) : linesOf s = (bytes_Cut s [13, 10]).1 :: linesOf (bytes_Cut s [13, 10]).2.1 := by
  unfold linesOf
  rcases cut_crlf s with ⟨h1, h2, _⟩ | ⟨k, h1, h2, h3, _⟩
  · rw [h1, h2]
    show (linesEnd [s]).1 = s :: (linesEnd [[]]).1
    simp [linesEnd, h]
  · rw [h2, h3]
    exact linesEnd_cons _ _ (splitS_ne _ _)
theorem cut2_ok {s : List UInt8} (h : lenOk s = true) : bytes_Cut_ok s [13, 10] = true := by unfold bytes_Cut_ok; rw [h]; rfl
/-- The line and what is behind it are shorter. -/
theorem cut_short (s : List UInt8) (h : s ≠ []) : (bytes_Cut s [13, 10]).2.1.length < s.length ∧ ((bytes_Cut s [13, 10]).2.1 = [] ∨ (bytes_Cut s [13, 10]).1.length + 2 + (bytes_Cut s [13, 10]).2.1.length = s.length) ∧ (bytes_Cut s [13, 10]).1.length ≤ s.length := by
  have hp : 0 < s.length := List.length_pos_iff.2 h
  rcases cut_crlf s with ⟨h1, h2, _⟩ | ⟨k, h1, h2, h3, _⟩
  · rw [h1]
    exact ⟨hp, .inl rfl, Nat.le_refl _⟩
  · rw [h2]
    refine ⟨by simp; omega, .inr ?_, by simp; omega⟩
    simp only [List.length_take, List.length_drop]
    omega
theorem glue_eq (l : List (List UInt8)) (x : List UInt8) : glue l x = List.set l (l.length - 1) ((List.getD l (l.length - 1) [] ++ [13, 10]) ++ x) := rfl
theorem glue_mem {l : List (List UInt8)} {x y : List UInt8} (hl : l ≠ []) (h : y ∈ glue l x) : y ∈ l ∨ ∃ z ∈ l, y = z ++ [13, 10] ++ x := by
  unfold glue at h
  rcases List.mem_or_eq_of_mem_set h with h | h
  · exact .inl h
  · right
    have hp : 0 < l.length := List.length_pos_iff.2 hl
    refine ⟨List.getD l (l.length - 1) [], ?_, h⟩
    rw [List.getD_eq_getElem?_getD, List.getElem?_eq_getElem (by omega)]
    exact List.getElem_mem _
end Go.Av
