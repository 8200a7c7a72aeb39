/-
  The shallow readings of the library's small functions compute what FoM says.
-/
import Derived.Test.YtnfehbljinflbaaDoorEtSh
import Derived.IntWalk
import Derived.KernelRfl
namespace Go.Av
theorem like_drop {α : Type} [DecidableEq α] {a b : List α} {i : Nat} (ha : i < a.length) (hb : i < b.length) (d : α) : decide (a.drop i = b.drop i) = bif a.getD i d != b.getD i d then false else decide (a.drop (i + 1) = b.drop (i + 1)) := by
  rw [getD_drop (d := d) ha, getD_drop (d := d) hb]
  generalize a.getD i d = x
  generalize b.getD i d = y
  by_cases h : x = y
  · subst h; simp
  · simp [h]

theorem ref01_Like_loop (ret : Bool → Option AV) (a b : List UInt8) (hab : a.length = b.length) (hl : a.length ≤ 1048576) : ∀ (d i n : Nat), i + d = a.length → d < n →
    ref01_Like_l4 ret (ret true) n a b (i : Nat) = ret (decide (a.drop i = b.drop i))
  | d, i, 0, hi, hn => by omega
  | 0, i, n + 1, hi, hn => by
    show ref01_Like_l4_b ret (ret true) (ref01_Like_l4 ret (ret true) n) n a b _ = _
    unfold ref01_Like_l4_b
    rw [decide_eq_false (by omega), cond_false, List.drop_eq_nil_of_le (by omega), List.drop_eq_nil_of_le (by omega)]
    rfl
  | d + 1, i, n + 1, hi, hn => by
    show ref01_Like_l4_b ret (ret true) (ref01_Like_l4 ret (ret true) n) n a b _ = _
    unfold ref01_Like_l4_b
    have hlt : i < a.length := by omega
    have hlt' : i < b.length := by omega
    have ih := ref01_Like_loop ret a b hab hl d (i + 1) n (by omega) (by omega)
    rw [dec_lt, decide_eq_true hlt, cond_true, dec_nonneg, Bool.true_and, cond_true, Bool.true_and, dec_lt, decide_eq_true hlt', cond_true, i64_succ (by omega), toNat_nat, ih, like_drop hlt hlt' 0]
    cases (a.getD i 0 != b.getD i 0) <;> rfl

theorem ref01_Like_math : ∀ (a0 : List UInt8) (b1 : List UInt8), (ref01_Like_ok a0 b1 = true) → ∃ n, ref01_Like_sh n a0 b1 = ref01_Like_ret (ref01_Like a0 b1) := fun a b h => ⟨a.length + 1, by
  unfold ref01_Like_sh ref01_Like
  by_cases hab : a.length = b.length
  · rw [show (((a.length : Nat) : Int) != ((b.length : Nat) : Int)) = false by simp [hab], cond_false]
    exact ref01_Like_loop ref01_Like_ret a b hab (lenOk_le h) a.length 0 (a.length + 1) (by omega) (by omega)
  · rw [show (((a.length : Nat) : Int) != ((b.length : Nat) : Int)) = true by simp only [bne_iff_ne, ne_eq]; omega, cond_true, decide_eq_false (fun e => hab (by rw [e]))]⟩

theorem bytes_shouldUseASCIISet_math : ∀ (bufLen0 : Int), ∃ n, bytes_shouldUseASCIISet_sh n bufLen0 = bytes_shouldUseASCIISet_ret (bytes_shouldUseASCIISet bufLen0) := fun _ => ⟨0, rfl⟩

theorem byte_lt256 (c : UInt8) : decide (((UInt8.toNat c : Nat) : Int) < (256 : Nat)) = true := by
  have := c.toNat_lt
  rw [decide_eq_true]
  omega

theorem makeASCIISet_loop (ret : List Bool → Bool → Option AV) (k0 : List Bool → Option AV) (cs : List UInt8) (ha : ascii cs = true) (hl : cs.length ≤ 1048576) : ∀ (d i n : Nat) (a : List Bool), i + d = cs.length → d < n →
    bytes_makeASCIISet_l2 ret k0 n cs a (i : Nat) = k0 (setOf (cs.drop i) a)
  | d, i, 0, a, hi, hn => by omega
  | 0, i, n + 1, a, hi, hn => by
    show bytes_makeASCIISet_l2_b ret k0 (bytes_makeASCIISet_l2 ret k0 n) n cs a _ = _
    unfold bytes_makeASCIISet_l2_b
    rw [decide_eq_false (by omega), cond_false, List.drop_eq_nil_of_le (by omega)]
    rfl
  | d + 1, i, n + 1, a, hi, hn => by
    show bytes_makeASCIISet_l2_b ret k0 (bytes_makeASCIISet_l2 ret k0 n) n cs a _ = _
    unfold bytes_makeASCIISet_l2_b
    have hlt : i < cs.length := by omega
    have hc : decide ((128 : UInt8) ≤ List.getD cs i 0) = false := by
      unfold ascii at ha
      rw [List.all_eq_true] at ha
      have := ha (cs.getD i 0) (by simp [List.getD, hlt])
      rw [decide_eq_false_iff_not]
      simp only [decide_eq_true_eq] at this
      exact UInt8.not_le.2 this
    rw [dec_lt, decide_eq_true hlt, cond_true, dec_nonneg, Bool.true_and, cond_true, toNat_nat, hc, cond_false, dec_nonneg, byte_lt256, Bool.true_and, cond_true, i64_succ (by omega),
      makeASCIISet_loop ret k0 cs ha hl d (i + 1) n _ (by omega) (by omega), getD_drop (d := 0) hlt]
    rfl
theorem bytes_makeASCIISet_math : ∀ (chars0 : List UInt8), (bytes_makeASCIISet_ok chars0 = true) → ∃ n, bytes_makeASCIISet_sh n chars0 = bytes_makeASCIISet_ret (bytes_makeASCIISet chars0).1 (bytes_makeASCIISet chars0).2 := fun cs h => ⟨cs.length + 1, by
  unfold bytes_makeASCIISet_ok at h
  rw [Bool.and_eq_true] at h
  exact makeASCIISet_loop bytes_makeASCIISet_ret (bytes_makeASCIISet_k2_0 (cs.length + 1)) cs h.1 (lenOk_le h.2) cs.length 0 (cs.length + 1) _ (by omega) (by omega)⟩
theorem __bytes_asciiSet__contains_math : ∀ (as0 : List Bool) (c1 : UInt8), ∃ n, __bytes_asciiSet__contains_sh n as0 c1 = __bytes_asciiSet__contains_ret (__bytes_asciiSet__contains as0 c1) := fun as c => ⟨0, by
  unfold __bytes_asciiSet__contains_sh
  rw [dec_nonneg, byte_lt256]
  rfl⟩
theorem octet_plain_math : ∀ (c0 : UInt8), ∃ n, octet_plain_sh n c0 = octet_plain_ret (octet_plain c0) := fun c => ⟨0, by
  unfold octet_plain_sh octet_plain plainTail orI
  cases decide (c < (32 : UInt8)) <;> cases (c == (127 : UInt8)) <;> cases (c == (32 : UInt8)) <;> cases (c == (9 : UInt8)) <;> cases decide ((48 : UInt8) ≤ c) <;> cases decide (c ≤ (57 : UInt8)) <;> cases decide ((65 : UInt8) ≤ c) <;> cases decide (c ≤ (90 : UInt8)) <;> cases decide ((97 : UInt8) ≤ c) <;> cases decide (c ≤ (122 : UInt8)) <;> rfl⟩
theorem internal_stringslite_IndexByte_math : ∀ (s0 : List UInt8) (c1 : UInt8), ∃ n, internal_stringslite_IndexByte_sh n s0 c1 = internal_stringslite_IndexByte_ret (internal_stringslite_IndexByte s0 c1) := fun _ _ => ⟨0, rfl⟩
theorem strings_IndexByte_math : ∀ (s0 : List UInt8) (c1 : UInt8), ∃ n, strings_IndexByte_sh n s0 c1 = strings_IndexByte_ret (strings_IndexByte s0 c1) := fun _ _ => ⟨0, rfl⟩
theorem octet_in_math : ∀ (s0 : List UInt8) (c1 : UInt8), ∃ n, octet_in_sh n s0 c1 = octet_in_ret (octet_in s0 c1) := fun _ _ => ⟨0, rfl⟩
theorem octet_Kinds_math : ∀ (c0 : UInt8), ∃ n, octet_Kinds_sh n c0 = octet_Kinds_ret (octet_Kinds c0) := fun c => ⟨0, by
  unfold octet_Kinds_sh octet_Kinds kindIf orI
  cases decide (c < (33 : UInt8)) <;> cases decide ((126 : UInt8) < c) <;> cases octet_in [33, 42, 43, 45, 47] c <;> cases octet_in [43, 47] c <;> cases octet_in [40, 41, 60, 62, 64, 44, 59, 58, 92, 34, 47, 91, 93, 63, 61] c <;> cases octet_in [42, 39, 37] c <;> rfl⟩
theorem octet_Is_math : ∀ (c0 : UInt8) (kinds1 : Int), ∃ n, octet_Is_sh n c0 kinds1 = octet_Is_ret (octet_Is c0 kinds1) := fun _ _ => ⟨0, rfl⟩
end Go.Av
