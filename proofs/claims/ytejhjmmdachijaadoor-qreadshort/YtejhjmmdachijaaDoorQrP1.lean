import Derived.Test.YtejhjmmdachijaaDoorQrSh
import Derived.Test.YtejhjmmdachijaaDoorAvE
import Derived.Lib.IndexAny
import Derived.Lib.IndexMore
import Derived.Lib.IndexBytes
import Derived.IntWalk
import Derived.KernelRfl
namespace Go.Av
set_option linter.unusedVariables false
set_option linter.unusedSimpArgs false
theorem tmod16 (n : Int) : Int.tmod (Int.tmod n 16 + 16) 16 = n % 16 := by
  have h : Int.tmod n 16 = n % 16 ∨ Int.tmod n 16 = n % 16 - 16 := by
    rcases Int.le_total 0 n with h | h
    · exact .inl (Int.tmod_eq_emod_of_nonneg h)
    · have h2 : Int.tmod n 16 = -((-n) % 16) := by
        have := Int.neg_tmod (-n) 16
        rw [Int.neg_neg] at this
        rw [this, Int.tmod_eq_emod_of_nonneg (by omega)]
      omega
  have h3 : 0 ≤ Int.tmod n 16 + 16 := by omega
  rw [Int.tmod_eq_emod_of_nonneg h3]
  omega
theorem tmod16_range (n : Int) : -16 < Int.tmod n 16 ∧ Int.tmod n 16 < 16 := by
  have h : Int.tmod n 16 = n % 16 ∨ Int.tmod n 16 = n % 16 - 16 ∧ n % 16 ≠ 0 := by
    rcases Int.le_total 0 n with h | h
    · exact .inl (Int.tmod_eq_emod_of_nonneg h)
    · have h2 : Int.tmod n 16 = -((-n) % 16) := by
        have := Int.neg_tmod (-n) 16
        rw [Int.neg_neg] at this
        rw [this, Int.tmod_eq_emod_of_nonneg (by omega)]
      omega
  omega
theorem digits_small : ∀ j : Fin 16, (bif decide (((j.val : Nat) : Int) < 10) then UInt8.ofNat (Int.toNat (IntKind.wrap .u8 (IntKind.wrap .i64 ((48 : Int) + ((j.val : Nat) : Int)))))
    else UInt8.ofNat (Int.toNat (IntKind.wrap .u8 (IntKind.wrap .i64 ((IntKind.wrap .i64 ((65 : Int) + ((j.val : Nat) : Int))) - (10 : Int)))))) = List.getD hexD j.val 0 := by decide +kernel
theorem z58_math : ∀ (n0 : Int), (z58_ok n0 = true) → ∃ n, z58_sh n n0 = z58_ret (z58 n0) := fun n _ => ⟨0, by
  unfold z58_sh z58
  have hr := tmod16_range n
  rw [IntWalk.i64_in (Int.tmod n 16 + 16) (by omega), tmod16]
  have hj : (n % 16).toNat < 16 := by omega
  have := digits_small ⟨(n % 16).toNat, hj⟩
  simp only [Int.toNat_of_nonneg (show 0 ≤ n % 16 by omega)] at this
  rw [← this]
  cases decide (n % 16 < 10) <;> rfl⟩
theorem z98_math : ∀ (c0 : UInt8), ∃ n, z98_sh n c0 = z98_ret (z98 c0) := fun c => ⟨0, by
  unfold z98_sh z98
  cases decide ((65 : UInt8) ≤ c) <;> cases decide (c ≤ (90 : UInt8)) <;> rfl⟩
theorem like_drop {α : Type} [DecidableEq α] {a b : List α} {i : Nat} (ha : i < a.length) (hb : i < b.length) (d : α) : decide (a.drop i = b.drop i) = bif a.getD i d != b.getD i d then false else decide (a.drop (i + 1) = b.drop (i + 1)) := by
  rw [getD_drop (d := d) ha, getD_drop (d := d) hb]
  generalize a.getD i d = x
  generalize b.getD i d = y
  by_cases h : x = y
  · subst h; simp
  · simp [h]
theorem z18_loop (ret : Bool → Option AV) (a b : List UInt8) (hab : a.length = b.length) (hl : a.length ≤ 1048576) : ∀ (d i n : Nat), i + d = a.length → d < n →
    z18_l4 ret (ret true) n a b (i : Nat) = ret (decide (a.drop i = b.drop i))
  | d, i, 0, hi, hn => by omega
  | 0, i, n + 1, hi, hn => by
    show z18_l4_b ret (ret true) (z18_l4 ret (ret true) n) n a b _ = _
    unfold z18_l4_b
    rw [decide_eq_false (by omega), cond_false, List.drop_eq_nil_of_le (by omega), List.drop_eq_nil_of_le (by omega)]
    rfl
  | d + 1, i, n + 1, hi, hn => by
    show z18_l4_b ret (ret true) (z18_l4 ret (ret true) n) n a b _ = _
    unfold z18_l4_b
    have hlt : i < a.length := by omega
    have hlt' : i < b.length := by omega
    have ih := z18_loop ret a b hab hl d (i + 1) n (by omega) (by omega)
    rw [dec_lt, decide_eq_true hlt, cond_true, dec_nonneg, Bool.true_and, cond_true, Bool.true_and, dec_lt, decide_eq_true hlt', cond_true, i64_succ (by omega), toNat_nat, ih, like_drop hlt hlt' 0]
    cases (a.getD i 0 != b.getD i 0) <;> rfl
theorem z18_math : ∀ (a0 : List UInt8) (b1 : List UInt8), (z18_ok a0 b1 = true) → ∃ n, z18_sh n a0 b1 = z18_ret (z18 a0 b1) := fun a b h => ⟨a.length + 1, by
  unfold z18_sh z18
  by_cases hab : a.length = b.length
  · rw [show (((a.length : Nat) : Int) != ((b.length : Nat) : Int)) = false by simp [hab], cond_false]
    exact z18_loop z18_ret a b hab (lenOk_le h) a.length 0 (a.length + 1) (by omega) (by omega)
  · rw [show (((a.length : Nat) : Int) != ((b.length : Nat) : Int)) = true by simp only [bne_iff_ne, ne_eq]; omega, cond_true, decide_eq_false (fun e => hab (by rw [e]))]⟩
theorem z84_math : ∀ (bufLen0 : Int), ∃ n, z84_sh n bufLen0 = z84_ret (z84 bufLen0) := fun _ => ⟨0, rfl⟩
theorem byte_lt256 (c : UInt8) : decide (((UInt8.toNat c : Nat) : Int) < (256 : Nat)) = true := by
  have := c.toNat_lt
  rw [decide_eq_true]
  omega
theorem makeASCIISet_loop (ret : List Bool → Bool → Option AV) (k0 : List Bool → Option AV) (cs : List UInt8) (ha : ascii cs = true) (hl : cs.length ≤ 1048576) : ∀ (d i n : Nat) (a : List Bool), i + d = cs.length → d < n →
    z78_l2 ret k0 n cs a (i : Nat) = k0 (setOf (cs.drop i) a)
  | d, i, 0, a, hi, hn => by omega
  | 0, i, n + 1, a, hi, hn => by
    show z78_l2_b ret k0 (z78_l2 ret k0 n) n cs a _ = _
    unfold z78_l2_b
    rw [decide_eq_false (by omega), cond_false, List.drop_eq_nil_of_le (by omega)]
    rfl
  | d + 1, i, n + 1, a, hi, hn => by
    show z78_l2_b ret k0 (z78_l2 ret k0 n) n cs a _ = _
    unfold z78_l2_b
    have hlt : i < cs.length := by omega
    have hc : decide ((128 : UInt8) ≤ List.getD cs i 0) = false := by
      unfold ascii at ha
      rw [List.all_eq_true] at ha
      have := ha (cs.getD i 0) (by simp [List.getD, hlt])
      rw [decide_eq_false_iff_not]
      simp only [decide_eq_true_eq] at this
      exact UInt8.not_le.2 this
    rw [dec_lt, decide_eq_true hlt, cond_true, dec_nonneg, Bool.true_and, cond_true, toNat_nat, hc, cond_false, dec_nonneg, byte_lt256, Bool.true_and, cond_true, i64_succ (by omega),
      makeASCIISet_loop ret k0 cs ha hl d (i + 1) n _ (by omega) (by omega), getD_drop (d := 0) hlt]
    rfl
theorem z78_math : ∀ (chars0 : List UInt8), (z78_ok chars0 = true) → ∃ n, z78_sh n chars0 = z78_ret (z78 chars0).1 (z78 chars0).2 := fun cs h => ⟨cs.length + 1, by
  unfold z78_ok at h
  rw [Bool.and_eq_true] at h
  exact makeASCIISet_loop z78_ret (z78_k2_0 (cs.length + 1)) cs h.1 (lenOk_le h.2) cs.length 0 (cs.length + 1) _ (by omega) (by omega)⟩
theorem z85_math : ∀ (as0 : List Bool) (c1 : UInt8), ∃ n, z85_sh n as0 c1 = z85_ret (z85 as0 c1) := fun as c => ⟨0, by
  unfold z85_sh
  rw [dec_nonneg, byte_lt256]
  rfl⟩
theorem z73_math : ∀ (c0 : UInt8), ∃ n, z73_sh n c0 = z73_ret (z73 c0) := fun c => ⟨0, by
  unfold z73_sh z73 plainTail orI
  cases decide (c < (32 : UInt8)) <;> cases (c == (127 : UInt8)) <;> cases (c == (32 : UInt8)) <;> cases (c == (9 : UInt8)) <;> cases decide ((48 : UInt8) ≤ c) <;> cases decide (c ≤ (57 : UInt8)) <;> cases decide ((65 : UInt8) ≤ c) <;> cases decide (c ≤ (90 : UInt8)) <;> cases decide ((97 : UInt8) ≤ c) <;> cases decide (c ≤ (122 : UInt8)) <;> rfl⟩
theorem z99_math : ∀ (s0 : List UInt8) (c1 : UInt8), ∃ n, z99_sh n s0 c1 = z99_ret (z99 s0 c1) := fun _ _ => ⟨0, rfl⟩
theorem z92_math : ∀ (s0 : List UInt8) (c1 : UInt8), ∃ n, z92_sh n s0 c1 = z92_ret (z92 s0 c1) := fun _ _ => ⟨0, rfl⟩
theorem z74_math : ∀ (s0 : List UInt8) (c1 : UInt8), ∃ n, z74_sh n s0 c1 = z74_ret (z74 s0 c1) := fun _ _ => ⟨0, rfl⟩
theorem z54_math : ∀ (c0 : UInt8), ∃ n, z54_sh n c0 = z54_ret (z54 c0) := fun c => ⟨0, by
  unfold z54_sh z54 kindIf orI
  cases decide (c < (33 : UInt8)) <;> cases decide ((126 : UInt8) < c) <;> cases z74 [33, 42, 43, 45, 47] c <;> cases z74 [43, 47] c <;> cases z74 [40, 41, 60, 62, 64, 44, 59, 58, 92, 34, 47, 91, 93, 63, 61] c <;> cases z74 [42, 39, 37] c <;> rfl⟩
theorem z41_math : ∀ (c0 : UInt8) (kinds1 : Int), ∃ n, z41_sh n c0 kinds1 = z41_ret (z41 c0 kinds1) := fun _ _ => ⟨0, rfl⟩
theorem wrapByte (c : UInt8) : IntKind.wrap .i64 ((UInt8.toNat c : Nat) : Int) = ((UInt8.toNat c : Nat) : Int) := by
  have := c.toNat_lt
  exact IntWalk.i64_in _ (by omega)
theorem z91_math : ∀ (c0 : UInt8), ∃ n, z91_sh n c0 = z91_ret (z91 c0).1 (z91 c0).2 := fun c => ⟨0, by
  unfold z91_sh z91
  have h := (z98 c - 97).toNat_lt
  rw [wrapByte, wrapByte, IntWalk.i64_in (((z98 c - 97).toNat : Int) + 10) (by omega)]
  cases z41 (z98 c) 8 <;> cases decide ((97 : UInt8) ≤ z98 c) <;> cases decide (z98 c ≤ (102 : UInt8)) <;> rfl⟩
theorem z61_loop (ret : Int → Bool → Option AV) (k0 : Option AV) (hk : k0 = ret 0 false) (c : UInt8) : ∀ (d : Nat) (i : Int) (n : Nat), i + d = 16 → 0 ≤ i → d < n →
    z61_l2 ret k0 n c i = ret (refVal d i c).1 (refVal d i c).2
  | d, i, 0, hi, h0, hn => by omega
  | 0, i, n + 1, hi, h0, hn => by
    show z61_l2_b ret k0 (z61_l2 ret k0 n) n c i = _
    unfold z61_l2_b
    rw [decide_eq_false (by omega), cond_false, hk]
    rfl
  | d + 1, i, n + 1, hi, h0, hn => by
    show z61_l2_b ret k0 (z61_l2 ret k0 n) n c i = _
    unfold z61_l2_b
    have hok : z58_ok i = true := by unfold z58_ok; rw [decide_eq_true_eq]; omega
    rw [decide_eq_true (by omega), cond_true, hok, IntWalk.i64_in (i + 1) (by omega), z61_loop ret k0 hk c d (i + 1) n (by omega) (by omega) (by omega)]
    show _ = ret (bif z58 i == c then (i, true) else bif decide ((10 : Int) ≤ i) && (z58 i + 32 == c) then (i, true) else refVal d (i + 1) c).1 (bif z58 i == c then (i, true) else bif decide ((10 : Int) ≤ i) && (z58 i + 32 == c) then (i, true) else refVal d (i + 1) c).2
    generalize refVal d (i + 1) c = z
    cases z58 i == c <;> cases decide ((10 : Int) ≤ i) <;> cases z58 i + 32 == c <;> rfl
theorem z61_math : ∀ (c0 : UInt8), ∃ n, z61_sh n c0 = z61_ret (z61 c0).1 (z61 c0).2 := fun c => ⟨17, z61_loop z61_ret (z61_k2_0 17) rfl c 16 0 17 (by omega) (by omega) (by omega)⟩
theorem value_same : ∀ i : Fin 256, z91 (UInt8.ofNat i.val) = z61 (UInt8.ofNat i.val) := by decide +kernel
theorem value_range' : ∀ i : Fin 256, 0 ≤ (z91 (UInt8.ofNat i.val)).1 ∧ (z91 (UInt8.ofNat i.val)).1 < 16 := by decide +kernel
theorem of_fin {P : UInt8 → Prop} (h : ∀ i : Fin 256, P (UInt8.ofNat i.val)) (c : UInt8) : P c := by
  have := h ⟨c.toNat, c.toNat_lt⟩
  simpa using this
theorem values (c : UInt8) : z61 c = z91 c := (of_fin (P := fun c => z91 c = z61 c) value_same c).symm
theorem value_range (c : UInt8) : 0 ≤ (z91 c).1 ∧ (z91 c).1 < 16 := of_fin (P := fun c => 0 ≤ (z91 c).1 ∧ (z91 c).1 < 16) value_range' c
theorem or_small : ∀ a b : Fin 16, UInt8.ofNat (Int.toNat (IntKind.wrap .u8 (bits .or .i64 (IntKind.wrap .i64 (((a.val : Nat) : Int) * 2 ^ (min (Int.toNat (4 : Int)) (IntKind.bits .i64)))) ((b.val : Nat) : Int)))) = UInt8.ofNat (Int.toNat (((a.val : Nat) : Int) * 16 + ((b.val : Nat) : Int))) := by decide +kernel
theorem sum_small : ∀ a b : Fin 16, UInt8.ofNat (Int.toNat (IntKind.wrap .u8 (IntKind.wrap .i64 ((IntKind.wrap .i64 ((16 : Int) * ((a.val : Nat) : Int))) + ((b.val : Nat) : Int))))) = UInt8.ofNat (Int.toNat (((a.val : Nat) : Int) * 16 + ((b.val : Nat) : Int))) := by decide +kernel
theorem two_fins {P : Int → Int → Prop} (h : ∀ a b : Fin 16, P ((a.val : Nat) : Int) ((b.val : Nat) : Int)) {x y : Int} (hx : 0 ≤ x ∧ x < 16) (hy : 0 ≤ y ∧ y < 16) : P x y := by
  have := h ⟨x.toNat, by omega⟩ ⟨y.toNat, by omega⟩
  simp only [Int.toNat_of_nonneg hx.1, Int.toNat_of_nonneg hy.1] at this
  exact this
theorem z70_math : ∀ (a0 : UInt8) (b1 : UInt8), ∃ n, z70_sh n a0 b1 = z70_ret (z70 a0 b1).1 (z70 a0 b1).2 := fun a b => ⟨0, by
  unfold z70_sh z70
  have h := two_fins (P := fun x y => UInt8.ofNat (Int.toNat (IntKind.wrap .u8 (bits .or .i64 (IntKind.wrap .i64 (x * 2 ^ (min (Int.toNat (4 : Int)) (IntKind.bits .i64)))) y))) = UInt8.ofNat (Int.toNat (x * 16 + y))) or_small (value_range a) (value_range b)
  rw [← h]
  cases (z91 a).2 <;> cases (z91 b).2 <;> rfl⟩
theorem take_common (s : List UInt8) (at1 : Int) (hl : s.length ≤ 1048576) (h0 : ¬ at1 < 0) (h1 : ¬ IntKind.wrap .i64 (((List.length s : Nat) : Int) - 3) < at1) : ∃ i : Nat, at1 = i ∧ i + 2 < s.length := by
  rw [IntWalk.i64_in _ (by omega)] at h1
  exact ⟨at1.toNat, by omega, by omega⟩
theorem z50_math : ∀ (s0 : List UInt8) (at1 : Int) (sign2 : UInt8), (z50_ok s0 at1 sign2 = true) → ∃ n, z50_sh n s0 at1 sign2 = z50_ret (z50 s0 at1 sign2).1 (z50 s0 at1 sign2).2 := fun s at1 sign h => ⟨0, by
  have hl := lenOk_le h
  unfold z50_sh z50
  by_cases h0 : at1 < 0
  · rw [decide_eq_true h0, decide_eq_false (show ¬ 0 ≤ at1 by omega)]; rfl
  by_cases h1 : IntKind.wrap .i64 (((List.length s : Nat) : Int) - 3) < at1
  · have h2 : ¬ at1 ≤ (s.length : Int) - 3 := by rw [IntWalk.i64_in _ (by omega)] at h1; omega
    rw [decide_eq_false h0, decide_eq_true h1, decide_eq_false h2, Bool.and_false]; rfl
  obtain ⟨i, rfl, hi⟩ := take_common s at1 hl h0 h1
  rw [decide_eq_false h0, decide_eq_false h1, cond_false, cond_false, dec_nonneg, dec_lt, decide_eq_true (show i < s.length by omega), Bool.and_true, cond_true, toNat_nat, i64_succ (by omega),
    show IntKind.wrap .i64 ((i : Int) + 2) = ((i + 2 : Nat) : Int) by rw [IntWalk.i64_in _ (by omega)]; omega, dec_nonneg, dec_nonneg, dec_lt, dec_lt, decide_eq_true (show i + 1 < s.length by omega), decide_eq_true hi, toNat_nat, toNat_nat,
    decide_eq_true (show (i : Int) ≤ (s.length : Int) - 3 by omega), Bool.and_true, cond_true]
  unfold takeAt
  cases he : (List.getD s i 0 == sign) with
  | true => rw [show (List.getD s i 0 != sign) = false by simp only [bne, he, Bool.not_true]]; rfl
  | false => rw [show (List.getD s i 0 != sign) = true by simp only [bne, he, Bool.not_false]]; rfl⟩
theorem z47_math : ∀ (s0 : List UInt8) (at1 : Int) (sign2 : UInt8), (z47_ok s0 at1 sign2 = true) → ∃ n, z47_sh n s0 at1 sign2 = z47_ret (z47 s0 at1 sign2).1 (z47 s0 at1 sign2).2 := fun s at1 sign h => ⟨0, by
  have hl := lenOk_le h
  unfold z47_sh z47 z50
  by_cases h0 : at1 < 0
  · rw [decide_eq_true h0, decide_eq_false (show ¬ 0 ≤ at1 by omega)]; rfl
  by_cases h1 : IntKind.wrap .i64 (((List.length s : Nat) : Int) - 3) < at1
  · have h2 : ¬ at1 ≤ (s.length : Int) - 3 := by rw [IntWalk.i64_in _ (by omega)] at h1; omega
    rw [decide_eq_false h0, decide_eq_true h1, decide_eq_false h2, Bool.and_false]; rfl
  obtain ⟨i, rfl, hi⟩ := take_common s at1 hl h0 h1
  rw [decide_eq_false h0, decide_eq_false h1, cond_false, cond_false, dec_nonneg, dec_lt, decide_eq_true (show i < s.length by omega), Bool.and_true, cond_true, toNat_nat, i64_succ (by omega),
    show IntKind.wrap .i64 ((i : Int) + 2) = ((i + 2 : Nat) : Int) by rw [IntWalk.i64_in _ (by omega)]; omega, dec_nonneg, dec_nonneg, dec_lt, dec_lt, decide_eq_true (show i + 1 < s.length by omega), decide_eq_true hi, toNat_nat, toNat_nat,
    decide_eq_true (show (i : Int) ≤ (s.length : Int) - 3 by omega), Bool.and_true, cond_true]
  rw [values, values]
  have h := two_fins (P := fun x y => UInt8.ofNat (Int.toNat (IntKind.wrap .u8 (IntKind.wrap .i64 ((IntKind.wrap .i64 ((16 : Int) * x)) + y)))) = UInt8.ofNat (Int.toNat (x * 16 + y))) sum_small (value_range (List.getD s (i + 1) 0)) (value_range (List.getD s (i + 2) 0))
  rw [h]
  unfold takeAt z70
  cases he : (List.getD s i 0 == sign) with
  | true =>
    rw [show (List.getD s i 0 != sign) = false by simp only [bne, he, Bool.not_true]]
    cases (z91 (List.getD s (i + 1) 0)).2 <;> cases (z91 (List.getD s (i + 2) 0)).2 <;> rfl
  | false => rw [show (List.getD s i 0 != sign) = true by simp only [bne, he, Bool.not_false]]; rfl⟩
theorem byte256 (c : UInt8) : c.toNat < 256 := c.toNat_lt
theorem enc_size (c : Nat) (h : 128 ≤ c) : 2 ≤ (Utf8.encode (c : Int)).size ∧ (c < 2048 → (Utf8.encode (c : Int)).size ≤ 2) ∧ (c < 65536 → (Utf8.encode (c : Int)).size ≤ 3) ∧ (Utf8.encode (c : Int)).size ≤ 4 := by
  by_cases hv : Utf8.valid (c : Int) = true
  · have hc : (c : Int).toNat = c := by omega
    unfold Utf8.encode
    simp only [hv, if_true, hc]
    rw [if_neg (by omega)]
    split
    · refine ⟨?_, ?_, ?_, ?_⟩ <;> simp [ByteArray.size]
    · split
      · refine ⟨?_, ?_, ?_, ?_⟩ <;> simp [ByteArray.size] <;> omega
      · refine ⟨?_, ?_, ?_, ?_⟩ <;> simp [ByteArray.size] <;> omega
  · have hn : 2048 ≤ c := by
      rcases Nat.lt_or_ge c 2048 with h2 | h2
      · exact absurd (by unfold Utf8.valid; simp; omega) hv
      · exact h2
    have hv' : Utf8.valid (c : Int) = false := by simpa using hv
    have he : Utf8.encode (c : Int) = ⟨#[239, 191, 189]⟩ := by
      unfold Utf8.encode
      simp only [hv', Bool.false_eq_true, if_false]
      decide
    rw [he]
    refine ⟨?_, ?_, ?_, ?_⟩ <;> simp [ByteArray.size] <;> omega
theorem enc_first (c : Nat) (h : 128 ≤ c) : ∃ e r, (Utf8.encode (c : Int)).data.toList = e :: r ∧ 128 ≤ e.toNat := by
  unfold Utf8.encode
  generalize hg : (if Utf8.valid (c : Int) = true then (c : Int).toNat else Utf8.runeError) = x
  have hx : 128 ≤ x ∧ x ≤ 1114111 := by
    split at hg
    · rename_i hv
      unfold Utf8.valid at hv
      simp only [Bool.or_eq_true, Bool.and_eq_true, decide_eq_true_eq] at hv
      omega
    · unfold Utf8.runeError at hg; omega
  simp only [if_neg (show ¬ x < 128 by omega)]
  split
  · exact ⟨_, _, rfl, by simp; omega⟩
  · split
    · exact ⟨_, _, rfl, by simp; omega⟩
    · exact ⟨_, _, rfl, by simp; omega⟩
theorem dec_facts (p : List UInt8) (hp : 0 < p.length) (h0 : 128 ≤ (p.getD 0 0).toNat) : 128 ≤ (Lib.decodeL p).1 ∧ 1 ≤ (Lib.decodeL p).2 ∧ (Lib.decodeL p).2 ≤ p.length ∧ (∀ j, j < (Lib.decodeL p).2 → 128 ≤ (p.getD j 0).toNat) ∧
    ((Lib.decodeL p).1 ≠ 65533 → 2 ≤ (Utf8.encode ((Lib.decodeL p).1 : Int)).size ∧ (Utf8.encode ((Lib.decodeL p).1 : Int)).size ≤ (Lib.decodeL p).2) := by
  rw [Lib.decodeL_N]
  have b0 := byte256 (p.getD 0 0)
  have b1 := byte256 (p.getD 1 0)
  have b2 := byte256 (p.getD 2 0)
  have b3 := byte256 (p.getD 3 0)
  rcases Lib.decodeN_shape p.length (p.getD 0 0).toNat (p.getD 1 0).toNat (p.getD 2 0).toNat (p.getD 3 0).toNat with ⟨h, _⟩ | ⟨h1, h2, h3, h4, e⟩ | ⟨h1, h2, h3, h4, h5, _, e⟩ | ⟨h1, h2, h3, h4, h5, h6, h7, e⟩ | e
  · omega
  · rw [e]
    dsimp only
    have hs := enc_size _ h4
    refine ⟨h4, by omega, by omega, fun j hj => ?_, fun _ => ⟨hs.1, hs.2.1 (by omega)⟩⟩
    match j, hj with
    | 0, _ => exact h0
    | 1, _ => omega
    | n + 2, hj => omega
  · rw [e]
    dsimp only
    have hs := enc_size (((p.getD 0 0).toNat % 16) * 4096 + (p.getD 1 0).toNat % 64 * 64 + (p.getD 2 0).toNat % 64) (by omega)
    refine ⟨by omega, by omega, by omega, fun j hj => ?_, fun _ => ⟨hs.1, hs.2.2.1 (by omega)⟩⟩
    match j, hj with
    | 0, _ => exact h0
    | 1, _ => omega
    | 2, _ => omega
    | n + 3, hj => omega
  · rw [e]
    dsimp only
    have hs := enc_size (((p.getD 0 0).toNat % 8) * 262144 + (p.getD 1 0).toNat % 64 * 4096 + (p.getD 2 0).toNat % 64 * 64 + (p.getD 3 0).toNat % 64) (by omega)
    refine ⟨by omega, by omega, by omega, fun j hj => ?_, fun _ => ⟨hs.1, hs.2.2.2⟩⟩
    match j, hj with
    | 0, _ => exact h0
    | 1, _ => omega
    | 2, _ => omega
    | 3, _ => omega
    | n + 4, hj => omega
  · rw [e]
    dsimp only
    refine ⟨by omega, by omega, by omega, fun j hj => ?_, fun h => absurd rfl h⟩
    match j, hj with
    | 0, _ => exact h0
    | n + 1, hj => omega
theorem ascii_at {cs : List UInt8} (ha : ascii cs = true) {i : Nat} (hi : i < cs.length) : (cs.getD i 0).toNat < 128 := by
  unfold ascii at ha
  rw [List.all_eq_true] at ha
  have := ha (cs.getD i 0) (by simp [List.getD, hi])
  simp only [decide_eq_true_eq] at this
  exact this
theorem ascii_mem {cs : List UInt8} (ha : ascii cs = true) {x : UInt8} (hx : 128 ≤ x.toNat) : cs.contains x = false := by
  cases h : cs.contains x with
  | false => rfl
  | true =>
    unfold ascii at ha
    rw [List.all_eq_true] at ha
    have := ha x (by simpa using h)
    simp only [decide_eq_true_eq] at this
    have : x.toNat < 128 := this
    omega
theorem decL_ascii {cs : List UInt8} (ha : ascii cs = true) {i : Nat} (hi : i < cs.length) : decL cs i = (((cs.getD i 0).toNat : Int), 1) := by
  unfold decL
  rw [Lib.decode_N]
  rw [Lib.decodeN_ascii _ _ _ _ _ (by simpa using ascii_at ha hi)]
theorem index_beyond {cs : List UInt8} (ha : ascii cs = true) (c : Nat) (hc : 128 ≤ c) : Lib.index cs (Utf8.encode (c : Int)).data.toList = -1 := by
  obtain ⟨e, r, he, h1⟩ := enc_first c hc
  rw [he]
  refine Lib.index_none fun j _ => ?_
  unfold Lib.occAt
  cases hd : cs.drop j with
  | nil => rfl
  | cons x t =>
    have hj : j < cs.length := by
      rcases Nat.lt_or_ge j cs.length with h | h
      · exact h
      · rw [List.drop_eq_nil_of_le h] at hd; cases hd
    have hx : x = cs.getD j 0 := by
      rw [getD_drop (d := 0) hj] at hd
      exact (List.cons.inj hd).1.symm
    have := ascii_at ha hj
    rw [← hx] at this
    have hne : (e == x) = false := by
      rw [beq_eq_false_iff_ne]
      rintro rfl
      omega
    simp [List.isPrefixOf, hne]
theorem same_beyond {cs : List UInt8} (ha : ascii cs = true) (hn : cs ≠ []) (c : Nat) (hc : 128 ≤ c) : (cs == (Utf8.encode (c : Int)).data.toList) = false := by
  obtain ⟨e, r, he, h1⟩ := enc_first c hc
  rw [he, beq_eq_false_iff_ne]
  rintro rfl
  have := ascii_at ha (i := 0) (by simp)
  simp at this
  omega
theorem any_skip (cs : List UInt8) : ∀ (w : Nat) (p : List UInt8) (i : Int), w ≤ p.length → (∀ j, j < w → cs.contains (p.getD j 0) = false) → anyAt cs p i = anyAt cs (p.drop w) (i + w)
  | 0, p, i, _, _ => by simp
  | w + 1, [], i, h, _ => by simp at h
  | w + 1, x :: p, i, h, hc => by
    have h0 := hc 0 (by omega)
    simp only [List.getD_cons_zero] at h0
    have ih := any_skip cs w p (i + 1) (by simpa using h) (fun j hj => by have := hc (j + 1) (by omega); simpa using this)
    show (bif cs.contains x then i else anyAt cs p (i + 1)) = anyAt cs (p.drop w) (i + ((w + 1 : Nat) : Int))
    rw [h0, cond_false, ih]
    congr 1
    omega
variable (m0 : Int)
theorem any_l7 (ret : Int → Option AV) (k0 : Option AV) (cs : List UInt8) (ha : ascii cs = true) : ∀ (d i n : Nat), i + d = cs.length → d < n → z63_l7 m0 ret k0 n cs i = k0
  | d, i, 0, hi, hn => by omega
  | 0, i, n + 1, hi, hn => by
    show z63_l7_b m0 ret k0 (z63_l7 m0 ret k0 n) n cs i = _
    unfold z63_l7_b
    rw [decide_eq_false (by omega)]
    rfl
  | d + 1, i, n + 1, hi, hn => by
    show z63_l7_b m0 ret k0 (z63_l7 m0 ret k0 n) n cs i = _
    unfold z63_l7_b
    have hlt : i < cs.length := by omega
    have hx := ascii_at ha hlt
    rw [decide_eq_true hlt, decL_ascii ha hlt, cond_true, cond_true, cond_true, show ((((cs.getD i 0).toNat : Nat) : Int) == 65533) = false by rw [beq_eq_false_iff_ne]; omega, cond_false]
    exact any_l7 ret k0 cs ha d (i + 1) n (by omega) (by omega)
theorem any_l48 (ret : Int → Option AV) (k6 : List UInt8 → List UInt8 → Int → Int → Option AV) (s cs : List UInt8) (w at1 r : Int) (hr : 128 ≤ r) (ha : ascii cs = true) : ∀ (d i n : Nat), i + d = cs.length → d < n → z63_l48 m0 ret k6 n s cs w at1 r cs i = k6 s cs w at1
  | d, i, 0, hi, hn => by omega
  | 0, i, n + 1, hi, hn => by
    show z63_l48_b m0 ret k6 (z63_l48 m0 ret k6 n) n s cs w at1 r cs i = _
    unfold z63_l48_b
    rw [decide_eq_false (by omega)]
    rfl
  | d + 1, i, n + 1, hi, hn => by
    show z63_l48_b m0 ret k6 (z63_l48 m0 ret k6 n) n s cs w at1 r cs i = _
    unfold z63_l48_b
    have hlt : i < cs.length := by omega
    have hx := ascii_at ha hlt
    rw [decide_eq_true hlt, decL_ascii ha hlt, cond_true, cond_true, cond_true, show (r == (((cs.getD i 0).toNat : Nat) : Int)) = false by rw [beq_eq_false_iff_ne]; omega, cond_false]
    exact any_l48 ret k6 s cs w at1 r hr ha d (i + 1) n (by omega) (by omega)
theorem setOf_at (cs : List UInt8) (x : UInt8) : ∀ (a : List Bool), a.length = 256 → (setOf cs a).getD x.toNat false = (cs.contains x || a.getD x.toNat false) := by
  induction cs with
  | nil => intro a _; simp [setOf]
  | cons c cs ih =>
    intro a hl
    show (setOf cs (List.set a c.toNat true)).getD x.toNat false = _
    rw [ih _ (by simpa using hl)]
    have hx := byte256 x
    have hc := byte256 c
    by_cases e : c = x
    · subst e
      have : (List.set a c.toNat true).getD c.toNat false = true := by simp [List.getD, hl, hc]
      rw [this]
      simp
    · have hne : c.toNat ≠ x.toNat := fun h => e (UInt8.toNat_inj.1 h)
      have : (List.set a c.toNat true).getD x.toNat false = a.getD x.toNat false := by simp [List.getD, List.getElem?_set_ne hne]
      rw [this]
      have hb : ¬ x = c := fun h => e h.symm
      simp [hb]
theorem any_l24 (ret : Int → Option AV) (k2 : Option AV) (hk : k2 = ret (-1)) (s cs : List UInt8) (hl : s.length ≤ 1048576) : ∀ (d i n : Nat), i + d = s.length → d < n →
    z63_l24 m0 ret k2 n (setOf cs (List.replicate 256 false)) s (s.length : Nat) (i : Nat) = ret (anyAt cs (s.drop i) i)
  | d, i, 0, hi, hn => by omega
  | 0, i, n + 1, hi, hn => by
    show z63_l24_b m0 ret k2 (z63_l24 m0 ret k2 n) n _ s _ _ = _
    unfold z63_l24_b
    rw [decide_eq_false (by omega), cond_false, List.drop_eq_nil_of_le (by omega), hk]
    rfl
  | d + 1, i, n + 1, hi, hn => by
    show z63_l24_b m0 ret k2 (z63_l24 m0 ret k2 n) n _ s _ _ = _
    unfold z63_l24_b z85
    have hlt : i < s.length := by omega
    rw [dec_lt, decide_eq_true hlt, cond_true, dec_nonneg, Bool.true_and, cond_true, toNat_nat, setOf_at _ _ _ List.length_replicate, i64_succ (by omega), any_l24 ret k2 hk s cs hl d (i + 1) n (by omega) (by omega), getD_drop (d := 0) hlt]
    have : (List.replicate 256 false).getD (s.getD i 0).toNat false = false := by rw [List.getD_eq_getElem?_getD, List.getElem?_replicate]; split <;> rfl
    rw [this, Bool.or_false]
    show _ = ret (bif cs.contains (s.getD i 0) then (i : Int) else anyAt cs (s.drop (i + 1)) (i + 1))
    cases cs.contains (s.getD i 0) <;> rfl
set_option maxRecDepth 100000 in
theorem any_l32 (ret : Int → Option AV) (k4 : Option AV) (hk : k4 = ret (-1)) (s cs : List UInt8) (hl : s.length ≤ 1048576) (ha : ascii cs = true) (hc2 : 2 ≤ cs.length) (hcl : cs.length ≤ 1048576) (d i n : Nat) (hi : i + d = s.length) (hn : d + cs.length + 1 < n) :
    z63_l32 m0 ret k4 n s cs (i : Nat) = ret (anyAt cs (s.drop i) i) := by
  obtain ⟨n, rfl⟩ : ∃ n', n = n' + 1 := ⟨n - 1, by omega⟩
  show z63_l32_b m0 ret k4 (z63_l32 m0 ret k4 n) n s cs (i : Nat) = _
  unfold z63_l32_b
  match d, hi, hn with
  | 0, hi, hn =>
    rw [decide_eq_false (by omega), cond_false, List.drop_eq_nil_of_le (by omega), hk]
    rfl
  | d + 1, hi, hn =>
    have hlt : i < s.length := by omega
    have hb := byte256 (s.getD i 0)
    rw [dec_lt, decide_eq_true hlt, cond_true, dec_nonneg, Bool.true_and, cond_true, cond_true, toNat_nat, toNat_nat, List.take_length, IntWalk.i32_in _ (by omega)]
    by_cases h128 : (s.getD i 0).toNat < 128
    · rw [decide_eq_true (show (((s.getD i 0).toNat : Nat) : Int) < 128 by omega), cond_true, i64_succ (by omega), any_l32 ret k4 hk s cs hl ha hc2 hcl d (i + 1) n (by omega) (by omega), getD_drop (d := 0) hlt]
      show (bif decide ((0 : Int) ≤ Lib.indexByte cs (s.getD i 0)) then ret i else ret (anyAt cs (s.drop (i + 1)) ((i + 1 : Nat) : Int))) = ret (bif cs.contains (s.getD i 0) then (i : Int) else anyAt cs (s.drop (i + 1)) (i + 1))
      rw [← Lib.contains_iff_indexByte]
      cases cs.contains (s.getD i 0) <;> rfl
    · rw [decide_eq_false (show ¬ (((s.getD i 0).toNat : Nat) : Int) < 128 by omega), cond_false, decide_eq_true (show (i : Int) ≤ ((s.length : Nat) : Int) by omega), decide_eq_true (Int.le_refl _)]
      have hp : 0 < (s.drop i).length := by rw [List.length_drop]; omega
      have h0 : 128 ≤ ((s.drop i).getD 0 0).toNat := by
        rw [getD_drop (d := 0) hlt]
        simp only [List.getD_cons_zero]
        omega
      obtain ⟨f1, f2, f3, f4, f5⟩ := dec_facts (s.drop i) hp h0
      rw [show z86_ok (s.drop i) = true by unfold z86_ok; exact decide_eq_true hp]
      have hd1 : (z86 (s.drop i)).1 = ((Lib.decodeL (s.drop i)).1 : Int) := rfl
      have hd2 : (z86 (s.drop i)).2 = ((Lib.decodeL (s.drop i)).2 : Int) := rfl
      rw [hd1, hd2]
      obtain ⟨r, hr⟩ : ∃ r, (Lib.decodeL (s.drop i)).1 = r := ⟨_, rfl⟩
      obtain ⟨w, hw⟩ : ∃ w, (Lib.decodeL (s.drop i)).2 = w := ⟨_, rfl⟩
      rw [hr] at f1 f5
      rw [hw] at f2 f3 f4 f5
      rw [hr, hw]
      rw [List.length_drop] at f3
      have hnext : z63_l32 m0 ret k4 n s cs (IntKind.wrap .i64 ((i : Int) + (w : Int))) = ret (anyAt cs (s.drop i) i) := by
        rw [IntWalk.i64_in _ (by omega), show (i : Int) + (w : Int) = ((i + w : Nat) : Int) by omega, any_l32 ret k4 hk s cs hl ha hc2 hcl (d + 1 - w) (i + w) n (by omega) (by omega),
          any_skip cs w (s.drop i) i (by rw [List.length_drop]; exact f3) (fun j hj => ascii_mem ha (f4 j hj)), List.drop_drop]
        congr 2
      have h48 : z63_l48 m0 ret (z63_k48_6 m0 ret k4 (z63_l32 m0 ret k4 n) n) n s cs (w : Int) (i : Int) (r : Int) cs 0 = ret (anyAt cs (s.drop i) i) := by
        rw [any_l48 m0 ret _ s cs w i r (by omega) ha cs.length 0 n (by omega) (by omega)]
        exact hnext
      simp only [Bool.and_self, cond_true]
      by_cases hre : r = 65533
      · rw [show ((r : Int) != 65533) = false by simp only [bne_eq_false_iff_eq]; omega, cond_false, h48]
      · obtain ⟨e1, e2⟩ := f5 hre
        rw [show ((r : Int) != 65533) = true by simp only [bne_iff_ne, ne_eq]; omega, cond_true, same_beyond ha (by rintro rfl; simp at hc2) r f1, cond_false, hnext]
        cases ((cs.length : Int) == (w : Int)) with
        | true => rfl
        | false =>
          rw [cond_false]
          by_cases hm : (w : Int) ≤ m0
          · have hok : z87_ok m0 cs (Utf8.encode (r : Int)).data.toList = true := by
              unfold z87_ok
              rw [← Lib.size_eq]
              simp only [Bool.and_eq_true, decide_eq_true_eq]
              omega
            rw [decide_eq_true hm, hok]
            unfold z87
            rw [index_beyond ha r f1]
            rfl
          · rw [decide_eq_false hm, cond_false, h48]
  termination_by d
  decreasing_by all_goals omega
set_option maxRecDepth 100000 in
theorem z63_math : ∀ (s0 : List UInt8) (chars1 : List UInt8), (z63_ok s0 chars1 = true) → ∃ n, z63_sh m0 n s0 chars1 = z63_ret (z63 s0 chars1) := fun s cs h => ⟨s.length + cs.length + 2, by
  unfold z63_ok at h
  simp only [Bool.and_eq_true, decide_eq_true_eq] at h
  obtain ⟨⟨hc2, ha, hcl⟩, hl⟩ := h
  have hcl' := lenOk_le hcl
  have hl' := lenOk_le hl
  unfold z63_sh z63
  rw [show (cs == []) = false by cases cs with | nil => simp at hc2 | cons c r => rfl, cond_false]
  have hcne : (((cs.length : Nat) : Int) == 1) = false := by rw [beq_eq_false_iff_ne]; omega
  by_cases h1 : s.length = 1
  · rw [show (((s.length : Nat) : Int) == 1) = true by rw [beq_iff_eq]; omega, cond_true]
    obtain ⟨x, rfl⟩ := List.length_eq_one_iff.1 h1
    have hx := byte256 x
    show (bif decide ((128 : Int) ≤ IntKind.wrap .i32 ((x.toNat : Nat) : Int)) then _ else _) = _
    rw [IntWalk.i32_in _ (by omega)]
    by_cases h128 : x.toNat < 128
    · rw [decide_eq_false (show ¬ (128 : Int) ≤ ((x.toNat : Nat) : Int) by omega), cond_false]
      show (bif decide ((0 : Int) ≤ Lib.indexByte cs x) then z63_ret 0 else z63_ret (-1)) = z63_ret (bif cs.contains x then 0 else -1)
      rw [← Lib.contains_iff_indexByte]
      cases cs.contains x <;> rfl
    · rw [decide_eq_true (show (128 : Int) ≤ ((x.toNat : Nat) : Int) by omega), cond_true, any_l7 m0 _ _ cs ha cs.length 0 _ (by omega) (by omega)]
      show z63_ret (-1) = z63_ret (bif cs.contains x then 0 else -1)
      rw [ascii_mem ha (by omega)]
      rfl
  · rw [show (((s.length : Nat) : Int) == 1) = false by rw [beq_eq_false_iff_ne]; omega, cond_false, hcne, cond_false]
    have h32 := any_l32 m0 z63_ret (z63_k32_4 m0 (s.length + cs.length + 2)) rfl s cs hl' ha hc2 hcl' s.length 0 (s.length + cs.length + 2) (by omega) (by omega)
    have h24 := any_l24 m0 z63_ret (z63_k24_2 m0 (s.length + cs.length + 2)) rfl s cs hl' s.length 0 (s.length + cs.length + 2) (by omega) (by omega)
    rw [show z78_ok cs = true by unfold z78_ok; rw [ha, hcl]; rfl]
    cases z84 ((s.length : Nat) : Int) with
    | true => exact h24
    | false =>
      rw [cond_false]
      exact h32⟩
theorem is_blank : ∀ i : Fin 256, z41 (UInt8.ofNat i.val) 2 = blank (UInt8.ofNat i.val) := by decide +kernel
theorem fin_of {P : UInt8 → Prop} (h : ∀ i : Fin 256, P (UInt8.ofNat i.val)) (c : UInt8) : P c := by
  have := h ⟨c.toNat, c.toNat_lt⟩
  simpa using this
theorem blanks (c : UInt8) : z41 c 2 = blank c := fin_of (P := fun c => z41 c 2 = blank c) is_blank c
theorem dT {p : Prop} [Decidable p] (h : p) : decide p = true := decide_eq_true h
theorem dF {p : Prop} [Decidable p] (h : ¬ p) : decide p = false := decide_eq_false h
theorem wr {x : Int} (h : -9223372036854775808 ≤ x ∧ x ≤ 9223372036854775807) : IntKind.wrap .i64 x = x := IntWalk.i64_in x h
theorem tn (i : Nat) : Int.toNat (i : Int) = i := Int.toNat_natCast i
theorem lenOk_of {α : Type} {l : List α} (h : l.length ≤ 1048576) : lenOk l = true := by unfold lenOk; rw [decide_eq_true_eq]; exact h
theorem dropR_snoc (p : UInt8 → Bool) (t : List UInt8) (x : UInt8) : dropR p (t ++ [x]) = bif p x then dropR p t else t ++ [x] := by
  unfold dropR
  rw [List.reverse_append, List.reverse_singleton, List.singleton_append, List.dropWhile_cons]
  cases p x <;> simp
theorem set_contains (cs : List UInt8) (c : UInt8) : z85 (z78 cs).1 c = cs.contains c := by
  have := setOf_at cs c (List.replicate 256 false) List.length_replicate
  unfold z85 z78
  have hc : c.toNat < 256 := c.toNat_lt
  rw [this, List.getD_eq_getElem?_getD, List.getElem?_replicate, if_pos hc]
  exact Bool.or_false _
theorem has_loop (ret : Bool → Option AV) (k0 : Option AV) (hk : k0 = ret false) (s : List UInt8) (c : UInt8) (hl : s.length ≤ 1048576) : ∀ (d i n : Nat), i + d = s.length → d < n →
    z76_l2 ret k0 n s c (i : Nat) = ret ((s.drop i).contains c)
  | d, i, 0, hi, hn => by omega
  | 0, i, n + 1, hi, hn => by
    show z76_l2_b ret k0 (z76_l2 ret k0 n) n _ _ _ = _
    unfold z76_l2_b
    rw [dF (by omega), cond_false, List.drop_eq_nil_of_le (by omega), hk]
    rfl
  | d + 1, i, n + 1, hi, hn => by
    show z76_l2_b ret k0 (z76_l2 ret k0 n) n _ _ _ = _
    unfold z76_l2_b
    have hlt : i < s.length := by omega
    have ih := has_loop ret k0 hk s c hl d (i + 1) n (by omega) (by omega)
    rw [getD_drop (d := (0 : UInt8)) hlt, List.contains_cons]
    simp (disch := omega) only [dT, cond_true, Bool.and_true, tn, i64_succ]
    rw [ih, show (s.getD i 0 == c) = (c == s.getD i 0) from Bool.beq_comm]
    cases (c == s.getD i 0) <;> rfl
theorem has_math' (s : List UInt8) (c : UInt8) (hl : s.length ≤ 1048576) : ∃ n, z76_sh n s c = z76_ret (z76 s c) := ⟨s.length + 1, by
  unfold z76_sh
  have := has_loop z76_ret (z76_k2_0 (s.length + 1)) rfl s c hl s.length 0 (s.length + 1) (by omega) (by omega)
  exact this⟩
theorem z76_math : ∀ (s0 : List UInt8) (c1 : UInt8), (z76_ok s0 c1 = true) → ∃ n, z76_sh n s0 c1 = z76_ret (z76 s0 c1) := fun s c h => has_math' s c (lenOk_le h)
theorem z43_math : ∀ (c0 : UInt8) (kinds1 : Int), ∃ n, z43_sh n c0 kinds1 = z43_ret (z43 c0 kinds1) := fun _ _ => ⟨0, rfl⟩
theorem like_self (s : List UInt8) : z18 s s = true := by unfold z18; exact dT rfl
def okc (c : UInt8) : Bool := (c == 13) || (c == 10) || (c == 9) || (decide (32 ≤ c) && decide (c ≤ 126))
theorem z66_math : ∀ (a0 : List UInt8) (b1 : List UInt8), ∃ n, z66_sh n a0 b1 = z66_ret (z66 a0 b1) := fun _ _ => ⟨0, rfl⟩
theorem z77_math : ∀ (s0 : List UInt8) (c1 : UInt8), (z77_ok s0 c1 = true) → ∃ n, z77_sh n s0 c1 = z77_ret (z77 s0 c1) := fun _ _ h => by cases h
theorem trimR_loop (k0 : List UInt8 → Option AV) (as : List Bool) : ∀ (d : Nat) (s : List UInt8) (n : Nat), s.length = d → d < n → s.length ≤ 1048576 →
    z79_l1 k0 n s as = k0 (z79 s as)
  | d, s, 0, hd, hn, hl => by omega
  | d, s, n + 1, hd, hn, hl => by
    show z79_l1_b k0 (z79_l1 k0 n) n s as = _
    unfold z79_l1_b z79
    rcases List.eq_nil_or_concat s with rfl | ⟨t, x, rfl⟩
    · rfl
    · rw [List.concat_eq_append] at *
      have hlen : (t ++ [x]).length = t.length + 1 := by simp
      have ih := trimR_loop k0 as t.length t n rfl (by omega) (by omega)
      have hg : (t ++ [x]).getD (Int.toNat (((t ++ [x]).length : Int) - 1)) 0 = x := by
        rw [show Int.toNat (((t ++ [x]).length : Int) - 1) = t.length by omega]; simp
      have ht : List.take (Int.toNat (((t ++ [x]).length : Int) - 1)) (t ++ [x]) = t := by
        rw [show Int.toNat (((t ++ [x]).length : Int) - 1) = t.length by omega]; simp
      simp (disch := omega) only [wr, dT, cond_true, Bool.and_true, hg, ht, dropR_snoc]
      cases z85 as x with
      | true => simpa [z79] using ih
      | false => rfl
theorem z79_math : ∀ (s0 : List UInt8) (as1 : List Bool), (z79_ok s0 as1 = true) → ∃ n, z79_sh n s0 as1 = z79_ret (z79 s0 as1) := fun s as h => ⟨s.length + 1, by
  unfold z79_sh
  rw [trimR_loop _ as s.length s _ rfl (by omega) (lenOk_le h)]
  rfl⟩
end Go.Av
