import Derived.Test.YtejhjmmdachijaaDoorQrSh
import Derived.Test.YtejhjmmdachijaaDoorAvE
import Derived.Lib.IndexAny
import Derived.Lib.IndexMore
import Derived.Lib.IndexBytes
import Derived.IntWalk
import Derived.KernelRfl
namespace Go.Av
set_option linter.unusedVariables false
set_option linter.unusedSimpArgs false
theorem and15 (n : Int) : bits .and .i64 n 15 = n % 16 := by
  have h : (BitVec.ofInt 64 n &&& BitVec.ofInt 64 15).toNat = (n % 16).toNat := by
    rw [BitVec.toNat_and]
    have h1 : (BitVec.ofInt 64 15).toNat = 2 ^ 4 - 1 := by decide
    rw [h1, Nat.and_two_pow_sub_one_eq_mod, BitVec.toNat_ofInt]
    omega
  show IntKind.wrap .i64 (((BitVec.ofInt 64 n &&& BitVec.ofInt 64 15).toNat : Nat) : Int) = _
  rw [h, IntWalk.i64_in _ (by omega)]
  omega
theorem z75_math : ∀ (n0 : Int), (z75_ok n0 = true) → ∃ n, z75_sh n n0 = z75_ret (z75 n0) := fun n _ => ⟨0, by
  unfold z75_sh z75
  rw [and15]
  have h0 : (0 : Int) ≤ n % 16 := by omega
  have h1 : n % 16 < (((([48, 49, 50, 51, 52, 53, 54, 55, 56, 57, 65, 66, 67, 68, 69, 70] : List UInt8).length : Nat)) : Int) := by simp; omega
  rw [decide_eq_true h0, decide_eq_true h1]
  rfl⟩
theorem tmod16 (n : Int) : Int.tmod (Int.tmod n 16 + 16) 16 = n % 16 := by
  have h : Int.tmod n 16 = n % 16 ∨ Int.tmod n 16 = n % 16 - 16 := by
    rcases Int.le_total 0 n with h | h
    · exact .inl (Int.tmod_eq_emod_of_nonneg h)
    · have h2 : Int.tmod n 16 = -((-n) % 16) := by
        have := Int.neg_tmod (-n) 16
        rw [Int.neg_neg] at this
        rw [this, Int.tmod_eq_emod_of_nonneg (by omega)]
      omega
  have h3 : 0 ≤ Int.tmod n 16 + 16 := by omega
  rw [Int.tmod_eq_emod_of_nonneg h3]
  omega
theorem tmod16_range (n : Int) : -16 < Int.tmod n 16 ∧ Int.tmod n 16 < 16 := by
  have h : Int.tmod n 16 = n % 16 ∨ Int.tmod n 16 = n % 16 - 16 ∧ n % 16 ≠ 0 := by
    rcases Int.le_total 0 n with h | h
    · exact .inl (Int.tmod_eq_emod_of_nonneg h)
    · have h2 : Int.tmod n 16 = -((-n) % 16) := by
        have := Int.neg_tmod (-n) 16
        rw [Int.neg_neg] at this
        rw [this, Int.tmod_eq_emod_of_nonneg (by omega)]
      omega
  omega
theorem digits_small : ∀ j : Fin 16, (bif decide (((j.val : Nat) : Int) < 10) then UInt8.ofNat (Int.toNat (IntKind.wrap .u8 (IntKind.wrap .i64 ((48 : Int) + ((j.val : Nat) : Int)))))
    else UInt8.ofNat (Int.toNat (IntKind.wrap .u8 (IntKind.wrap .i64 ((IntKind.wrap .i64 ((65 : Int) + ((j.val : Nat) : Int))) - (10 : Int)))))) = List.getD hexD j.val 0 := by decide +kernel
theorem z58_math : ∀ (n0 : Int), (z58_ok n0 = true) → ∃ n, z58_sh n n0 = z58_ret (z58 n0) := fun n _ => ⟨0, by
  unfold z58_sh z58
  have hr := tmod16_range n
  rw [IntWalk.i64_in (Int.tmod n 16 + 16) (by omega), tmod16]
  have hj : (n % 16).toNat < 16 := by omega
  have := digits_small ⟨(n % 16).toNat, hj⟩
  simp only [Int.toNat_of_nonneg (show 0 ≤ n % 16 by omega)] at this
  rw [← this]
  cases decide (n % 16 < 10) <;> rfl⟩
theorem z98_math : ∀ (c0 : UInt8), ∃ n, z98_sh n c0 = z98_ret (z98 c0) := fun c => ⟨0, by
  unfold z98_sh z98
  cases decide ((65 : UInt8) ≤ c) <;> cases decide (c ≤ (90 : UInt8)) <;> rfl⟩
theorem like_drop {α : Type} [DecidableEq α] {a b : List α} {i : Nat} (ha : i < a.length) (hb : i < b.length) (d : α) : decide (a.drop i = b.drop i) = bif a.getD i d != b.getD i d then false else decide (a.drop (i + 1) = b.drop (i + 1)) := by
  rw [getD_drop (d := d) ha, getD_drop (d := d) hb]
  generalize a.getD i d = x
  generalize b.getD i d = y
  by_cases h : x = y
  · subst h; simp
  · simp [h]
theorem z18_loop (ret : Bool → Option AV) (a b : List UInt8) (hab : a.length = b.length) (hl : a.length ≤ 1048576) : ∀ (d i n : Nat), i + d = a.length → d < n →
    z18_l4 ret (ret true) n a b (i : Nat) = ret (decide (a.drop i = b.drop i))
  | d, i, 0, hi, hn => by omega
  | 0, i, n + 1, hi, hn => by
    show z18_l4_b ret (ret true) (z18_l4 ret (ret true) n) n a b _ = _
    unfold z18_l4_b
    rw [decide_eq_false (by omega), cond_false, List.drop_eq_nil_of_le (by omega), List.drop_eq_nil_of_le (by omega)]
    rfl
  | d + 1, i, n + 1, hi, hn => by
    show z18_l4_b ret (ret true) (z18_l4 ret (ret true) n) n a b _ = _
    unfold z18_l4_b
    have hlt : i < a.length := by omega
    have hlt' : i < b.length := by omega
    have ih := z18_loop ret a b hab hl d (i + 1) n (by omega) (by omega)
    rw [dec_lt, decide_eq_true hlt, cond_true, dec_nonneg, Bool.true_and, cond_true, Bool.true_and, dec_lt, decide_eq_true hlt', cond_true, i64_succ (by omega), toNat_nat, ih, like_drop hlt hlt' 0]
    cases (a.getD i 0 != b.getD i 0) <;> rfl
theorem z18_math : ∀ (a0 : List UInt8) (b1 : List UInt8), (z18_ok a0 b1 = true) → ∃ n, z18_sh n a0 b1 = z18_ret (z18 a0 b1) := fun a b h => ⟨a.length + 1, by
  unfold z18_sh z18
  by_cases hab : a.length = b.length
  · rw [show (((a.length : Nat) : Int) != ((b.length : Nat) : Int)) = false by simp [hab], cond_false]
    exact z18_loop z18_ret a b hab (lenOk_le h) a.length 0 (a.length + 1) (by omega) (by omega)
  · rw [show (((a.length : Nat) : Int) != ((b.length : Nat) : Int)) = true by simp only [bne_iff_ne, ne_eq]; omega, cond_true, decide_eq_false (fun e => hab (by rw [e]))]⟩
theorem z84_math : ∀ (bufLen0 : Int), ∃ n, z84_sh n bufLen0 = z84_ret (z84 bufLen0) := fun _ => ⟨0, rfl⟩
theorem byte_lt256 (c : UInt8) : decide (((UInt8.toNat c : Nat) : Int) < (256 : Nat)) = true := by
  have := c.toNat_lt
  rw [decide_eq_true]
  omega
theorem makeASCIISet_loop (ret : List Bool → Bool → Option AV) (k0 : List Bool → Option AV) (cs : List UInt8) (ha : ascii cs = true) (hl : cs.length ≤ 1048576) : ∀ (d i n : Nat) (a : List Bool), i + d = cs.length → d < n →
    z78_l2 ret k0 n cs a (i : Nat) = k0 (setOf (cs.drop i) a)
  | d, i, 0, a, hi, hn => by omega
  | 0, i, n + 1, a, hi, hn => by
    show z78_l2_b ret k0 (z78_l2 ret k0 n) n cs a _ = _
    unfold z78_l2_b
    rw [decide_eq_false (by omega), cond_false, List.drop_eq_nil_of_le (by omega)]
    rfl
  | d + 1, i, n + 1, a, hi, hn => by
    show z78_l2_b ret k0 (z78_l2 ret k0 n) n cs a _ = _
    unfold z78_l2_b
    have hlt : i < cs.length := by omega
    have hc : decide ((128 : UInt8) ≤ List.getD cs i 0) = false := by
      unfold ascii at ha
      rw [List.all_eq_true] at ha
      have := ha (cs.getD i 0) (by simp [List.getD, hlt])
      rw [decide_eq_false_iff_not]
      simp only [decide_eq_true_eq] at this
      exact UInt8.not_le.2 this
    rw [dec_lt, decide_eq_true hlt, cond_true, dec_nonneg, Bool.true_and, cond_true, toNat_nat, hc, cond_false, dec_nonneg, byte_lt256, Bool.true_and, cond_true, i64_succ (by omega),
      makeASCIISet_loop ret k0 cs ha hl d (i + 1) n _ (by omega) (by omega), getD_drop (d := 0) hlt]
    rfl
theorem z78_math : ∀ (chars0 : List UInt8), (z78_ok chars0 = true) → ∃ n, z78_sh n chars0 = z78_ret (z78 chars0).1 (z78 chars0).2 := fun cs h => ⟨cs.length + 1, by
  unfold z78_ok at h
  rw [Bool.and_eq_true] at h
  exact makeASCIISet_loop z78_ret (z78_k2_0 (cs.length + 1)) cs h.1 (lenOk_le h.2) cs.length 0 (cs.length + 1) _ (by omega) (by omega)⟩
theorem z85_math : ∀ (as0 : List Bool) (c1 : UInt8), ∃ n, z85_sh n as0 c1 = z85_ret (z85 as0 c1) := fun as c => ⟨0, by
  unfold z85_sh
  rw [dec_nonneg, byte_lt256]
  rfl⟩
theorem z73_math : ∀ (c0 : UInt8), ∃ n, z73_sh n c0 = z73_ret (z73 c0) := fun c => ⟨0, by
  unfold z73_sh z73 plainTail orI
  cases decide (c < (32 : UInt8)) <;> cases (c == (127 : UInt8)) <;> cases (c == (32 : UInt8)) <;> cases (c == (9 : UInt8)) <;> cases decide ((48 : UInt8) ≤ c) <;> cases decide (c ≤ (57 : UInt8)) <;> cases decide ((65 : UInt8) ≤ c) <;> cases decide (c ≤ (90 : UInt8)) <;> cases decide ((97 : UInt8) ≤ c) <;> cases decide (c ≤ (122 : UInt8)) <;> rfl⟩
theorem z99_math : ∀ (s0 : List UInt8) (c1 : UInt8), ∃ n, z99_sh n s0 c1 = z99_ret (z99 s0 c1) := fun _ _ => ⟨0, rfl⟩
theorem z92_math : ∀ (s0 : List UInt8) (c1 : UInt8), ∃ n, z92_sh n s0 c1 = z92_ret (z92 s0 c1) := fun _ _ => ⟨0, rfl⟩
theorem z74_math : ∀ (s0 : List UInt8) (c1 : UInt8), ∃ n, z74_sh n s0 c1 = z74_ret (z74 s0 c1) := fun _ _ => ⟨0, rfl⟩
theorem z54_math : ∀ (c0 : UInt8), ∃ n, z54_sh n c0 = z54_ret (z54 c0) := fun c => ⟨0, by
  unfold z54_sh z54 kindIf orI
  cases decide (c < (33 : UInt8)) <;> cases decide ((126 : UInt8) < c) <;> cases z74 [33, 42, 43, 45, 47] c <;> cases z74 [43, 47] c <;> cases z74 [40, 41, 60, 62, 64, 44, 59, 58, 92, 34, 47, 91, 93, 63, 61] c <;> cases z74 [42, 39, 37] c <;> rfl⟩
theorem z41_math : ∀ (c0 : UInt8) (kinds1 : Int), ∃ n, z41_sh n c0 kinds1 = z41_ret (z41 c0 kinds1) := fun _ _ => ⟨0, rfl⟩
theorem wrapByte (c : UInt8) : IntKind.wrap .i64 ((UInt8.toNat c : Nat) : Int) = ((UInt8.toNat c : Nat) : Int) := by
  have := c.toNat_lt
  exact IntWalk.i64_in _ (by omega)
theorem z91_math : ∀ (c0 : UInt8), ∃ n, z91_sh n c0 = z91_ret (z91 c0).1 (z91 c0).2 := fun c => ⟨0, by
  unfold z91_sh z91
  have h := (z98 c - 97).toNat_lt
  rw [wrapByte, wrapByte, IntWalk.i64_in (((z98 c - 97).toNat : Int) + 10) (by omega)]
  cases z41 (z98 c) 8 <;> cases decide ((97 : UInt8) ≤ z98 c) <;> cases decide (z98 c ≤ (102 : UInt8)) <;> rfl⟩
theorem value_range' : ∀ i : Fin 256, 0 ≤ (z91 (UInt8.ofNat i.val)).1 ∧ (z91 (UInt8.ofNat i.val)).1 < 16 := by decide +kernel
theorem of_fin {P : UInt8 → Prop} (h : ∀ i : Fin 256, P (UInt8.ofNat i.val)) (c : UInt8) : P c := by
  have := h ⟨c.toNat, c.toNat_lt⟩
  simpa using this
theorem value_range (c : UInt8) : 0 ≤ (z91 c).1 ∧ (z91 c).1 < 16 := of_fin (P := fun c => 0 ≤ (z91 c).1 ∧ (z91 c).1 < 16) value_range' c
theorem or_small : ∀ a b : Fin 16, UInt8.ofNat (Int.toNat (IntKind.wrap .u8 (bits .or .i64 (IntKind.wrap .i64 (((a.val : Nat) : Int) * 2 ^ (min (Int.toNat (4 : Int)) (IntKind.bits .i64)))) ((b.val : Nat) : Int)))) = UInt8.ofNat (Int.toNat (((a.val : Nat) : Int) * 16 + ((b.val : Nat) : Int))) := by decide +kernel
theorem two_fins {P : Int → Int → Prop} (h : ∀ a b : Fin 16, P ((a.val : Nat) : Int) ((b.val : Nat) : Int)) {x y : Int} (hx : 0 ≤ x ∧ x < 16) (hy : 0 ≤ y ∧ y < 16) : P x y := by
  have := h ⟨x.toNat, by omega⟩ ⟨y.toNat, by omega⟩
  simp only [Int.toNat_of_nonneg hx.1, Int.toNat_of_nonneg hy.1] at this
  exact this
theorem z70_math : ∀ (a0 : UInt8) (b1 : UInt8), ∃ n, z70_sh n a0 b1 = z70_ret (z70 a0 b1).1 (z70 a0 b1).2 := fun a b => ⟨0, by
  unfold z70_sh z70
  have h := two_fins (P := fun x y => UInt8.ofNat (Int.toNat (IntKind.wrap .u8 (bits .or .i64 (IntKind.wrap .i64 (x * 2 ^ (min (Int.toNat (4 : Int)) (IntKind.bits .i64)))) y))) = UInt8.ofNat (Int.toNat (x * 16 + y))) or_small (value_range a) (value_range b)
  rw [← h]
  cases (z91 a).2 <;> cases (z91 b).2 <;> rfl⟩
theorem take_common (s : List UInt8) (at1 : Int) (hl : s.length ≤ 1048576) (h0 : ¬ at1 < 0) (h1 : ¬ IntKind.wrap .i64 (((List.length s : Nat) : Int) - 3) < at1) : ∃ i : Nat, at1 = i ∧ i + 2 < s.length := by
  rw [IntWalk.i64_in _ (by omega)] at h1
  exact ⟨at1.toNat, by omega, by omega⟩
theorem z50_math : ∀ (s0 : List UInt8) (at1 : Int) (sign2 : UInt8), (z50_ok s0 at1 sign2 = true) → ∃ n, z50_sh n s0 at1 sign2 = z50_ret (z50 s0 at1 sign2).1 (z50 s0 at1 sign2).2 := fun s at1 sign h => ⟨0, by
  have hl := lenOk_le h
  unfold z50_sh z50
  by_cases h0 : at1 < 0
  · rw [decide_eq_true h0, decide_eq_false (show ¬ 0 ≤ at1 by omega)]; rfl
  by_cases h1 : IntKind.wrap .i64 (((List.length s : Nat) : Int) - 3) < at1
  · have h2 : ¬ at1 ≤ (s.length : Int) - 3 := by rw [IntWalk.i64_in _ (by omega)] at h1; omega
    rw [decide_eq_false h0, decide_eq_true h1, decide_eq_false h2, Bool.and_false]; rfl
  obtain ⟨i, rfl, hi⟩ := take_common s at1 hl h0 h1
  rw [decide_eq_false h0, decide_eq_false h1, cond_false, cond_false, dec_nonneg, dec_lt, decide_eq_true (show i < s.length by omega), Bool.and_true, cond_true, toNat_nat, i64_succ (by omega),
    show IntKind.wrap .i64 ((i : Int) + 2) = ((i + 2 : Nat) : Int) by rw [IntWalk.i64_in _ (by omega)]; omega, dec_nonneg, dec_nonneg, dec_lt, dec_lt, decide_eq_true (show i + 1 < s.length by omega), decide_eq_true hi, toNat_nat, toNat_nat,
    decide_eq_true (show (i : Int) ≤ (s.length : Int) - 3 by omega), Bool.and_true, cond_true]
  unfold takeAt
  cases he : (List.getD s i 0 == sign) with
  | true => rw [show (List.getD s i 0 != sign) = false by simp only [bne, he, Bool.not_true]]; rfl
  | false => rw [show (List.getD s i 0 != sign) = true by simp only [bne, he, Bool.not_false]]; rfl⟩
theorem both_small : ∀ i : Fin 256, [z75 (IntKind.wrap .i64 ((UInt8.toNat (UInt8.ofNat (UInt8.toNat (UInt8.ofNat i.val) / 2 ^ (min (Int.toNat (4 : Int)) 8))) : Nat) : Int)), z75 (IntKind.wrap .i64 ((UInt8.toNat (UInt8.ofNat i.val) : Nat) : Int))] = z56 (UInt8.ofNat i.val) := by decide +kernel
theorem refboth_small : ∀ i : Fin 256, [z58 (IntKind.wrap .i64 (Int.tdiv (IntKind.wrap .i64 ((UInt8.toNat (UInt8.ofNat i.val) : Nat) : Int)) (16 : Int))), z58 (Int.tmod (IntKind.wrap .i64 ((UInt8.toNat (UInt8.ofNat i.val) : Nat) : Int)) (16 : Int))] = z56 (UInt8.ofNat i.val) := by decide +kernel
theorem refok_small : ∀ i : Fin 256, z58_ok (IntKind.wrap .i64 (Int.tdiv (IntKind.wrap .i64 ((UInt8.toNat (UInt8.ofNat i.val) : Nat) : Int)) (16 : Int))) = true ∧ z58_ok (Int.tmod (IntKind.wrap .i64 ((UInt8.toNat (UInt8.ofNat i.val) : Nat) : Int)) (16 : Int)) = true ∧
    z75_ok (IntKind.wrap .i64 ((UInt8.toNat (UInt8.ofNat (UInt8.toNat (UInt8.ofNat i.val) / 2 ^ (min (Int.toNat (4 : Int)) 8))) : Nat) : Int)) = true ∧ z75_ok (IntKind.wrap .i64 ((UInt8.toNat (UInt8.ofNat i.val) : Nat) : Int)) = true := by decide +kernel
theorem boths (c : UInt8) : [z75 (IntKind.wrap .i64 ((UInt8.toNat (UInt8.ofNat (UInt8.toNat c / 2 ^ (min (Int.toNat (4 : Int)) 8))) : Nat) : Int)), z75 (IntKind.wrap .i64 ((UInt8.toNat c : Nat) : Int))] = z56 c := of_fin (P := fun c => [z75 (IntKind.wrap .i64 ((UInt8.toNat (UInt8.ofNat (UInt8.toNat c / 2 ^ (min (Int.toNat (4 : Int)) 8))) : Nat) : Int)), z75 (IntKind.wrap .i64 ((UInt8.toNat c : Nat) : Int))] = z56 c) both_small c
theorem refboths (c : UInt8) : [z58 (IntKind.wrap .i64 (Int.tdiv (IntKind.wrap .i64 ((UInt8.toNat c : Nat) : Int)) (16 : Int))), z58 (Int.tmod (IntKind.wrap .i64 ((UInt8.toNat c : Nat) : Int)) (16 : Int))] = z56 c := of_fin (P := fun c => [z58 (IntKind.wrap .i64 (Int.tdiv (IntKind.wrap .i64 ((UInt8.toNat c : Nat) : Int)) (16 : Int))), z58 (Int.tmod (IntKind.wrap .i64 ((UInt8.toNat c : Nat) : Int)) (16 : Int))] = z56 c) refboth_small c
theorem refoks (c : UInt8) : z58_ok (IntKind.wrap .i64 (Int.tdiv (IntKind.wrap .i64 ((UInt8.toNat c : Nat) : Int)) (16 : Int))) = true ∧ z58_ok (Int.tmod (IntKind.wrap .i64 ((UInt8.toNat c : Nat) : Int)) (16 : Int)) = true ∧
    z75_ok (IntKind.wrap .i64 ((UInt8.toNat (UInt8.ofNat (UInt8.toNat c / 2 ^ (min (Int.toNat (4 : Int)) 8))) : Nat) : Int)) = true ∧ z75_ok (IntKind.wrap .i64 ((UInt8.toNat c : Nat) : Int)) = true := of_fin (P := fun c => z58_ok (IntKind.wrap .i64 (Int.tdiv (IntKind.wrap .i64 ((UInt8.toNat c : Nat) : Int)) (16 : Int))) = true ∧ z58_ok (Int.tmod (IntKind.wrap .i64 ((UInt8.toNat c : Nat) : Int)) (16 : Int)) = true ∧
    z75_ok (IntKind.wrap .i64 ((UInt8.toNat (UInt8.ofNat (UInt8.toNat c / 2 ^ (min (Int.toNat (4 : Int)) 8))) : Nat) : Int)) = true ∧ z75_ok (IntKind.wrap .i64 ((UInt8.toNat c : Nat) : Int)) = true) refok_small c
theorem z56_math : ∀ (c0 : UInt8), ∃ n, z56_sh n c0 = z56_ret (z56 c0) := fun c => ⟨0, by
  obtain ⟨_, _, h1, h2⟩ := refoks c
  unfold z56_sh
  rw [h1, h2, boths]
  rfl⟩
theorem z42_math : ∀ (b0 : List UInt8) (sign1 : UInt8) (c2 : UInt8), (z42_ok b0 sign1 c2 = true) → ∃ n, z42_sh n b0 sign1 c2 = z42_ret (z42 b0 sign1 c2) := fun b sign c h => ⟨0, by
  have hl := lenOk_le h
  unfold z42_sh z42 z55_ok z55
  rw [show lenOk b = true from h, Bool.and_true, cond_true, decide_eq_true (by unfold room; simp; omega), cond_true, decide_eq_true (by unfold room z56; simp; omega), cond_true, List.append_assoc]
  rfl⟩
theorem z44_math : ∀ (b0 : List UInt8) (sign1 : UInt8) (c2 : UInt8), (z44_ok b0 sign1 c2 = true) → ∃ n, z44_sh n b0 sign1 c2 = z44_ret (z44 b0 sign1 c2) := fun b sign c h => ⟨0, by
  have hl := lenOk_le h
  obtain ⟨h1, h2, _, _⟩ := refoks c
  unfold z44_sh z44
  rw [h1, h2, decide_eq_true (by unfold room; simp; omega), Bool.and_true, cond_true, cond_true, decide_eq_true (by unfold room; simp; omega), cond_true, ← refboths c]
  rfl⟩
theorem byte256 (c : UInt8) : c.toNat < 256 := c.toNat_lt
theorem enc_size (c : Nat) (h : 128 ≤ c) : 2 ≤ (Utf8.encode (c : Int)).size ∧ (c < 2048 → (Utf8.encode (c : Int)).size ≤ 2) ∧ (c < 65536 → (Utf8.encode (c : Int)).size ≤ 3) ∧ (Utf8.encode (c : Int)).size ≤ 4 := by
  by_cases hv : Utf8.valid (c : Int) = true
  · have hc : (c : Int).toNat = c := by omega
    unfold Utf8.encode
    simp only [hv, if_true, hc]
    rw [if_neg (by omega)]
    split
    · refine ⟨?_, ?_, ?_, ?_⟩ <;> simp [ByteArray.size]
    · split
      · refine ⟨?_, ?_, ?_, ?_⟩ <;> simp [ByteArray.size] <;> omega
      · refine ⟨?_, ?_, ?_, ?_⟩ <;> simp [ByteArray.size] <;> omega
  · have hn : 2048 ≤ c := by
      rcases Nat.lt_or_ge c 2048 with h2 | h2
      · exact absurd (by unfold Utf8.valid; simp; omega) hv
      · exact h2
    have hv' : Utf8.valid (c : Int) = false := by simpa using hv
    have he : Utf8.encode (c : Int) = ⟨#[239, 191, 189]⟩ := by
      unfold Utf8.encode
      simp only [hv', Bool.false_eq_true, if_false]
      decide
    rw [he]
    refine ⟨?_, ?_, ?_, ?_⟩ <;> simp [ByteArray.size] <;> omega
theorem enc_first (c : Nat) (h : 128 ≤ c) : ∃ e r, (Utf8.encode (c : Int)).data.toList = e :: r ∧ 128 ≤ e.toNat := by
  unfold Utf8.encode
  generalize hg : (if Utf8.valid (c : Int) = true then (c : Int).toNat else Utf8.runeError) = x
  have hx : 128 ≤ x ∧ x ≤ 1114111 := by
    split at hg
    · rename_i hv
      unfold Utf8.valid at hv
      simp only [Bool.or_eq_true, Bool.and_eq_true, decide_eq_true_eq] at hv
      omega
    · unfold Utf8.runeError at hg; omega
  simp only [if_neg (show ¬ x < 128 by omega)]
  split
  · exact ⟨_, _, rfl, by simp; omega⟩
  · split
    · exact ⟨_, _, rfl, by simp; omega⟩
    · exact ⟨_, _, rfl, by simp; omega⟩
theorem dec_facts (p : List UInt8) (hp : 0 < p.length) (h0 : 128 ≤ (p.getD 0 0).toNat) : 128 ≤ (Lib.decodeL p).1 ∧ 1 ≤ (Lib.decodeL p).2 ∧ (Lib.decodeL p).2 ≤ p.length ∧ (∀ j, j < (Lib.decodeL p).2 → 128 ≤ (p.getD j 0).toNat) ∧
    ((Lib.decodeL p).1 ≠ 65533 → 2 ≤ (Utf8.encode ((Lib.decodeL p).1 : Int)).size ∧ (Utf8.encode ((Lib.decodeL p).1 : Int)).size ≤ (Lib.decodeL p).2) := by
  rw [Lib.decodeL_N]
  have b0 := byte256 (p.getD 0 0)
  have b1 := byte256 (p.getD 1 0)
  have b2 := byte256 (p.getD 2 0)
  have b3 := byte256 (p.getD 3 0)
  rcases Lib.decodeN_shape p.length (p.getD 0 0).toNat (p.getD 1 0).toNat (p.getD 2 0).toNat (p.getD 3 0).toNat with ⟨h, _⟩ | ⟨h1, h2, h3, h4, e⟩ | ⟨h1, h2, h3, h4, h5, _, e⟩ | ⟨h1, h2, h3, h4, h5, h6, h7, e⟩ | e
  · omega
  · rw [e]
    dsimp only
    have hs := enc_size _ h4
    refine ⟨h4, by omega, by omega, fun j hj => ?_, fun _ => ⟨hs.1, hs.2.1 (by omega)⟩⟩
    match j, hj with
    | 0, _ => exact h0
    | 1, _ => omega
    | n + 2, hj => omega
  · rw [e]
    dsimp only
    have hs := enc_size (((p.getD 0 0).toNat % 16) * 4096 + (p.getD 1 0).toNat % 64 * 64 + (p.getD 2 0).toNat % 64) (by omega)
    refine ⟨by omega, by omega, by omega, fun j hj => ?_, fun _ => ⟨hs.1, hs.2.2.1 (by omega)⟩⟩
    match j, hj with
    | 0, _ => exact h0
    | 1, _ => omega
    | 2, _ => omega
    | n + 3, hj => omega
  · rw [e]
    dsimp only
    have hs := enc_size (((p.getD 0 0).toNat % 8) * 262144 + (p.getD 1 0).toNat % 64 * 4096 + (p.getD 2 0).toNat % 64 * 64 + (p.getD 3 0).toNat % 64) (by omega)
    refine ⟨by omega, by omega, by omega, fun j hj => ?_, fun _ => ⟨hs.1, hs.2.2.2⟩⟩
    match j, hj with
    | 0, _ => exact h0
    | 1, _ => omega
    | 2, _ => omega
    | 3, _ => omega
    | n + 4, hj => omega
  · rw [e]
    dsimp only
    refine ⟨by omega, by omega, by omega, fun j hj => ?_, fun h => absurd rfl h⟩
    match j, hj with
    | 0, _ => exact h0
    | n + 1, hj => omega
theorem ascii_at {cs : List UInt8} (ha : ascii cs = true) {i : Nat} (hi : i < cs.length) : (cs.getD i 0).toNat < 128 := by
  unfold ascii at ha
  rw [List.all_eq_true] at ha
  have := ha (cs.getD i 0) (by simp [List.getD, hi])
  simp only [decide_eq_true_eq] at this
  exact this
theorem ascii_mem {cs : List UInt8} (ha : ascii cs = true) {x : UInt8} (hx : 128 ≤ x.toNat) : cs.contains x = false := by
  cases h : cs.contains x with
  | false => rfl
  | true =>
    unfold ascii at ha
    rw [List.all_eq_true] at ha
    have := ha x (by simpa using h)
    simp only [decide_eq_true_eq] at this
    have : x.toNat < 128 := this
    omega
theorem decL_ascii {cs : List UInt8} (ha : ascii cs = true) {i : Nat} (hi : i < cs.length) : decL cs i = (((cs.getD i 0).toNat : Int), 1) := by
  unfold decL
  rw [Lib.decode_N]
  rw [Lib.decodeN_ascii _ _ _ _ _ (by simpa using ascii_at ha hi)]
theorem index_beyond {cs : List UInt8} (ha : ascii cs = true) (c : Nat) (hc : 128 ≤ c) : Lib.index cs (Utf8.encode (c : Int)).data.toList = -1 := by
  obtain ⟨e, r, he, h1⟩ := enc_first c hc
  rw [he]
  refine Lib.index_none fun j _ => ?_
  unfold Lib.occAt
  cases hd : cs.drop j with
  | nil => rfl
  | cons x t =>
    have hj : j < cs.length := by
      rcases Nat.lt_or_ge j cs.length with h | h
      · exact h
      · rw [List.drop_eq_nil_of_le h] at hd; cases hd
    have hx : x = cs.getD j 0 := by
      rw [getD_drop (d := 0) hj] at hd
      exact (List.cons.inj hd).1.symm
    have := ascii_at ha hj
    rw [← hx] at this
    have hne : (e == x) = false := by
      rw [beq_eq_false_iff_ne]
      rintro rfl
      omega
    simp [List.isPrefixOf, hne]
theorem same_beyond {cs : List UInt8} (ha : ascii cs = true) (hn : cs ≠ []) (c : Nat) (hc : 128 ≤ c) : (cs == (Utf8.encode (c : Int)).data.toList) = false := by
  obtain ⟨e, r, he, h1⟩ := enc_first c hc
  rw [he, beq_eq_false_iff_ne]
  rintro rfl
  have := ascii_at ha (i := 0) (by simp)
  simp at this
  omega
theorem any_skip (cs : List UInt8) : ∀ (w : Nat) (p : List UInt8) (i : Int), w ≤ p.length → (∀ j, j < w → cs.contains (p.getD j 0) = false) → anyAt cs p i = anyAt cs (p.drop w) (i + w)
  | 0, p, i, _, _ => by simp
  | w + 1, [], i, h, _ => by simp at h
  | w + 1, x :: p, i, h, hc => by
    have h0 := hc 0 (by omega)
    simp only [List.getD_cons_zero] at h0
    have ih := any_skip cs w p (i + 1) (by simpa using h) (fun j hj => by have := hc (j + 1) (by omega); simpa using this)
    show (bif cs.contains x then i else anyAt cs p (i + 1)) = anyAt cs (p.drop w) (i + ((w + 1 : Nat) : Int))
    rw [h0, cond_false, ih]
    congr 1
    omega
variable (m0 : Int)
theorem any_l7 (ret : Int → Option AV) (k0 : Option AV) (cs : List UInt8) (ha : ascii cs = true) : ∀ (d i n : Nat), i + d = cs.length → d < n → z63_l7 m0 ret k0 n cs i = k0
  | d, i, 0, hi, hn => by omega
  | 0, i, n + 1, hi, hn => by
    show z63_l7_b m0 ret k0 (z63_l7 m0 ret k0 n) n cs i = _
    unfold z63_l7_b
    rw [decide_eq_false (by omega)]
    rfl
  | d + 1, i, n + 1, hi, hn => by
    show z63_l7_b m0 ret k0 (z63_l7 m0 ret k0 n) n cs i = _
    unfold z63_l7_b
    have hlt : i < cs.length := by omega
    have hx := ascii_at ha hlt
    rw [decide_eq_true hlt, decL_ascii ha hlt, cond_true, cond_true, cond_true, show ((((cs.getD i 0).toNat : Nat) : Int) == 65533) = false by rw [beq_eq_false_iff_ne]; omega, cond_false]
    exact any_l7 ret k0 cs ha d (i + 1) n (by omega) (by omega)
theorem any_l48 (ret : Int → Option AV) (k6 : List UInt8 → List UInt8 → Int → Int → Option AV) (s cs : List UInt8) (w at1 r : Int) (hr : 128 ≤ r) (ha : ascii cs = true) : ∀ (d i n : Nat), i + d = cs.length → d < n → z63_l48 m0 ret k6 n s cs w at1 r cs i = k6 s cs w at1
  | d, i, 0, hi, hn => by omega
  | 0, i, n + 1, hi, hn => by
    show z63_l48_b m0 ret k6 (z63_l48 m0 ret k6 n) n s cs w at1 r cs i = _
    unfold z63_l48_b
    rw [decide_eq_false (by omega)]
    rfl
  | d + 1, i, n + 1, hi, hn => by
    show z63_l48_b m0 ret k6 (z63_l48 m0 ret k6 n) n s cs w at1 r cs i = _
    unfold z63_l48_b
    have hlt : i < cs.length := by omega
    have hx := ascii_at ha hlt
    rw [decide_eq_true hlt, decL_ascii ha hlt, cond_true, cond_true, cond_true, show (r == (((cs.getD i 0).toNat : Nat) : Int)) = false by rw [beq_eq_false_iff_ne]; omega, cond_false]
    exact any_l48 ret k6 s cs w at1 r hr ha d (i + 1) n (by omega) (by omega)
theorem setOf_at (cs : List UInt8) (x : UInt8) : ∀ (a : List Bool), a.length = 256 → (setOf cs a).getD x.toNat false = (cs.contains x || a.getD x.toNat false) := by
  induction cs with
  | nil => intro a _; simp [setOf]
  | cons c cs ih =>
    intro a hl
    show (setOf cs (List.set a c.toNat true)).getD x.toNat false = _
    rw [ih _ (by simpa using hl)]
    have hx := byte256 x
    have hc := byte256 c
    by_cases e : c = x
    · subst e
      have : (List.set a c.toNat true).getD c.toNat false = true := by simp [List.getD, hl, hc]
      rw [this]
      simp
    · have hne : c.toNat ≠ x.toNat := fun h => e (UInt8.toNat_inj.1 h)
      have : (List.set a c.toNat true).getD x.toNat false = a.getD x.toNat false := by simp [List.getD, List.getElem?_set_ne hne]
      rw [this]
      have hb : ¬ x = c := fun h => e h.symm
      simp [hb]
theorem any_l24 (ret : Int → Option AV) (k2 : Option AV) (hk : k2 = ret (-1)) (s cs : List UInt8) (hl : s.length ≤ 1048576) : ∀ (d i n : Nat), i + d = s.length → d < n →
    z63_l24 m0 ret k2 n (setOf cs (List.replicate 256 false)) s (s.length : Nat) (i : Nat) = ret (anyAt cs (s.drop i) i)
  | d, i, 0, hi, hn => by omega
  | 0, i, n + 1, hi, hn => by
    show z63_l24_b m0 ret k2 (z63_l24 m0 ret k2 n) n _ s _ _ = _
    unfold z63_l24_b
    rw [decide_eq_false (by omega), cond_false, List.drop_eq_nil_of_le (by omega), hk]
    rfl
  | d + 1, i, n + 1, hi, hn => by
    show z63_l24_b m0 ret k2 (z63_l24 m0 ret k2 n) n _ s _ _ = _
    unfold z63_l24_b z85
    have hlt : i < s.length := by omega
    rw [dec_lt, decide_eq_true hlt, cond_true, dec_nonneg, Bool.true_and, cond_true, toNat_nat, setOf_at _ _ _ List.length_replicate, i64_succ (by omega), any_l24 ret k2 hk s cs hl d (i + 1) n (by omega) (by omega), getD_drop (d := 0) hlt]
    have : (List.replicate 256 false).getD (s.getD i 0).toNat false = false := by rw [List.getD_eq_getElem?_getD, List.getElem?_replicate]; split <;> rfl
    rw [this, Bool.or_false]
    show _ = ret (bif cs.contains (s.getD i 0) then (i : Int) else anyAt cs (s.drop (i + 1)) (i + 1))
    cases cs.contains (s.getD i 0) <;> rfl
set_option maxRecDepth 100000 in
theorem any_l32 (ret : Int → Option AV) (k4 : Option AV) (hk : k4 = ret (-1)) (s cs : List UInt8) (hl : s.length ≤ 1048576) (ha : ascii cs = true) (hc2 : 2 ≤ cs.length) (hcl : cs.length ≤ 1048576) (d i n : Nat) (hi : i + d = s.length) (hn : d + cs.length + 1 < n) :
    z63_l32 m0 ret k4 n s cs (i : Nat) = ret (anyAt cs (s.drop i) i) := by
  obtain ⟨n, rfl⟩ : ∃ n', n = n' + 1 := ⟨n - 1, by omega⟩
  show z63_l32_b m0 ret k4 (z63_l32 m0 ret k4 n) n s cs (i : Nat) = _
  unfold z63_l32_b
  match d, hi, hn with
  | 0, hi, hn =>
    rw [decide_eq_false (by omega), cond_false, List.drop_eq_nil_of_le (by omega), hk]
    rfl
  | d + 1, hi, hn =>
    have hlt : i < s.length := by omega
    have hb := byte256 (s.getD i 0)
    rw [dec_lt, decide_eq_true hlt, cond_true, dec_nonneg, Bool.true_and, cond_true, cond_true, toNat_nat, toNat_nat, List.take_length, IntWalk.i32_in _ (by omega)]
    by_cases h128 : (s.getD i 0).toNat < 128
    · rw [decide_eq_true (show (((s.getD i 0).toNat : Nat) : Int) < 128 by omega), cond_true, i64_succ (by omega), any_l32 ret k4 hk s cs hl ha hc2 hcl d (i + 1) n (by omega) (by omega), getD_drop (d := 0) hlt]
      show (bif decide ((0 : Int) ≤ Lib.indexByte cs (s.getD i 0)) then ret i else ret (anyAt cs (s.drop (i + 1)) ((i + 1 : Nat) : Int))) = ret (bif cs.contains (s.getD i 0) then (i : Int) else anyAt cs (s.drop (i + 1)) (i + 1))
      rw [← Lib.contains_iff_indexByte]
      cases cs.contains (s.getD i 0) <;> rfl
    · rw [decide_eq_false (show ¬ (((s.getD i 0).toNat : Nat) : Int) < 128 by omega), cond_false, decide_eq_true (show (i : Int) ≤ ((s.length : Nat) : Int) by omega), decide_eq_true (Int.le_refl _)]
      have hp : 0 < (s.drop i).length := by rw [List.length_drop]; omega
      have h0 : 128 ≤ ((s.drop i).getD 0 0).toNat := by
        rw [getD_drop (d := 0) hlt]
        simp only [List.getD_cons_zero]
        omega
      obtain ⟨f1, f2, f3, f4, f5⟩ := dec_facts (s.drop i) hp h0
      rw [show z86_ok (s.drop i) = true by unfold z86_ok; exact decide_eq_true hp]
      have hd1 : (z86 (s.drop i)).1 = ((Lib.decodeL (s.drop i)).1 : Int) := rfl
      have hd2 : (z86 (s.drop i)).2 = ((Lib.decodeL (s.drop i)).2 : Int) := rfl
      rw [hd1, hd2]
      obtain ⟨r, hr⟩ : ∃ r, (Lib.decodeL (s.drop i)).1 = r := ⟨_, rfl⟩
      obtain ⟨w, hw⟩ : ∃ w, (Lib.decodeL (s.drop i)).2 = w := ⟨_, rfl⟩
      rw [hr] at f1 f5
      rw [hw] at f2 f3 f4 f5
      rw [hr, hw]
      rw [List.length_drop] at f3
      have hnext : z63_l32 m0 ret k4 n s cs (IntKind.wrap .i64 ((i : Int) + (w : Int))) = ret (anyAt cs (s.drop i) i) := by
        rw [IntWalk.i64_in _ (by omega), show (i : Int) + (w : Int) = ((i + w : Nat) : Int) by omega, any_l32 ret k4 hk s cs hl ha hc2 hcl (d + 1 - w) (i + w) n (by omega) (by omega),
          any_skip cs w (s.drop i) i (by rw [List.length_drop]; exact f3) (fun j hj => ascii_mem ha (f4 j hj)), List.drop_drop]
        congr 2
      have h48 : z63_l48 m0 ret (z63_k48_6 m0 ret k4 (z63_l32 m0 ret k4 n) n) n s cs (w : Int) (i : Int) (r : Int) cs 0 = ret (anyAt cs (s.drop i) i) := by
        rw [any_l48 m0 ret _ s cs w i r (by omega) ha cs.length 0 n (by omega) (by omega)]
        exact hnext
      simp only [Bool.and_self, cond_true]
      by_cases hre : r = 65533
      · rw [show ((r : Int) != 65533) = false by simp only [bne_eq_false_iff_eq]; omega, cond_false, h48]
      · obtain ⟨e1, e2⟩ := f5 hre
        rw [show ((r : Int) != 65533) = true by simp only [bne_iff_ne, ne_eq]; omega, cond_true, same_beyond ha (by rintro rfl; simp at hc2) r f1, cond_false, hnext]
        cases ((cs.length : Int) == (w : Int)) with
        | true => rfl
        | false =>
          rw [cond_false]
          by_cases hm : (w : Int) ≤ m0
          · have hok : z87_ok m0 cs (Utf8.encode (r : Int)).data.toList = true := by
              unfold z87_ok
              rw [← Lib.size_eq]
              simp only [Bool.and_eq_true, decide_eq_true_eq]
              omega
            rw [decide_eq_true hm, hok]
            unfold z87
            rw [index_beyond ha r f1]
            rfl
          · rw [decide_eq_false hm, cond_false, h48]
  termination_by d
  decreasing_by all_goals omega
set_option maxRecDepth 100000 in
theorem z63_math : ∀ (s0 : List UInt8) (chars1 : List UInt8), (z63_ok s0 chars1 = true) → ∃ n, z63_sh m0 n s0 chars1 = z63_ret (z63 s0 chars1) := fun s cs h => ⟨s.length + cs.length + 2, by
  unfold z63_ok at h
  simp only [Bool.and_eq_true, decide_eq_true_eq] at h
  obtain ⟨⟨hc2, ha, hcl⟩, hl⟩ := h
  have hcl' := lenOk_le hcl
  have hl' := lenOk_le hl
  unfold z63_sh z63
  rw [show (cs == []) = false by cases cs with | nil => simp at hc2 | cons c r => rfl, cond_false]
  have hcne : (((cs.length : Nat) : Int) == 1) = false := by rw [beq_eq_false_iff_ne]; omega
  by_cases h1 : s.length = 1
  · rw [show (((s.length : Nat) : Int) == 1) = true by rw [beq_iff_eq]; omega, cond_true]
    obtain ⟨x, rfl⟩ := List.length_eq_one_iff.1 h1
    have hx := byte256 x
    show (bif decide ((128 : Int) ≤ IntKind.wrap .i32 ((x.toNat : Nat) : Int)) then _ else _) = _
    rw [IntWalk.i32_in _ (by omega)]
    by_cases h128 : x.toNat < 128
    · rw [decide_eq_false (show ¬ (128 : Int) ≤ ((x.toNat : Nat) : Int) by omega), cond_false]
      show (bif decide ((0 : Int) ≤ Lib.indexByte cs x) then z63_ret 0 else z63_ret (-1)) = z63_ret (bif cs.contains x then 0 else -1)
      rw [← Lib.contains_iff_indexByte]
      cases cs.contains x <;> rfl
    · rw [decide_eq_true (show (128 : Int) ≤ ((x.toNat : Nat) : Int) by omega), cond_true, any_l7 m0 _ _ cs ha cs.length 0 _ (by omega) (by omega)]
      show z63_ret (-1) = z63_ret (bif cs.contains x then 0 else -1)
      rw [ascii_mem ha (by omega)]
      rfl
  · rw [show (((s.length : Nat) : Int) == 1) = false by rw [beq_eq_false_iff_ne]; omega, cond_false, hcne, cond_false]
    have h32 := any_l32 m0 z63_ret (z63_k32_4 m0 (s.length + cs.length + 2)) rfl s cs hl' ha hc2 hcl' s.length 0 (s.length + cs.length + 2) (by omega) (by omega)
    have h24 := any_l24 m0 z63_ret (z63_k24_2 m0 (s.length + cs.length + 2)) rfl s cs hl' s.length 0 (s.length + cs.length + 2) (by omega) (by omega)
    rw [show z78_ok cs = true by unfold z78_ok; rw [ha, hcl]; rfl]
    cases z84 ((s.length : Nat) : Int) with
    | true => exact h24
    | false =>
      rw [cond_false]
      exact h32⟩
theorem z71_math : ∀ (b0 : List UInt8) (chars1 : List UInt8), (z71_ok b0 chars1 = true) → ∃ n, z71_sh n b0 chars1 = z71_ret (z71 b0 chars1) := fun b cs h => ⟨0, by
  unfold z71_sh z71
  rw [show z63_ok b cs = true from h]
  rfl⟩
theorem capital_ok (s : List UInt8) (h : z51_ok s = true) : z71_ok s [97, 98, 99, 100, 101, 102] = true := by
  unfold z71_ok z63_ok
  rw [show lenOk s = true from h, Bool.and_true]
  decide
theorem z51_math : ∀ (s0 : List UInt8), (z51_ok s0 = true) → ∃ n, z51_sh n s0 = z51_ret (z51 s0) := fun s h => ⟨0, by
  unfold z51_sh z51
  rw [capital_ok s h]
  rfl⟩
theorem z33_math : ∀ (s0 : List UInt8) (sep1 : List UInt8), (z33_ok s0 sep1 = true) → ∃ n, z33_sh n s0 sep1 = z33_ret (z33 s0 sep1).1 (z33 s0 sep1).2.1 (z33 s0 sep1).2.2 := fun s sep h => ⟨0, by
  have h0 := h
  unfold z33_ok at h
  rw [Bool.and_eq_true] at h
  have hl := lenOk_le h.1
  have hl2 := lenOk_le (Bool.and_eq_true _ _ ▸ h.2).1
  unfold z33_sh z33 z49
  rw [show z49_ok s sep = true from h0]
  by_cases h1 : 0 ≤ Lib.index s sep
  · have hr := Lib.index_room s sep h1
    have e : IntKind.wrap .i64 (Lib.index s sep + ((sep.length : Nat) : Int)) = Lib.index s sep + ((sep.length : Nat) : Int) := IntWalk.i64_in _ (by omega)
    rw [e, decide_eq_true h1, decide_eq_true (show (0 : Int) ≤ ((0 : Nat) : Int) by omega), decide_eq_true (show ((0 : Nat) : Int) ≤ Lib.index s sep by omega), decide_eq_true (show Lib.index s sep ≤ ((s.length : Nat) : Int) by omega),
      decide_eq_true (show (0 : Int) ≤ Lib.index s sep + ((sep.length : Nat) : Int) by omega), decide_eq_true (show Lib.index s sep + ((sep.length : Nat) : Int) ≤ ((s.length : Nat) : Int) by omega), decide_eq_true (Int.le_refl ((s.length : Nat) : Int)), toNat_nat, toNat_nat, List.take_length,
      show Int.toNat (Lib.index s sep + ((sep.length : Nat) : Int)) = (Lib.index s sep).toNat + sep.length by omega]
    rfl
  · rw [decide_eq_false h1]; rfl⟩
theorem fin_of {P : UInt8 → Prop} (h : ∀ i : Fin 256, P (UInt8.ofNat i.val)) (c : UInt8) : P c := by
  have := h ⟨c.toNat, c.toNat_lt⟩
  simpa using this
theorem dT {p : Prop} [Decidable p] (h : p) : decide p = true := decide_eq_true h
theorem dF {p : Prop} [Decidable p] (h : ¬ p) : decide p = false := decide_eq_false h
theorem wr {x : Int} (h : -9223372036854775808 ≤ x ∧ x ≤ 9223372036854775807) : IntKind.wrap .i64 x = x := IntWalk.i64_in x h
theorem tn (i : Nat) : Int.toNat (i : Int) = i := Int.toNat_natCast i
theorem lenOk_of {α : Type} {l : List α} (h : l.length ≤ 1048576) : lenOk l = true := by unfold lenOk; rw [decide_eq_true_eq]; exact h
theorem dropR_snoc (p : UInt8 → Bool) (t : List UInt8) (x : UInt8) : dropR p (t ++ [x]) = bif p x then dropR p t else t ++ [x] := by
  unfold dropR
  rw [List.reverse_append, List.reverse_singleton, List.singleton_append, List.dropWhile_cons]
  cases p x <;> simp
theorem set_contains (cs : List UInt8) (c : UInt8) : z85 (z78 cs).1 c = cs.contains c := by
  have := setOf_at cs c (List.replicate 256 false) List.length_replicate
  unfold z85 z78
  have hc : c.toNat < 256 := c.toNat_lt
  rw [this, List.getD_eq_getElem?_getD, List.getElem?_replicate, if_pos hc]
  exact Bool.or_false _
theorem has_loop (ret : Bool → Option AV) (k0 : Option AV) (hk : k0 = ret false) (s : List UInt8) (c : UInt8) (hl : s.length ≤ 1048576) : ∀ (d i n : Nat), i + d = s.length → d < n →
    z76_l2 ret k0 n s c (i : Nat) = ret ((s.drop i).contains c)
  | d, i, 0, hi, hn => by omega
  | 0, i, n + 1, hi, hn => by
    show z76_l2_b ret k0 (z76_l2 ret k0 n) n _ _ _ = _
    unfold z76_l2_b
    rw [dF (by omega), cond_false, List.drop_eq_nil_of_le (by omega), hk]
    rfl
  | d + 1, i, n + 1, hi, hn => by
    show z76_l2_b ret k0 (z76_l2 ret k0 n) n _ _ _ = _
    unfold z76_l2_b
    have hlt : i < s.length := by omega
    have ih := has_loop ret k0 hk s c hl d (i + 1) n (by omega) (by omega)
    rw [getD_drop (d := (0 : UInt8)) hlt, List.contains_cons]
    simp (disch := omega) only [dT, cond_true, Bool.and_true, tn, i64_succ]
    rw [ih, show (s.getD i 0 == c) = (c == s.getD i 0) from Bool.beq_comm]
    cases (c == s.getD i 0) <;> rfl
theorem has_math' (s : List UInt8) (c : UInt8) (hl : s.length ≤ 1048576) : ∃ n, z76_sh n s c = z76_ret (z76 s c) := ⟨s.length + 1, by
  unfold z76_sh
  have := has_loop z76_ret (z76_k2_0 (s.length + 1)) rfl s c hl s.length 0 (s.length + 1) (by omega) (by omega)
  exact this⟩
theorem z76_math : ∀ (s0 : List UInt8) (c1 : UInt8), (z76_ok s0 c1 = true) → ∃ n, z76_sh n s0 c1 = z76_ret (z76 s0 c1) := fun s c h => has_math' s c (lenOk_le h)
theorem z43_math : ∀ (c0 : UInt8) (kinds1 : Int), ∃ n, z43_sh n c0 kinds1 = z43_ret (z43 c0 kinds1) := fun _ _ => ⟨0, rfl⟩
theorem splitS_nil (cur : List UInt8) : splitS cur [] = [cur] := rfl
theorem splitS_step (cur : List UInt8) (c : UInt8) (r : List UInt8) : splitS cur (c :: r) = if c = 13 ∧ r.head? = some 10 then cur :: splitS [] (r.drop 1) else splitS (cur ++ [c]) r := by
  have h : lineB true [] r = splitS [] (r.drop 1) := by cases r <;> rfl
  unfold splitS
  rw [show lineB false cur (c :: r) = if c = 13 ∧ r.head? = some 10 then cur :: lineB true [] r else lineB false (cur ++ [c]) r from rfl, h]
  rfl
theorem splitS_ne : ∀ (s cur : List UInt8), splitS cur s ≠ []
  | [], cur => by simp [splitS_nil]
  | c :: r, cur => by
    rw [splitS_step]
    split
    · simp
    · exact splitS_ne r _
theorem linesEnd_last : ∀ (pre : List (List UInt8)) (x : List UInt8), linesEnd (pre ++ [x]) = if x = [] then (pre, true) else (pre ++ [x], false)
  | [], x => by
    simp only [List.nil_append, linesEnd]
  | a :: pre, x => by
    have ih := linesEnd_last pre x
    have : linesEnd (a :: pre ++ [x]) = (a :: (linesEnd (pre ++ [x])).1, (linesEnd (pre ++ [x])).2) := by
      cases pre with
      | nil => rfl
      | cons b p => rfl
    rw [this, ih]
    split <;> rfl
theorem crlf_head (c : UInt8) (r : List UInt8) : (([13, 10] : List UInt8).isPrefixOf (c :: r)) = decide (c = 13 ∧ r.head? = some 10) := by
  cases r with
  | nil => simp [List.isPrefixOf]
  | cons e r =>
    simp only [List.isPrefixOf, Bool.and_true, List.head?_cons, Option.some.injEq]
    rw [Bool.eq_iff_iff]
    simp only [Bool.and_eq_true, beq_iff_eq, decide_eq_true_eq]
    exact ⟨fun h => ⟨h.1.symm, h.2.symm⟩, fun h => ⟨h.1.symm, h.2.symm⟩⟩
theorem idx_cons (c : UInt8) (r : List UInt8) : Lib.index (c :: r) [13, 10] = if c = 13 ∧ r.head? = some 10 then 0 else if Lib.index r [13, 10] = -1 then -1 else Lib.index r [13, 10] + 1 := by
  have : Lib.index (c :: r) [13, 10] = if ([13, 10] : List UInt8).isPrefixOf (c :: r) then 0 else if Lib.index r [13, 10] == -1 then -1 else Lib.index r [13, 10] + 1 := rfl
  rw [this, crlf_head]
  by_cases h : c = 13 ∧ r.head? = some 10
  · rw [if_pos h, if_pos (by simpa using h)]
  · rw [if_neg h, if_neg (by simpa using h)]
    by_cases h2 : Lib.index r [13, 10] = -1
    · simp [h2]
    · rw [if_neg h2, if_neg (by simpa using h2)]
theorem head_drop {r : List UInt8} (h : r.head? = some 10) : 1 ≤ r.length := by cases r with
  | nil => cases h
  | cons a b => simp
theorem split_cut : ∀ (s cur : List UInt8), (Lib.index s [13, 10] = -1 ∧ splitS cur s = [cur ++ s]) ∨
    (∃ k : Nat, Lib.index s [13, 10] = k ∧ k + 2 ≤ s.length ∧ splitS cur s = (cur ++ s.take k) :: splitS [] (s.drop (k + 2)))
  | [], cur => .inl ⟨rfl, by simp [splitS_nil]⟩
  | c :: r, cur => by
    rw [idx_cons, splitS_step]
    by_cases h : c = 13 ∧ r.head? = some 10
    · right
      rw [if_pos h, if_pos h]
      refine ⟨0, rfl, by have := head_drop h.2; simp; omega, ?_⟩
      simp
    · rw [if_neg h, if_neg h]
      rcases split_cut r (cur ++ [c]) with ⟨h1, h2⟩ | ⟨k, h1, h2, h3⟩
      · left
        rw [h1, if_pos rfl, h2]
        exact ⟨rfl, by simp⟩
      · right
        refine ⟨k + 1, by rw [h1, if_neg (by omega)]; omega, by simp; omega, ?_⟩
        rw [h3]
        simp
theorem cut_crlf (s : List UInt8) : (z33 s [13, 10] = (s, [], false) ∧ splitS [] s = [s] ∧ Lib.index s [13, 10] = -1) ∨
    (∃ k : Nat, k + 2 ≤ s.length ∧ z33 s [13, 10] = (s.take k, s.drop (k + 2), true) ∧ splitS [] s = s.take k :: splitS [] (s.drop (k + 2)) ∧ Lib.index s [13, 10] = k) := by
  rcases split_cut s [] with ⟨h1, h2⟩ | ⟨k, h1, h2, h3⟩
  · left
    refine ⟨?_, by simpa using h2, h1⟩
    unfold z33
    rw [h1]
    rfl
  · right
    refine ⟨k, h2, ?_, by simpa using h3, h1⟩
    unfold z33
    rw [h1, dT (by omega), cond_true, tn]
    rfl
theorem z22_math : ∀ (c0 : UInt8) (ends1 : Bool), ∃ n, z22_sh n c0 ends1 = z22_ret (z22 c0 ends1) := fun c e => ⟨0, by
  unfold z22_sh z22 unitL
  rw [show z42_ok ([] : List UInt8) 61 c = true from rfl]
  cases (c != 61) <;> cases z41 c 4 <;> cases z41 c 2 <;> cases e <;> rfl⟩
theorem z23_math : ∀ (c0 : UInt8) (ends1 : Bool), ∃ n, z23_sh n c0 ends1 = z23_ret (z23 c0 ends1) := fun c e => ⟨0, by
  unfold z23_sh z23 unitL z43
  rw [show z44_ok ([] : List UInt8) 61 c = true from rfl]
  cases (c != 61) <;> cases z41 c 4 <;> cases z41 c 2 <;> cases e <;> rfl⟩
theorem unit_len (c : UInt8) (e : Bool) : (unitL c e).length ≤ 3 ∧ 1 ≤ (unitL c e).length := by
  unfold unitL
  cases (((c != 61) && z41 c 4) || (!e && z41 c 2))
  · exact ⟨Nat.le_refl 3, by show 1 ≤ 3; omega⟩
  · exact ⟨by show 1 ≤ 3; omega, Nat.le_refl 1⟩
theorem brk_key1 : ∀ b1 b3 : Bool, (bif b1 then 1 else bif b3 then 1 else 0 : Nat) ≤ 1 := by decide
theorem brk_key2 : ∀ b1 b2 b3 : Bool, (bif b1 then (bif b2 then 2 else 1) else bif b3 then 1 else 0 : Nat) ≤ 2 := by decide
theorem brk_le : ∀ l : List UInt8, brk l ≤ l.length ∧ brk l ≤ 2
  | [] => ⟨Nat.le_refl _, by decide⟩
  | [x] => by
    have h : brk [x] ≤ 1 := brk_key1 (x == 13) (x == 10)
    exact ⟨h, Nat.le_trans h (by omega)⟩
  | x :: y :: r => by
    have h : brk (x :: y :: r) ≤ 2 := brk_key2 (x == 13) (y == 10) (x == 10)
    exact ⟨Nat.le_trans h (by simp), h⟩
theorem brk_at {s : List UInt8} {i : Nat} (h : i < s.length) : brk (s.drop i) = bif s.getD i 0 == 13 then (bif decide (i + 1 < s.length) then (bif s.getD (i + 1) 0 == 10 then 2 else 1) else 1) else bif s.getD i 0 == 10 then 1 else 0 := by
  rw [getD_drop (d := (0 : UInt8)) h]
  by_cases h2 : i + 1 < s.length
  · rw [getD_drop (d := (0 : UInt8)) h2, decide_eq_true h2]; rfl
  · rw [List.drop_eq_nil_of_le (by omega), decide_eq_false h2]; rfl
theorem z39_math : ∀ (s0 : List UInt8) (at1 : Int), (z39_ok s0 at1 = true) → ∃ n, z39_sh n s0 at1 = z39_ret (z39 s0 at1) := fun s at1 h => ⟨0, by
  unfold z39_ok at h
  simp only [Bool.and_eq_true, decide_eq_true_eq] at h
  have hl := lenOk_le h.1
  obtain ⟨i, rfl⟩ : ∃ i : Nat, at1 = (i : Int) := ⟨at1.toNat, by omega⟩
  unfold z39_sh z39
  rw [tn]
  by_cases hi : i < s.length
  · rw [brk_at hi, i64_succ (by omega), dF (show ¬ ((s.length : Nat) : Int) ≤ (i : Int) by omega), tn]
    simp (disch := omega) only [dT, cond_true, cond_false, Bool.and_true]
    rw [show decide (((i + 1 : Nat) : Int) < ((s.length : Nat) : Int)) = decide (i + 1 < s.length) by congr 1; apply propext; omega]
    generalize s.getD i 0 = x
    generalize s.getD (i + 1) 0 = y
    by_cases h13 : x = 13
    · subst h13
      cases decide (i + 1 < s.length) <;> cases (y == 10) <;> rfl
    · have e1 : (x == 13) = false := by simp [h13]
      have e2 : (x != 13) = true := by simp [bne, h13]
      rw [e1, e2]
      by_cases h10 : x = 10
      · subst h10; rfl
      · have e3 : (x == 10) = false := by simp [h10]
        have e4 : (x != 10) = true := by simp [bne, h10]
        rw [e3, e4]; rfl
  · rw [dT (show ((s.length : Nat) : Int) ≤ (i : Int) by omega), List.drop_eq_nil_of_le (by omega)]; rfl⟩
theorem brksS_skip : ∀ (k : Nat) (l : List UInt8), brksS k l = brksS 0 (l.drop k)
  | 0, l => rfl
  | k + 1, [] => rfl
  | k + 1, x :: r => by rw [show brksS (k + 1) (x :: r) = brksS k r from rfl, brksS_skip k r]; rfl
theorem layS_skip : ∀ (k : Nat) (l : List UInt8) (p : Page), layS k l p = layS 0 (l.drop k) p
  | 0, l, p => rfl
  | k + 1, [], p => rfl
  | k + 1, x :: r, p => by rw [show layS (k + 1) (x :: r) p = layS k r p from rfl, layS_skip k r p]; rfl
theorem brks_step {s : List UInt8} {i : Nat} (h : i < s.length) : brksS 0 (s.drop i) = bif decide (0 < brk (s.drop i)) then 13 :: 10 :: brksS 0 (s.drop (i + brk (s.drop i))) else s.getD i 0 :: brksS 0 (s.drop (i + 1)) := by
  have e := getD_drop (d := (0 : UInt8)) h
  cases hb : brk (s.drop i) with
  | zero =>
    rw [e] at hb ⊢
    rw [show brksS 0 (s.getD i 0 :: s.drop (i + 1)) = (match brk (s.getD i 0 :: s.drop (i + 1)) with | 0 => s.getD i 0 :: brksS 0 (s.drop (i + 1)) | k + 1 => 13 :: 10 :: brksS k (s.drop (i + 1))) from rfl, hb]
    rfl
  | succ k =>
    rw [e] at hb ⊢
    rw [show brksS 0 (s.getD i 0 :: s.drop (i + 1)) = (match brk (s.getD i 0 :: s.drop (i + 1)) with | 0 => s.getD i 0 :: brksS 0 (s.drop (i + 1)) | k + 1 => 13 :: 10 :: brksS k (s.drop (i + 1))) from rfl, hb]
    show 13 :: 10 :: brksS k (s.drop (i + 1)) = 13 :: 10 :: brksS 0 (s.drop (i + (k + 1)))
    rw [brksS_skip k, List.drop_drop, show i + 1 + k = i + (k + 1) by omega]
theorem lay_step {s : List UInt8} {i : Nat} (h : i < s.length) (p : Page) : layS 0 (s.drop i) p = bif decide (0 < brk (s.drop i)) then layS 0 (s.drop (i + brk (s.drop i))) (pEnd p false) else layS 0 (s.drop (i + 1)) (pPut p (unitL (s.getD i 0) (decide (0 < brk (s.drop (i + 1)))))) := by
  have e := getD_drop (d := (0 : UInt8)) h
  cases hb : brk (s.drop i) with
  | zero =>
    rw [e] at hb ⊢
    rw [show layS 0 (s.getD i 0 :: s.drop (i + 1)) p = (match brk (s.getD i 0 :: s.drop (i + 1)) with | 0 => layS 0 (s.drop (i + 1)) (pPut p (unitL (s.getD i 0) (decide (0 < brk (s.drop (i + 1)))))) | k + 1 => layS k (s.drop (i + 1)) (pEnd p false)) from rfl, hb]
    rfl
  | succ k =>
    rw [e] at hb ⊢
    rw [show layS 0 (s.getD i 0 :: s.drop (i + 1)) p = (match brk (s.getD i 0 :: s.drop (i + 1)) with | 0 => layS 0 (s.drop (i + 1)) (pPut p (unitL (s.getD i 0) (decide (0 < brk (s.drop (i + 1)))))) | k + 1 => layS k (s.drop (i + 1)) (pEnd p false)) from rfl, hb]
    show layS k (s.drop (i + 1)) (pEnd p false) = layS 0 (s.drop (i + (k + 1))) (pEnd p false)
    rw [layS_skip k, List.drop_drop, show i + 1 + k = i + (k + 1) by omega]
theorem broken_nat (s : List UInt8) (i : Nat) : z39 s (i : Int) = ((brk (s.drop i) : Nat) : Int) := by unfold z39; rw [tn]
theorem broken_okN {s : List UInt8} {i : Nat} (hl : s.length ≤ 1048576) (hi : i ≤ 1048577) : z39_ok s (i : Int) = true := by
  unfold z39_ok
  rw [lenOk_of hl, dT (by omega)]; rfl
theorem refbreaks_loop (k0 : List UInt8 → Option AV) (s : List UInt8) (hl : s.length ≤ 1048576) : ∀ (d i n : Nat) (out : List UInt8), i + d = s.length → d < n → out.length + 2 * d ≤ room →
    z21_l3 k0 n s out (i : Nat) = k0 (out ++ brksS 0 (s.drop i))
  | d, i, 0, out, hi, hn, _ => by omega
  | 0, i, n + 1, out, hi, hn, _ => by
    show z21_l3_b _ _ n _ _ _ = _
    unfold z21_l3_b
    rw [dF (by omega), cond_false, List.drop_eq_nil_of_le (by omega)]
    show k0 out = k0 (out ++ [])
    rw [List.append_nil]
  | d + 1, i, n + 1, out, hi, hn, hb => by
    have hlt : i < s.length := by omega
    have hat := brk_at hlt
    have ih1 := fun out hh => refbreaks_loop k0 s hl d (i + 1) n out (by omega) (by omega) hh
    have ih2 : ∀ out : List UInt8, i + 2 ≤ s.length → out.length + 2 * (d - 1) ≤ room → z21_l3 k0 n s out ((i + 2 : Nat) : Int) = k0 (out ++ brksS 0 (s.drop (i + 2))) := fun out h2 hh => refbreaks_loop k0 s hl (d - 1) (i + 2) n out (by omega) (by omega) hh
    show z21_l3_b _ _ n _ _ _ = _
    unfold z21_l3_b
    rw [brks_step hlt, hat, tn, i64_succ (by omega), i64_succ (i := i + 1) (by omega), tn]
    simp (disch := (first | omega | (simp; omega))) only [dT, cond_true, Bool.and_true]
    rw [show decide (((i + 1 : Nat) : Int) < ((s.length : Nat) : Int)) = decide (i + 1 < s.length) by congr 1; apply propext; omega]
    rw [ih1 _ (by simp; omega), ih1 _ (by simp; omega)]
    generalize s.getD i 0 = x
    by_cases h13 : x = 13
    · subst h13
      by_cases h2 : i + 1 < s.length
      · rw [ih2 _ (by omega) (by simp; omega), dT h2]
        generalize s.getD (i + 1) 0 = y
        cases (y == 10) <;> simp [List.append_assoc]
      · rw [dF h2]; simp [List.append_assoc]
    · have e1 : (x == 13) = false := by simp [h13]
      have e2 : (x != 13) = true := by simp [bne, h13]
      rw [e1, e2]
      by_cases h10 : x = 10
      · subst h10; simp [List.append_assoc]
      · have e3 : (x == 10) = false := by simp [h10]
        have e4 : (x != 10) = true := by simp [bne, h10]
        rw [e3, e4]; simp [List.append_assoc]
  termination_by d => d
theorem z21_math : ∀ (s0 : List UInt8), (z21_ok s0 = true) → ∃ n, z21_sh n s0 = z21_ret (z21 s0) := fun s h => ⟨s.length + 1, by
  have hl := lenOk_le (l := s) h
  unfold z21_sh z21
  refine (refbreaks_loop (z21_k3_0 (s.length + 1)) s hl s.length 0 (s.length + 1) [] (by omega) (by omega) (by unfold room; simp; omega)).trans ?_
  rw [List.drop_zero]; rfl⟩
theorem z40_math : ∀ (p0 : (List UInt8) × (Int × Unit)) (soft1 : Bool), (z40_ok p0 soft1 = true) → ∃ n, z40_sh n p0 soft1 = z40_ret (z40 p0 soft1) := fun p soft h => ⟨0, by
  unfold z40_ok at h
  have hl : p.1.length ≤ 100000000 := by simpa using h
  have hr : room = 1073741824 := rfl
  unfold z40_sh z40 pEnd
  cases soft
  · simp only [cond_false]
    rw [dT (by rw [hr]; simp; omega), cond_true]
  · simp only [cond_true]
    rw [dT (show p.1.length + ([61] : List UInt8).length ≤ room by rw [hr]; simp; omega), cond_true, dT (by rw [hr]; simp; omega), cond_true, List.append_assoc]
    rfl⟩
theorem z38_math : ∀ (p0 : (List UInt8) × (Int × Unit)) (u1 : List UInt8), (z38_ok p0 u1 = true) → ∃ n, z38_sh n p0 u1 = z38_ret (z38 p0 u1) := fun p u h => ⟨0, by
  unfold z38_ok at h
  simp only [Bool.and_eq_true, decide_eq_true_eq] at h
  obtain ⟨h1, h2, h3⟩ := h
  have hr : room = 1073741824 := rfl
  have he : z40_ok p true = true := dT h1
  unfold z38_sh z38 pPut
  rw [he, show IntKind.wrap .i64 (p.2.1 + ((u.length : Nat) : Int)) = p.2.1 + ((u.length : Nat) : Int) from IntWalk.i64_in _ (by omega)]
  by_cases h75 : 75 < p.2.1 + ((u.length : Nat) : Int)
  · rw [dT h75]
    have hl : (pEnd p true).1.length ≤ 100000003 := by unfold pEnd; simp; omega
    simp only [cond_true]
    rw [show z40 p true = pEnd p true from rfl, dT (by rw [hr]; omega), cond_true, show (pEnd p true).2.1 = 0 from rfl, IntWalk.i64_in _ (by omega)]
  · rw [dF h75]
    simp only [cond_false]
    rw [dT (by rw [hr]; omega), cond_true]⟩
def okP (p : Page) (b : Nat) : Prop := p.1.length ≤ b ∧ 0 ≤ p.2.1 ∧ p.2.1 ≤ 75
theorem pEnd_ok {p : Page} {b : Nat} (h : okP p b) (soft : Bool) : okP (pEnd p soft) (b + 3) := by
  unfold okP pEnd at *
  cases soft <;> simp <;> omega
theorem pPut_ok {p : Page} {b : Nat} (h : okP p b) {u : List UInt8} (hu : u.length ≤ 3) : okP (pPut p u) (b + 6) := by
  unfold pPut
  by_cases h75 : 75 < p.2.1 + ((u.length : Nat) : Int)
  · rw [dT h75]
    have := pEnd_ok h true
    unfold okP at this ⊢
    show ((pEnd p true).1 ++ u).length ≤ _ ∧ 0 ≤ (0 : Int) + (u.length : Nat) ∧ (0 : Int) + (u.length : Nat) ≤ 75
    rw [List.length_append]; omega
  · rw [dF h75]
    unfold okP at h ⊢
    show (p.1 ++ u).length ≤ _ ∧ 0 ≤ p.2.1 + (u.length : Nat) ∧ p.2.1 + (u.length : Nat) ≤ 75
    rw [List.length_append]; omega
theorem lay_loop (k0 : Page → Option AV) (s : List UInt8) (hl : s.length ≤ 1048576) : ∀ (d i n : Nat) (p : Page), i + d = s.length → d < n → okP p (6 * i) →
    z16_l4 k0 n s p (i : Nat) = k0 (layS 0 (s.drop i) p) ∧ okP (layS 0 (s.drop i) p) (6 * s.length)
  | d, i, 0, p, hi, hn, _ => by omega
  | 0, i, n + 1, p, hi, hn, hp => by
    obtain rfl : i = s.length := by omega
    refine ⟨?_, ?_⟩
    · show z16_l4_b _ _ n _ _ _ = _
      unfold z16_l4_b
      rw [dF (by omega), cond_false, List.drop_eq_nil_of_le (by omega)]
      rfl
    · rw [List.drop_eq_nil_of_le (by omega)]; exact hp
  | d + 1, i, n + 1, p, hi, hn, hp => by
    have hlt : i < s.length := by omega
    have hbk := brk_le (s.drop i)
    rw [List.length_drop] at hbk
    rw [lay_step hlt]
    by_cases h0 : 0 < brk (s.drop i)
    · have ih := lay_loop k0 s hl (d + 1 - brk (s.drop i)) (i + brk (s.drop i)) n (pEnd p false) (by omega) (by omega) (by have := pEnd_ok hp false; unfold okP at this ⊢; omega)
      rw [dT h0, cond_true]
      refine ⟨?_, ih.2⟩
      show z16_l4_b _ _ n _ _ _ = _
      unfold z16_l4_b
      rw [broken_okN hl (by omega), broken_nat, dT (by omega), dT (show (0 : Int) < ((brk (s.drop i) : Nat) : Int) by omega), show z40_ok p false = true from dT (by unfold okP at hp; omega),
        show IntKind.wrap .i64 ((i : Int) + ((brk (s.drop i) : Nat) : Int)) = ((i + brk (s.drop i) : Nat) : Int) by rw [IntWalk.i64_in _ (by omega)]; omega]
      exact ih.1
    · have hu := unit_len (s.getD i 0) (decide (0 < brk (s.drop (i + 1))))
      have ih := lay_loop k0 s hl d (i + 1) n (pPut p (unitL (s.getD i 0) (decide (0 < brk (s.drop (i + 1)))))) (by omega) (by omega) (by have := pPut_ok hp hu.1; unfold okP at this ⊢; omega)
      rw [dF h0, cond_false]
      refine ⟨?_, ih.2⟩
      show z16_l4_b _ _ n _ _ _ = _
      unfold z16_l4_b
      rw [i64_succ (by omega), broken_okN hl (by omega), broken_okN hl (by omega), broken_nat, broken_nat, tn, dT (show (i : Int) < ((s.length : Nat) : Int) by omega), dF (show ¬ (0 : Int) < ((brk (s.drop i) : Nat) : Int) by omega),
        show decide ((0 : Int) < ((brk (s.drop (i + 1)) : Nat) : Int)) = decide (0 < brk (s.drop (i + 1))) by congr 1; apply propext; omega]
      have hok : z38_ok p (z22 (s.getD i 0) (decide (0 < brk (s.drop (i + 1))))) = true := by
        unfold z38_ok okP at *
        rw [dT (by omega), dT (by omega), dT (by show (unitL _ _).length ≤ _; omega)]; rfl
      rw [hok, dT (show (0 : Int) ≤ (i : Int) by omega)]
      exact ih.1
  termination_by d => d
theorem lay_okP (s : List UInt8) (hl : s.length ≤ 1048576) : okP (layS 0 s ([], (0, ()))) (6 * s.length) := by
  have := (lay_loop (fun _ => none) s hl s.length 0 (s.length + 1) ([], (0, ())) (by omega) (by omega) (by unfold okP; simp)).2
  rwa [List.drop_zero] at this
theorem z16_math : ∀ (s0 : List UInt8), (z16_ok s0 = true) → ∃ n, z16_sh n s0 = z16_ret (z16 s0) := fun s h => ⟨s.length + 1, by
  have hl := lenOk_le (l := s) h
  have hp := lay_okP s hl
  unfold z16_sh z16
  refine (lay_loop (z16_k4_0 (s.length + 1)) s hl s.length 0 (s.length + 1) ([], (0, ())) (by omega) (by omega) (by unfold okP; simp)).1.trans ?_
  rw [List.drop_zero]
  unfold z16_k4_0 pDone
  generalize layS 0 s ([], (0, ())) = p at hp ⊢
  rw [show z40_ok p true = true from dT (by unfold okP at hp; omega)]
  cases decide ((0 : Int) < p.2.1) <;> rfl⟩
theorem done_len {p : Page} {b : Nat} (h : okP p b) : (pDone p).length ≤ b + 3 := by
  unfold pDone
  have h1 := (pEnd_ok h true).1
  have h2 := h.1
  cases decide ((0 : Int) < p.2.1)
  · exact Nat.le_trans h2 (by omega)
  · exact h1
theorem lay_len (s : List UInt8) (hl : s.length ≤ 1048576) : (z16 s).length ≤ 6 * s.length + 3 := done_len (lay_okP s hl)
def refS : Nat → List UInt8 → Page → Page
  | _, [], p => p
  | 0, x :: r, p => bif x == 13 then refS 1 r (pEnd p false) else refS 0 r (pPut p (unitL x (r.headD 0 == 13)))
  | k + 1, _ :: r, p => refS k r p
theorem head_brks : ∀ r : List UInt8, ((brksS 0 r).headD 0 == 13) = decide (0 < brk r)
  | [] => rfl
  | x :: r => by
    cases hb : brk (x :: r) with
    | zero =>
      rw [show brksS 0 (x :: r) = (match brk (x :: r) with | 0 => x :: brksS 0 r | k + 1 => 13 :: 10 :: brksS k r) from rfl, hb]
      show (x == 13) = false
      by_cases h13 : x = 13
      · subst h13
        have : brk (13 :: r) ≠ 0 := by
          cases r with
          | nil => decide
          | cons y r => show (bif y == 10 then 2 else 1) ≠ 0; cases (y == 10) <;> decide
        exact absurd hb this
      · simp [h13]
    | succ k =>
      rw [show brksS 0 (x :: r) = (match brk (x :: r) with | 0 => x :: brksS 0 r | k + 1 => 13 :: 10 :: brksS k r) from rfl, hb]
      rfl
theorem ref_lay : ∀ (s : List UInt8) (k : Nat) (p : Page), refS 0 (brksS k s) p = layS k s p
  | [], 0, p => rfl
  | [], k + 1, p => rfl
  | x :: r, k + 1, p => ref_lay r k p
  | x :: r, 0, p => by
    cases hb : brk (x :: r) with
    | zero =>
      have h13 : (x == 13) = false := by
        have := head_brks (x :: r)
        rw [show brksS 0 (x :: r) = (match brk (x :: r) with | 0 => x :: brksS 0 r | k + 1 => 13 :: 10 :: brksS k r) from rfl, hb] at this
        exact this
      rw [show brksS 0 (x :: r) = (match brk (x :: r) with | 0 => x :: brksS 0 r | k + 1 => 13 :: 10 :: brksS k r) from rfl, hb,
        show layS 0 (x :: r) p = (match brk (x :: r) with | 0 => layS 0 r (pPut p (unitL x (decide (0 < brk r)))) | k + 1 => layS k r (pEnd p false)) from rfl, hb]
      show (bif x == 13 then refS 1 (brksS 0 r) (pEnd p false) else refS 0 (brksS 0 r) (pPut p (unitL x ((brksS 0 r).headD 0 == 13)))) = _
      rw [h13, cond_false, head_brks, ref_lay r 0]
    | succ k =>
      rw [show brksS 0 (x :: r) = (match brk (x :: r) with | 0 => x :: brksS 0 r | k + 1 => 13 :: 10 :: brksS k r) from rfl, hb,
        show layS 0 (x :: r) p = (match brk (x :: r) with | 0 => layS 0 r (pPut p (unitL x (decide (0 < brk r)))) | k + 1 => layS k r (pEnd p false)) from rfl, hb]
      exact ref_lay r k (pEnd p false)
theorem refS_skip : ∀ (k : Nat) (l : List UInt8) (p : Page), refS k l p = refS 0 (l.drop k) p
  | 0, l, p => rfl
  | k + 1, [], p => rfl
  | k + 1, x :: r, p => by rw [show refS (k + 1) (x :: r) p = refS k r p from rfl, refS_skip k r p]; rfl
theorem reflay_loop (k0 : List UInt8 → Int → Option AV) (b : List UInt8) (hl : b.length ≤ 2097152) : ∀ (d i n : Nat) (p : Page), b.length ≤ i + d → i ≤ 2097160 → d < n → okP p (6 * i) →
    z19_l5 k0 n b p.1 p.2.1 (i : Nat) = k0 (refS 0 (b.drop i) p).1 (refS 0 (b.drop i) p).2.1
  | d, i, 0, p, hi, hi2, hn, _ => by omega
  | 0, i, n + 1, p, hi, hi2, hn, hp => by
    show z19_l5_b _ _ n _ _ _ _ = _
    unfold z19_l5_b
    rw [dF (by omega), cond_false, List.drop_eq_nil_of_le (by omega)]
    rfl
  | d + 1, i, n + 1, p, hi, hi2, hn, hp => by
    show z19_l5_b _ _ n _ _ _ _ = _
    unfold z19_l5_b
    by_cases hlt : i < b.length
    · have hr : room = 1073741824 := rfl
      have hpl := hp.1
      rw [dT (show (i : Int) < ((b.length : Nat) : Int) by omega), i64_succ (by omega), i64_succ (i := i + 1) (by omega), tn, tn, getD_drop (d := (0 : UInt8)) hlt]
      rw [show refS 0 (b.getD i 0 :: b.drop (i + 1)) p = bif b.getD i 0 == 13 then refS 1 (b.drop (i + 1)) (pEnd p false) else refS 0 (b.drop (i + 1)) (pPut p (unitL (b.getD i 0) ((b.drop (i + 1)).headD 0 == 13))) from rfl]
      rw [show decide (((i + 1 : Nat) : Int) < ((b.length : Nat) : Int)) = decide (i + 1 < b.length) by congr 1; apply propext; omega]
      have hpe := pEnd_ok hp true
      cases h13 : (b.getD i 0 == 13) with
      | true =>
        have ih := reflay_loop k0 b hl d (i + 2) n (pEnd p false) (by omega) (by omega) (by omega) (by have := pEnd_ok hp false; unfold okP at this ⊢; omega)
        rw [refS_skip, List.drop_drop]
        simp (disch := (first | omega | (rw [hr]; simp; omega))) only [dT, cond_true, Bool.and_true]
        exact ih
      | false =>
        have hu := fun e => unit_len (b.getD i 0) e
        have ih := fun e => reflay_loop k0 b hl d (i + 1) n (pPut p (unitL (b.getD i 0) e)) (by omega) (by omega) (by omega) (by have := pPut_ok hp (hu e).1; unfold okP at this ⊢; omega)
        have hput : ∀ e, (bif decide ((75 : Int) < IntKind.wrap .i64 (p.2.1 + (((z23 (b.getD i 0) e).length : Nat) : Int))) then
            bif decide (p.1.length + ([61, 13, 10] : List UInt8).length ≤ room) then
              bif decide ((p.1 ++ ([61, 13, 10] : List UInt8)).length + (z23 (b.getD i 0) e).length ≤ room) then
                z19_l5 k0 n b ((p.1 ++ ([61, 13, 10] : List UInt8)) ++ z23 (b.getD i 0) e) (IntKind.wrap .i64 (0 + (((z23 (b.getD i 0) e).length : Nat) : Int))) ((i + 1 : Nat) : Int) else none else none
            else bif decide (p.1.length + (z23 (b.getD i 0) e).length ≤ room) then
              z19_l5 k0 n b (p.1 ++ z23 (b.getD i 0) e) (IntKind.wrap .i64 (p.2.1 + (((z23 (b.getD i 0) e).length : Nat) : Int))) ((i + 1 : Nat) : Int) else none) =
            k0 (refS 0 (b.drop (i + 1)) (pPut p (unitL (b.getD i 0) e))).1 (refS 0 (b.drop (i + 1)) (pPut p (unitL (b.getD i 0) e))).2.1 := fun e => by
          rw [← ih e, show z23 (b.getD i 0) e = unitL (b.getD i 0) e from rfl]
          have hu1 := (hu e).1
          have hp2 := hp.2
          rw [show IntKind.wrap .i64 (p.2.1 + (((unitL (b.getD i 0) e).length : Nat) : Int)) = p.2.1 + (((unitL (b.getD i 0) e).length : Nat) : Int) from IntWalk.i64_in _ (by omega),
            show IntKind.wrap .i64 ((0 : Int) + (((unitL (b.getD i 0) e).length : Nat) : Int)) = 0 + (((unitL (b.getD i 0) e).length : Nat) : Int) from IntWalk.i64_in _ (by omega)]
          generalize unitL (b.getD i 0) e = u at hu1 ⊢
          unfold pPut
          by_cases h75 : 75 < p.2.1 + ((u.length : Nat) : Int)
          · rw [dT h75, dT (by rw [hr]; simp; omega), dT (by rw [hr]; simp; omega)]; rfl
          · rw [dF h75, cond_false, dT (show p.1.length + u.length ≤ room by rw [hr]; omega)]; rfl
        by_cases h2 : i + 1 < b.length
        · rw [dT h2, dT (show (0 : Int) ≤ (i : Int) by omega), dT (show (0 : Int) ≤ ((i + 1 : Nat) : Int) by omega), getD_drop (d := (0 : UInt8)) h2]
          have hq := hput (b.getD (i + 1) 0 == 13)
          rw [getD_drop (d := (0 : UInt8)) h2] at hq
          exact hq
        · rw [dF h2, dT (show (0 : Int) ≤ (i : Int) by omega), List.drop_eq_nil_of_le (show b.length ≤ i + 1 by omega)]
          have hq := hput false
          rw [List.drop_eq_nil_of_le (show b.length ≤ i + 1 by omega)] at hq
          exact hq
    · rw [dF (by omega), cond_false, List.drop_eq_nil_of_le (by omega)]
      rfl
theorem brks_len : ∀ (s : List UInt8) (k : Nat), (brksS k s).length ≤ 2 * s.length
  | [], 0 => by simp [brksS]
  | [], k + 1 => by simp [brksS]
  | x :: r, k + 1 => by have := brks_len r k; simp only [brksS, List.length_cons]; omega
  | x :: r, 0 => by
    rw [show brksS 0 (x :: r) = (match brk (x :: r) with | 0 => x :: brksS 0 r | k + 1 => 13 :: 10 :: brksS k r) from rfl]
    cases hb : brk (x :: r) with
    | zero => have := brks_len r 0; simp only [List.length_cons]; omega
    | succ k => have := brks_len r k; simp only [List.length_cons]; omega
theorem z19_math : ∀ (s0 : List UInt8), (z19_ok s0 = true) → ∃ n, z19_sh n s0 = z19_ret (z19 s0) := fun s h => ⟨2 * s.length + 1, by
  have hl := lenOk_le (l := s) h
  have hb := brks_len s 0
  have hp := lay_okP s hl
  have hr : room = 1073741824 := rfl
  unfold z19_sh z19 z16 z21
  rw [show z21_ok s = true from h, Bool.true_and, cond_true]
  refine (reflay_loop (z19_k5_0 (2 * s.length + 1)) (brksS 0 s) (by omega) (2 * s.length) 0 (2 * s.length + 1) ([], (0, ())) (by omega) (by omega) (by omega) (by unfold okP; simp)).trans ?_
  rw [List.drop_zero, ref_lay]
  unfold z19_k5_0 pDone
  generalize layS 0 s ([], (0, ())) = p at hp ⊢
  have := hp.1
  rw [dT (show p.1.length + ([61, 13, 10] : List UInt8).length ≤ room by rw [hr]; simp; omega)]
  cases decide ((0 : Int) < p.2.1) <;> rfl⟩
theorem getD_drop_add (l : List UInt8) (i j : Nat) : (l.drop i).getD j 0 = l.getD (i + j) 0 := by
  simp [List.getD, List.getElem?_drop]
theorem take_drop {l : List UInt8} {i : Nat} (hi : i < l.length) : z50 l (i : Int) 61 = z50 (l.drop i) 0 61 := by
  unfold z50
  have e : (decide ((0 : Int) ≤ (i : Int)) && decide ((i : Int) ≤ ((l.length : Nat) : Int) - 3)) = (decide ((0 : Int) ≤ 0) && decide ((0 : Int) ≤ (((l.drop i).length : Nat) : Int) - 3)) := by
    rw [List.length_drop, Bool.eq_iff_iff]
    simp only [Bool.and_eq_true, decide_eq_true_eq]
    omega
  rw [e]
  unfold takeAt
  rw [tn, show Int.toNat 0 = 0 from rfl, getD_drop_add, getD_drop_add, getD_drop_add]
  rfl
theorem take_room {l : List UInt8} {i : Int} {c : UInt8} (h : (z50 l i c).2 = true) : 0 ≤ i ∧ i + 3 ≤ ((l.length : Nat) : Int) := by
  unfold z50 at h
  cases hc : (decide (0 ≤ i) && decide (i ≤ ((l.length : Nat) : Int) - 3)) with
  | false => rw [hc] at h; cases h
  | true =>
    simp only [Bool.and_eq_true, decide_eq_true_eq] at hc
    omega
theorem lastBlank_at {l : List UInt8} (h : 0 < l.length) : lastBlank l = z41 (l.getD (l.length - 1) 0) 2 := by
  unfold lastBlank
  rw [List.getLast?_eq_getElem?]
  have : l[l.length - 1]? = some (l.getD (l.length - 1) 0) := by
    simp [List.getD, List.getElem?_eq_getElem (show l.length - 1 < l.length by omega)]
  rw [this]
theorem rightS_step (x : UInt8) (r : List UInt8) : rightS (x :: r) = ((z41 x 6) && ((bif (x == 61) && !(r.isEmpty) then (z50 (x :: r) 0 61).2 && z51 (r.take 2) else true) && rightS r)) := rfl
theorem right_loop (ret : Bool → Option AV) (k0 : List UInt8 → Option AV) (l : List UInt8) (hl : l.length ≤ 1048576) : ∀ (d i n : Nat), i + d = l.length → d < n →
    z34_l2 ret k0 n l l ((l.length : Nat) : Int) (i : Nat) = bif rightS (l.drop i) then k0 l else ret false
  | d, i, 0, hi, hn => by omega
  | 0, i, n + 1, hi, hn => by
    show z34_l2_b _ _ _ n _ _ _ _ = _
    unfold z34_l2_b
    rw [dF (by omega), cond_false, List.drop_eq_nil_of_le (by omega)]
    rfl
  | d + 1, i, n + 1, hi, hn => by
    have hlt : i < l.length := by omega
    have ih := right_loop ret k0 l hl d (i + 1) n (by omega) (by omega)
    show z34_l2_b _ _ _ n _ _ _ _ = _
    unfold z34_l2_b
    rw [take_drop hlt, tn, i64_succ (by omega), ih, getD_drop (d := (0 : UInt8)) hlt, rightS_step, show z50_ok l (i : Int) 61 = true from lenOk_of hl,
      show IntKind.wrap .i64 ((i : Int) + 3) = ((i + 3 : Nat) : Int) by rw [IntWalk.i64_in _ (by omega)]; omega, show IntKind.wrap .i64 (((l.length : Nat) : Int) - 1) = ((l.length - 1 : Nat) : Int) by rw [IntWalk.i64_in _ (by omega)]; omega, tn, tn,
      show List.drop (i + 1) (List.take (i + 3) l) = (l.drop (i + 1)).take 2 by rw [List.drop_take, show i + 3 - (i + 1) = 2 by omega],
      show z51_ok ((l.drop (i + 1)).take 2) = true from lenOk_of (by rw [List.length_take]; omega)]
    simp (disch := omega) only [dT, cond_true, Bool.and_true]
    have hem : ((i : Int) == ((l.length - 1 : Nat) : Int)) = (l.drop (i + 1)).isEmpty := by
      rw [Bool.eq_iff_iff, beq_iff_eq, List.isEmpty_iff, List.drop_eq_nil_iff]
      omega
    rw [hem]
    cases z41 (l.getD i 0) 6 with
    | false => rfl
    | true =>
      by_cases h61 : l.getD i 0 = 61
      · rw [h61]
        cases hE : (l.drop (i + 1)).isEmpty with
        | true => rfl
        | false =>
          cases hT : (z50 (61 :: l.drop (i + 1)) 0 61).2 with
          | false => rfl
          | true =>
            have hr := take_room hT
            rw [List.length_cons, List.length_drop] at hr
            rw [dT (show ((i + 3 : Nat) : Int) ≤ ((l.length : Nat) : Int) by omega)]
            cases z51 ((l.drop (i + 1)).take 2) <;> rfl
      · have e1 : (l.getD i 0 == 61) = false := by simpa using h61
        have e2 : (l.getD i 0 != 61) = true := by simpa [bne] using h61
        rw [e1, e2]; rfl
theorem z34_math : ∀ (l0 : List UInt8), (z34_ok l0 = true) → ∃ n, z34_sh n l0 = z34_ret (z34 l0) := fun l h => ⟨l.length + 1, by
  have hl := lenOk_le (l := l) h
  unfold z34_sh z34
  refine (right_loop z34_ret (z34_k2_0 (l.length + 1)) l hl l.length 0 (l.length + 1) (by omega) (by omega)).trans ?_
  rw [List.drop_zero]
  cases rightS l with
  | false => rfl
  | true =>
    show z34_k2_0 (l.length + 1) l = _
    unfold z34_k2_0
    by_cases h0 : l.length = 0
    · have : l = [] := List.eq_nil_of_length_eq_zero h0
      subst this; rfl
    · rw [show (((l.length : Nat) : Int) == 0) = false by rw [beq_eq_false_iff_ne]; omega, show IntKind.wrap .i64 (((l.length : Nat) : Int) - 1) = ((l.length - 1 : Nat) : Int) by rw [IntWalk.i64_in _ (by omega)]; omega,
        dT (by omega), dT (show ((l.length - 1 : Nat) : Int) < ((l.length : Nat) : Int) by omega), tn, lastBlank_at (by omega)]
      rfl⟩
theorem cap2 (a b : UInt8) : z51 [a, b] = (!(([97, 98, 99, 100, 101, 102] : List UInt8).contains a) && !(([97, 98, 99, 100, 101, 102] : List UInt8).contains b)) := by
  unfold z51 z71 z63
  rw [show anyAt [97, 98, 99, 100, 101, 102] [a, b] 0 = bif ([97, 98, 99, 100, 101, 102] : List UInt8).contains a then 0 else bif ([97, 98, 99, 100, 101, 102] : List UInt8).contains b then 1 else -1 from rfl]
  cases ([97, 98, 99, 100, 101, 102] : List UInt8).contains a <;> cases ([97, 98, 99, 100, 101, 102] : List UInt8).contains b <;> rfl
theorem linesEnd_nil : ∀ l : List (List UInt8), (linesEnd l).1 = [] → (linesEnd l).2 = true
  | [], _ => rfl
  | [x], h => by
    unfold linesEnd at h ⊢
    split at h
    · rename_i e; rw [if_pos e]
    · cases h
  | x :: y :: r, h => by cases h
theorem lines_step (s : List UInt8) : s ≠ [] → (z33 s [13, 10] = (s, [], false) ∧ z35 s = ([s], false)) ∨
    (∃ k : Nat, k + 2 ≤ s.length ∧ z33 s [13, 10] = (s.take k, s.drop (k + 2), true) ∧ z35 s = (s.take k :: (z35 (s.drop (k + 2))).1, (z35 (s.drop (k + 2))).2)) := fun hs => by
  unfold z35
  rcases cut_crlf s with ⟨h1, h2, _⟩ | ⟨k, h1, h2, h3, _⟩
  · left
    refine ⟨h1, ?_⟩
    rw [h2]
    unfold linesEnd
    rw [if_neg hs]
  · right
    refine ⟨k, h1, h2, ?_⟩
    rw [h3]
    have := splitS_ne (s.drop (k + 2)) []
    cases hl : splitS [] (s.drop (k + 2)) with
    | nil => exact absurd hl this
    | cons a b => rfl
theorem checkL_cons (x : List UInt8) (L : List (List UInt8)) (e : Bool) (h : L = [] → e = true) : checkL (x :: L) e = bif decide (76 < x.length) then 12 else bif z34 x then checkL L e else 3 := by
  cases L with
  | nil => rw [h rfl]; rfl
  | cons y r => rfl
theorem check_loop (ret : Int → Option AV) (k0 : Option AV) (hk : k0 = ret 0) : ∀ (f : Nat) (s : List UInt8) (n : Nat), s.length < f → f ≤ n → s.length ≤ 1048576 →
    z12_l1 ret k0 n s = ret (checkL (z35 s).1 (z35 s).2)
  | 0, s, n, h, _, _ => by omega
  | f + 1, s, 0, h, hn, _ => by omega
  | f + 1, s, n + 1, h, hn, hl => by
    show z12_l1_b _ _ _ n _ = _
    unfold z12_l1_b
    by_cases hs : s = []
    · subst hs; rw [hk]; rfl
    · have hp : 0 < s.length := List.length_pos_iff.2 hs
      rw [dT (by omega), cond_true, show z33_ok s [13, 10] = true by unfold z33_ok; rw [lenOk_of hl]; rfl, Bool.true_and, cond_true]
      rcases lines_step s hs with ⟨h1, h2⟩ | ⟨k, h1, h2, h3⟩
      · rw [h1, h2]
        show (bif decide ((76 : Int) < ((s.length : Nat) : Int)) then ret 12 else ret 4) = ret (bif decide (76 < s.length) then 12 else 4)
        rw [show decide ((76 : Int) < ((s.length : Nat) : Int)) = decide (76 < s.length) by congr 1; apply propext; omega]
        cases decide (76 < s.length) <;> rfl
      · rw [h2, h3]
        have hcc := checkL_cons (s.take k) (z35 (s.drop (k + 2))).1 (z35 (s.drop (k + 2))).2 (linesEnd_nil _)
        have ih := check_loop ret k0 hk f (s.drop (k + 2)) n (by rw [List.length_drop]; omega) (by omega) (by rw [List.length_drop]; omega)
        show (bif decide ((76 : Int) < (((s.take k).length : Nat) : Int)) then ret 12 else bif z34_ok (s.take k) && true then (bif !(z34 (s.take k)) then ret 3 else z12_l1 ret k0 n (s.drop (k + 2))) else none) = ret (checkL (s.take k :: (z35 (s.drop (k + 2))).1) (z35 (s.drop (k + 2))).2)
        rw [hcc, ih, show decide ((76 : Int) < (((s.take k).length : Nat) : Int)) = decide (76 < (s.take k).length) by congr 1; apply propext; omega, show z34_ok (s.take k) = true from lenOk_of (by rw [List.length_take]; omega)]
        cases decide (76 < (s.take k).length) <;> cases z34 (s.take k) <;> rfl
theorem z12_math : ∀ (s0 : List UInt8), (z12_ok s0 = true) → ∃ n, z12_sh n s0 = z12_ret (z12 s0) := fun s h => ⟨s.length + 1, by
  unfold z12_sh z12
  exact check_loop z12_ret (z12_k1_0 (s.length + 1)) rfl (s.length + 1) s (s.length + 1) (by omega) (by omega) (lenOk_le (l := s) h)⟩
theorem like_self (s : List UInt8) : z18 s s = true := by unfold z18; exact dT rfl
def softB : List UInt8 := [61, 13, 10]
def occ : List UInt8 → Nat
  | [] => 0
  | x :: r => (bif softB.isPrefixOf (x :: r) then 1 else 0) + occ r
theorem brk_zero {x : UInt8} {r : List UInt8} (h : brk (x :: r) = 0) : x ≠ 13 ∧ x ≠ 10 := by
  constructor
  · rintro rfl
    cases r with
    | nil => exact absurd h (by decide)
    | cons y r => have h' : (bif y == 10 then 2 else 1 : Nat) = 0 := h; revert h'; cases (y == 10) <;> decide
  · rintro rfl
    exact absurd (show (1 : Nat) = 0 from h) (by decide)
theorem brk_zero_of {x : UInt8} (r : List UInt8) (h : x ≠ 13 ∧ x ≠ 10) : brk (x :: r) = 0 := by
  show (bif x == 13 then _ else bif x == 10 then 1 else 0) = 0
  rw [show (x == 13) = false by simpa using h.1, show (x == 10) = false by simpa using h.2]
  rfl
theorem brks_zero {x : UInt8} {r : List UInt8} (h : brk (x :: r) = 0) : brksS 0 (x :: r) = x :: brksS 0 r := by
  rw [show brksS 0 (x :: r) = (match brk (x :: r) with | 0 => x :: brksS 0 r | k + 1 => 13 :: 10 :: brksS k r) from rfl, h]
theorem brks_succ {x : UInt8} {r : List UInt8} {k : Nat} (h : brk (x :: r) = k + 1) : brksS 0 (x :: r) = 13 :: 10 :: brksS k r := by
  rw [show brksS 0 (x :: r) = (match brk (x :: r) with | 0 => x :: brksS 0 r | k + 1 => 13 :: 10 :: brksS k r) from rfl, h]
theorem brks_brks : ∀ (s : List UInt8) (k : Nat), brksS 0 (brksS k s) = brksS k s
  | [], 0 => rfl
  | [], k + 1 => rfl
  | x :: r, k + 1 => brks_brks r k
  | x :: r, 0 => by
    cases hb : brk (x :: r) with
    | zero => rw [brks_zero hb, brks_zero (brk_zero_of _ (brk_zero hb)), brks_brks r 0]
    | succ k =>
      rw [brks_succ hb, brks_succ (k := 1) (show brk (13 :: 10 :: brksS k r) = 1 + 1 from rfl)]
      show 13 :: 10 :: brksS 0 (brksS k r) = _
      rw [brks_brks r k]
theorem lay_brks (s : List UInt8) (p : Page) : layS 0 (brksS 0 s) p = layS 0 s p := by
  rw [← ref_lay (brksS 0 s) 0 p, brks_brks, ref_lay]
theorem qlay_brks (s : List UInt8) : z16 (brksS 0 s) = z16 s := by unfold z16; rw [lay_brks]
def endsOk (a : List UInt8) : Bool := match a.getLast? with | none => true | some c => (c != 61) && (c != 13)
theorem unit_small : ∀ i : Fin 256, ∀ e : Bool, (occ (unitL (UInt8.ofNat i.val) e) = 0 ∧ (unitL (UInt8.ofNat i.val) e).count 10 = 0) ∧ endsOk (unitL (UInt8.ofNat i.val) e) = true := by decide +kernel
theorem unit_facts (c : UInt8) (e : Bool) : (occ (unitL c e) = 0 ∧ (unitL c e).count 10 = 0) ∧ endsOk (unitL c e) = true := of_fin (P := fun c => ∀ e : Bool, (occ (unitL c e) = 0 ∧ (unitL c e).count 10 = 0) ∧ endsOk (unitL c e) = true) unit_small c e
theorem endsOk_app (a : List UInt8) {b : List UInt8} (hb : b ≠ []) (h : endsOk b = true) : endsOk (a ++ b) = true := by
  unfold endsOk at h ⊢
  have e : (a ++ b).getLast? = b.getLast? := by
    rw [List.getLast?_append]
    cases hl : b.getLast? with
    | none => exact absurd (List.getLast?_eq_none_iff.1 hl) hb
    | some c => rfl
  rw [e]
  exact h
theorem last_tail {x : UInt8} {r : List UInt8} (h : (x :: r).getLast? ≠ some 13) : r.getLast? ≠ some 13 := by
  cases r with
  | nil => simp
  | cons y r => rwa [List.getLast?_cons_cons] at h
theorem split_app : ∀ (a c : List UInt8) (Ls : List (List UInt8)) (cur b : List UInt8), splitS c a = Ls ++ [cur] → a.getLast? ≠ some 13 → splitS c (a ++ b) = Ls ++ splitS cur b
  | [], c, Ls, cur, b, h, _ => by
    rw [splitS_nil] at h
    cases Ls with
    | nil => simp only [List.nil_append, List.cons.injEq, and_true] at h; rw [h]; rfl
    | cons y Ls => simp at h
  | [x], c, Ls, cur, b, h, hl => by
    have hx : x ≠ 13 := fun e => hl (by rw [e]; rfl)
    rw [splitS_step, if_neg (fun hh => hx hh.1)] at h
    show splitS c (x :: b) = _
    rw [splitS_step, if_neg (fun hh => hx hh.1)]
    exact split_app [] (c ++ [x]) Ls cur b h (by simp)
  | x :: y :: r, c, Ls, cur, b, h, hl => by
    have hl' := last_tail hl
    rw [splitS_step] at h
    show splitS c (x :: (y :: r ++ b)) = _
    rw [splitS_step]
    by_cases hc : x = 13 ∧ (y :: r).head? = some 10
    · rw [if_pos hc] at h
      rw [if_pos (show x = 13 ∧ (y :: r ++ b).head? = some 10 from hc)]
      have hne := splitS_ne r []
      cases Ls with
      | nil =>
        have h' : c :: splitS [] r = [cur] := h
        simp only [List.cons.injEq] at h'
        exact absurd h'.2 hne
      | cons z Ls =>
        have h' : c :: splitS [] r = z :: (Ls ++ [cur]) := h
        simp only [List.cons.injEq] at h'
        show c :: splitS [] (r ++ b) = z :: (Ls ++ splitS cur b)
        rw [split_app r [] Ls cur b h'.2 (last_tail hl'), h'.1]
    · rw [if_neg hc] at h
      rw [if_neg (show ¬ (x = 13 ∧ (y :: r ++ b).head? = some 10) from hc)]
      exact split_app (y :: r) (c ++ [x]) Ls cur b h hl'
theorem split_plain : ∀ (u c : List UInt8), (∀ x ∈ u, x ≠ 13) → splitS c u = [c ++ u]
  | [], c, _ => by rw [splitS_nil, List.append_nil]
  | x :: r, c, h => by
    rw [splitS_step, if_neg (fun hh => h x (by simp) hh.1), split_plain r (c ++ [x]) (fun y hy => h y (by simp [hy])), List.append_assoc]
    rfl
theorem split_crlf (c : List UInt8) : splitS c [13, 10] = [c, []] := by
  rw [splitS_step, if_pos ⟨rfl, rfl⟩]; rfl
theorem split_soft (c : List UInt8) : splitS c [61, 13, 10] = [c ++ [61], []] := by
  rw [splitS_step, if_neg (fun h => absurd h.1 (by decide)), split_crlf]
theorem both_facts : ∀ i : Fin 256, (z70 (List.getD hexD ((UInt8.ofNat i.val).toNat / 16) 0) (List.getD hexD ((UInt8.ofNat i.val).toNat % 16) 0)).2 = true ∧ z51 (z56 (UInt8.ofNat i.val)) = true ∧
    (z41 (List.getD hexD ((UInt8.ofNat i.val).toNat / 16) 0) 6 = true ∧ z41 (List.getD hexD ((UInt8.ofNat i.val).toNat % 16) 0) 6 = true) ∧ (List.getD hexD ((UInt8.ofNat i.val).toNat / 16) 0 == 61) = false ∧ (List.getD hexD ((UInt8.ofNat i.val).toNat % 16) 0 == 61) = false := by decide +kernel
theorem both_of (c : UInt8) : (z70 (List.getD hexD (c.toNat / 16) 0) (List.getD hexD (c.toNat % 16) 0)).2 = true ∧ z51 (z56 c) = true ∧
    (z41 (List.getD hexD (c.toNat / 16) 0) 6 = true ∧ z41 (List.getD hexD (c.toNat % 16) 0) 6 = true) ∧ (List.getD hexD (c.toNat / 16) 0 == 61) = false ∧ (List.getD hexD (c.toNat % 16) 0 == 61) = false :=
  of_fin (P := fun c => (z70 (List.getD hexD (c.toNat / 16) 0) (List.getD hexD (c.toNat % 16) 0)).2 = true ∧ z51 (z56 c) = true ∧
    (z41 (List.getD hexD (c.toNat / 16) 0) 6 = true ∧ z41 (List.getD hexD (c.toNat % 16) 0) 6 = true) ∧ (List.getD hexD (c.toNat / 16) 0 == 61) = false ∧ (List.getD hexD (c.toNat % 16) 0 == 61) = false) both_facts c
theorem right_one {x : UInt8} (h6 : z41 x 6 = true) (h61 : (x == 61) = false) (b : List UInt8) : rightS (x :: b) = rightS b := by
  rw [rightS_step, h6, h61]; rfl
theorem plain_facts : ∀ i : Fin 256, ∀ e : Bool, (((UInt8.ofNat i.val != 61) && z41 (UInt8.ofNat i.val) 4) || (!e && z41 (UInt8.ofNat i.val) 2)) = true → z41 (UInt8.ofNat i.val) 6 = true ∧ (UInt8.ofNat i.val == 61) = false := by decide +kernel
theorem right_unit (c : UInt8) (e : Bool) (b : List UInt8) : rightS (unitL c e ++ b) = rightS b := by
  unfold unitL
  cases hc : (((c != 61) && z41 c 4) || (!e && z41 c 2)) with
  | true =>
    obtain ⟨h1, h2⟩ := of_fin (P := fun c => ∀ e : Bool, (((c != 61) && z41 c 4) || (!e && z41 c 2)) = true → z41 c 6 = true ∧ (c == 61) = false) plain_facts c e hc
    exact right_one h1 h2 b
  | false =>
    obtain ⟨h1, h2, ⟨h3, h4⟩, h5, h6⟩ := both_of c
    show rightS (61 :: (List.getD hexD (c.toNat / 16) 0 :: List.getD hexD (c.toNat % 16) 0 :: b)) = _
    rw [rightS_step, right_one h3 h5, right_one h4 h6]
    have hT : z50 (61 :: (List.getD hexD (c.toNat / 16) 0 :: List.getD hexD (c.toNat % 16) 0 :: b)) 0 61 = z70 (List.getD hexD (c.toNat / 16) 0) (List.getD hexD (c.toNat % 16) 0) := by
      unfold z50
      rw [dT (show (0 : Int) ≤ 0 by omega), dT (by simp only [List.length_cons]; omega)]
      rfl
    rw [hT, h1, show (List.getD hexD (c.toNat / 16) 0 :: List.getD hexD (c.toNat % 16) 0 :: b).take 2 = z56 c from rfl, h2]
    rfl
theorem blank_small : ∀ i : Fin 256, lastBlank (unitL (UInt8.ofNat i.val) true) = false ∧ (∀ e : Bool, ∀ x ∈ unitL (UInt8.ofNat i.val) e, x ≠ 13) := by decide +kernel
theorem blank_of (c : UInt8) : lastBlank (unitL c true) = false ∧ (∀ e : Bool, ∀ x ∈ unitL c e, x ≠ 13) := of_fin (P := fun c => lastBlank (unitL c true) = false ∧ (∀ e : Bool, ∀ x ∈ unitL c e, x ≠ 13)) blank_small c
theorem lastBlank_app (a : List UInt8) {b : List UInt8} (hb : b ≠ []) : lastBlank (a ++ b) = lastBlank b := by
  unfold lastBlank
  rw [List.getLast?_append]
  cases hl : b.getLast? with
  | none => exact absurd (List.getLast?_eq_none_iff.1 hl) hb
  | some c => rfl
theorem endsOk_13 {a : List UInt8} (h : endsOk a = true) : a.getLast? ≠ some 13 := fun e => by
  unfold endsOk at h; rw [e] at h; exact absurd h (by decide)
def Inv18 (p : Page) (b : Bool) : Prop := ∃ Ls cur, splitS [] p.1 = Ls ++ [cur] ∧ (∀ x ∈ Ls, x.length ≤ 76 ∧ z34 x = true) ∧ (cur.length : Int) = p.2.1 ∧ p.2.1 ≤ 75 ∧ (∀ t, rightS (cur ++ t) = rightS t) ∧ endsOk p.1 = true ∧ (b = true → lastBlank cur = false)
theorem inv_end {p : Page} {b soft : Bool} (h : Inv18 p b) (hb : soft = true ∨ b = true) : Inv18 (pEnd p soft) true := by
  obtain ⟨Ls, cur, h1, h2, h3, h4, h5, h6, h7⟩ := h
  have hr : ∀ t, rightS (([] : List UInt8) ++ t) = rightS t := fun _ => rfl
  cases soft with
  | true =>
    refine ⟨Ls ++ [cur ++ [61]], [], ?_, ?_, rfl, by show (0 : Int) ≤ 75; omega, hr, endsOk_app _ (by simp) (by decide), fun _ => rfl⟩
    · show splitS [] (p.1 ++ [61, 13, 10]) = _
      rw [split_app p.1 [] Ls cur _ h1 (endsOk_13 h6), split_soft, List.append_assoc]; rfl
    · intro x hx
      rw [List.mem_append, List.mem_singleton] at hx
      rcases hx with hx | rfl
      · exact h2 x hx
      · refine ⟨by rw [List.length_append, List.length_singleton]; omega, ?_⟩
        unfold z34
        rw [h5, lastBlank_app cur (by simp)]
        decide
  | false =>
    have hb' : b = true := hb.resolve_left (by decide)
    refine ⟨Ls ++ [cur], [], ?_, ?_, rfl, by show (0 : Int) ≤ 75; omega, hr, endsOk_app _ (by simp) (by decide), fun _ => rfl⟩
    · show splitS [] (p.1 ++ [13, 10]) = _
      rw [split_app p.1 [] Ls cur _ h1 (endsOk_13 h6), split_crlf, List.append_assoc]; rfl
    · intro x hx
      rw [List.mem_append, List.mem_singleton] at hx
      rcases hx with hx | rfl
      · exact h2 x hx
      · refine ⟨by omega, ?_⟩
        unfold z34
        have := h5 []
        rw [List.append_nil] at this
        rw [this, h7 hb']
        rfl
theorem inv_put {p : Page} {b : Bool} (h : Inv18 p b) (c : UInt8) (e : Bool) : Inv18 (pPut p (unitL c e)) e := by
  have key : ∀ (q : Page) (b : Bool), Inv18 q b → q.2.1 + ((unitL c e).length : Nat) ≤ 75 → Inv18 (q.1 ++ unitL c e, (q.2.1 + ((unitL c e).length : Nat), ())) e := fun q b ⟨Ls, cur, h1, h2, h3, h4, h5, h6, _⟩ hle => by
    have hne : unitL c e ≠ [] := by have := (unit_len c e).2; intro hh; rw [hh] at this; cases this
    refine ⟨Ls, cur ++ unitL c e, ?_, h2, ?_, hle, fun t => ?_, endsOk_app _ hne (unit_facts c e).2, fun he => ?_⟩
    · show splitS [] (q.1 ++ unitL c e) = _
      rw [split_app q.1 [] Ls cur _ h1 (endsOk_13 h6), split_plain _ _ ((blank_of c).2 e)]
    · show (((cur ++ unitL c e).length : Nat) : Int) = q.2.1 + _
      rw [List.length_append]; omega
    · rw [List.append_assoc, h5, right_unit]
    · subst he
      rw [lastBlank_app cur hne]; exact (blank_of c).1
  unfold pPut
  by_cases h75 : 75 < p.2.1 + (((unitL c e).length : Nat) : Int)
  · rw [dT h75]
    have hu := (unit_len c e).1
    exact key (pEnd p true) true (inv_end h (.inl rfl)) (by show (0 : Int) + _ ≤ 75; omega)
  · rw [dF h75]
    exact key p b h (by omega)
theorem inv_weak {p : Page} {b : Bool} (h : Inv18 p true) : Inv18 p b := by
  obtain ⟨Ls, cur, h1, h2, h3, h4, h5, h6, h7⟩ := h
  exact ⟨Ls, cur, h1, h2, h3, h4, h5, h6, fun _ => h7 rfl⟩
theorem inv_lay : ∀ (s : List UInt8) (k : Nat) (p : Page), Inv18 p (decide (0 < brk (s.drop k))) → ∃ b, Inv18 (layS k s p) b
  | [], 0, p, h => ⟨_, h⟩
  | [], k + 1, p, h => ⟨_, h⟩
  | x :: r, k + 1, p, h => inv_lay r k p h
  | x :: r, 0, p, h => by
    have h' : Inv18 p (decide (0 < brk (x :: r))) := h
    cases hb : brk (x :: r) with
    | zero =>
      rw [show layS 0 (x :: r) p = (match brk (x :: r) with | 0 => layS 0 r (pPut p (unitL x (decide (0 < brk r)))) | k + 1 => layS k r (pEnd p false)) from rfl, hb]
      exact inv_lay r 0 _ (inv_put h' x _)
    | succ k =>
      rw [show layS 0 (x :: r) p = (match brk (x :: r) with | 0 => layS 0 r (pPut p (unitL x (decide (0 < brk r)))) | k + 1 => layS k r (pEnd p false)) from rfl, hb]
      rw [hb, dT (by omega)] at h'
      exact inv_lay r k _ (inv_weak (inv_end h' (.inr rfl)))
theorem check_all : ∀ l : List (List UInt8), (∀ x ∈ l, x.length ≤ 76 ∧ z34 x = true) → checkL l true = 0
  | [], _ => rfl
  | x :: l, h => by
    rw [checkL_cons x l true (fun _ => rfl), dF (by have := (h x (by simp)).1; omega), (h x (by simp)).2]
    exact check_all l fun y hy => h y (by simp [hy])
theorem check_done {q : Page} {b : Bool} (h : Inv18 q b) (h0 : q.2.1 = 0) : z12 q.1 = 0 := by
  obtain ⟨Ls, cur, h1, h2, h3, _⟩ := h
  have hc : cur = [] := List.eq_nil_of_length_eq_zero (by omega)
  subst hc
  unfold z12 z35
  rw [h1, linesEnd_last, if_pos rfl]
  exact check_all Ls h2
theorem inv_start : Inv18 ([], (0, ())) true := ⟨[], [], rfl, (fun x hx => by cases hx), rfl, by show (0 : Int) ≤ 75; omega, fun _ => rfl, rfl, fun _ => rfl⟩
theorem check_lay (s : List UInt8) : z12 (z16 s) = 0 := by
  obtain ⟨b, h⟩ := inv_lay s 0 ([], (0, ())) (inv_weak inv_start)
  unfold z16 pDone
  by_cases hp : 0 < (layS 0 s ([], (0, ()))).2.1
  · rw [dT hp]
    exact check_done (inv_end h (.inl rfl)) rfl
  · rw [dF hp]
    refine check_done h ?_
    obtain ⟨_, cur, _, _, h3, _⟩ := h
    omega
def okc (c : UInt8) : Bool := (c == 13) || (c == 10) || (c == 9) || (decide (32 ≤ c) && decide (c ≤ 126))
theorem z66_math : ∀ (a0 : List UInt8) (b1 : List UInt8), ∃ n, z66_sh n a0 b1 = z66_ret (z66 a0 b1) := fun _ _ => ⟨0, rfl⟩
theorem z77_math : ∀ (s0 : List UInt8) (c1 : UInt8), (z77_ok s0 c1 = true) → ∃ n, z77_sh n s0 c1 = z77_ret (z77 s0 c1) := fun _ _ h => by cases h
theorem trimR_loop (k0 : List UInt8 → Option AV) (as : List Bool) : ∀ (d : Nat) (s : List UInt8) (n : Nat), s.length = d → d < n → s.length ≤ 1048576 →
    z79_l1 k0 n s as = k0 (z79 s as)
  | d, s, 0, hd, hn, hl => by omega
  | d, s, n + 1, hd, hn, hl => by
    show z79_l1_b k0 (z79_l1 k0 n) n s as = _
    unfold z79_l1_b z79
    rcases List.eq_nil_or_concat s with rfl | ⟨t, x, rfl⟩
    · rfl
    · rw [List.concat_eq_append] at *
      have hlen : (t ++ [x]).length = t.length + 1 := by simp
      have ih := trimR_loop k0 as t.length t n rfl (by omega) (by omega)
      have hg : (t ++ [x]).getD (Int.toNat (((t ++ [x]).length : Int) - 1)) 0 = x := by
        rw [show Int.toNat (((t ++ [x]).length : Int) - 1) = t.length by omega]; simp
      have ht : List.take (Int.toNat (((t ++ [x]).length : Int) - 1)) (t ++ [x]) = t := by
        rw [show Int.toNat (((t ++ [x]).length : Int) - 1) = t.length by omega]; simp
      simp (disch := omega) only [wr, dT, cond_true, Bool.and_true, hg, ht, dropR_snoc]
      cases z85 as x with
      | true => simpa [z79] using ih
      | false => rfl
theorem z79_math : ∀ (s0 : List UInt8) (as1 : List Bool), (z79_ok s0 as1 = true) → ∃ n, z79_sh n s0 as1 = z79_ret (z79 s0 as1) := fun s as h => ⟨s.length + 1, by
  unfold z79_sh
  rw [trimR_loop _ as s.length s _ rfl (by omega) (lenOk_le h)]
  rfl⟩
end Go.Av
