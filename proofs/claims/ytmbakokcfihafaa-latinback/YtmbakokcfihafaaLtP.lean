/-
  The shallow readings of the layer 'latin' compute what LtM says.
-/
import Derived.Test.YtmbakokcfihafaaLtSh
import Derived.IntWalk
import Derived.KernelRfl
namespace Go.Av
theorem latin_Has_math : ∀ (c0 : Int), ∃ n, latin_Has_sh n c0 = latin_Has_ret (latin_Has c0) := fun _ => ⟨0, rfl⟩
theorem latin_Sign_math : ∀ (x0 : UInt8), ∃ n, latin_Sign_sh n x0 = latin_Sign_ret (latin_Sign x0) := fun _ => ⟨0, rfl⟩
theorem ref08_Sign_math : ∀ (x0 : UInt8), ∃ n, ref08_Sign_sh n x0 = ref08_Sign_ret (ref08_Sign x0) := fun _ => ⟨0, rfl⟩
theorem latin_Put_math : ∀ (c0 : Int), ∃ n, latin_Put_sh n c0 = latin_Put_ret (latin_Put c0).1 (latin_Put c0).2 := fun c => ⟨0, by
  unfold latin_Put_sh latin_Put
  cases latin_Has c <;> rfl⟩

theorem sign_of_nat (i : Int) (h0 : 0 ≤ i) (h1 : i < 256) : ref08_Sign (UInt8.ofNat (Int.toNat (IntKind.wrap .u8 i))) = i := by
  unfold ref08_Sign
  rw [IntWalk.u8_in i (by omega), UInt8.toNat_ofNat', Nat.mod_eq_of_lt (by omega), IntWalk.i32_in _ (by omega)]
  omega

theorem ref08_Put_loop (ret : UInt8 → Bool → Option AV) (k0 : Option AV) (c : Int) : ∀ (d : Nat) (i : Int) (n : Nat), i = 256 - d → 0 ≤ i → d < n →
    ref08_Put_l2 ret k0 n c i = bif decide (i ≤ c) && decide (c < 256) then ret (UInt8.ofNat c.toNat) true else k0
  | d, i, 0, hi, h0, hn => by omega
  | 0, i, n + 1, hi, h0, hn => by
    obtain rfl : i = 256 := by omega
    have h1 : (decide ((256 : Int) ≤ c) && decide (c < 256)) = false := by
      simp only [Bool.and_eq_false_iff, decide_eq_false_iff_not]; omega
    rw [h1]
    rfl
  | d + 1, i, n + 1, hi, h0, hn => by
    have hlt : i < 256 := by omega
    show ref08_Put_l2_b ret k0 (ref08_Put_l2 ret k0 n) n c i = _
    unfold ref08_Put_l2_b
    rw [decide_eq_true hlt, cond_true, sign_of_nat i h0 hlt, IntWalk.i64_in (i + 1) (by omega), ref08_Put_loop ret k0 c d (i + 1) n (by omega) (by omega) (by omega)]
    by_cases e : i = c
    · subst e
      have h1 : (i != 65533) = true := by simp only [bne_iff_ne, ne_eq]; omega
      rw [beq_self_eq_true, cond_true, h1, cond_true, decide_eq_true (Int.le_refl i), decide_eq_true hlt, IntWalk.u8_in i (by omega)]
      rfl
    · have h1 : (i == c) = false := by simp [e]
      have h2 : decide (i + 1 ≤ c) = decide (i ≤ c) := by simp only [decide_eq_decide]; omega
      rw [h1, cond_false, h2]

theorem ref08_Put_math : ∀ (c0 : Int), ∃ n, ref08_Put_sh n c0 = ref08_Put_ret (ref08_Put c0).1 (ref08_Put c0).2 := fun c => ⟨257, by
  unfold ref08_Put_sh ref08_Put
  rw [ref08_Put_loop _ _ c 256 0 257 (by omega) (by omega) (by omega)]
  cases decide (0 ≤ c) && decide (c < 256) <;> rfl⟩

theorem latin_Lacks_loop (ret : Int → Option AV) (k0 : Option AV) (t : List Int) (hl : t.length ≤ 1048576) : ∀ (d : Nat) (i : Nat) (n : Nat), i + d = t.length → d < n →
    latin_Lacks_l2 ret k0 n t (t.length : Nat) (i : Nat) = bif lackAt latin_Has (t.drop i) i == -1 then k0 else ret (lackAt latin_Has (t.drop i) i)
  | d, i, 0, hi, hn => by omega
  | 0, i, n + 1, hi, hn => by
    show latin_Lacks_l2_b ret k0 (latin_Lacks_l2 ret k0 n) n t _ _ = _
    unfold latin_Lacks_l2_b
    rw [List.drop_eq_nil_of_le (by omega), decide_eq_false (by omega)]
    rfl
  | d + 1, i, n + 1, hi, hn => by
    show latin_Lacks_l2_b ret k0 (latin_Lacks_l2 ret k0 n) n t _ _ = _
    unfold latin_Lacks_l2_b
    have hlt : i < t.length := by omega
    have ih := latin_Lacks_loop ret k0 t hl d (i + 1) n (by omega) (by omega)
    rw [dec_lt, dec_nonneg, decide_eq_true hlt, cond_true, Bool.and_true, cond_true, i64_succ (by omega), getD_drop (d := (0 : Int)) hlt, toNat_nat]
    unfold lackAt
    cases latin_Has (t.getD i 0) with
    | true => exact ih
    | false =>
      have : ((i : Int) == -1) = false := by simp only [beq_eq_false_iff_ne, ne_eq]; omega
      simp [this]

theorem ref08_Lacks_loop (ret : Int → Option AV) (k0 : Option AV) (t : List Int) (hl : t.length ≤ 1048576) : ∀ (d : Nat) (i : Nat) (n : Nat), i + d = t.length → d < n →
    ref08_Lacks_l2 ret k0 n t (i : Nat) = bif lackAt (fun c => (ref08_Put c).2) (t.drop i) i == -1 then k0 else ret (lackAt (fun c => (ref08_Put c).2) (t.drop i) i)
  | d, i, 0, hi, hn => by omega
  | 0, i, n + 1, hi, hn => by
    show ref08_Lacks_l2_b ret k0 (ref08_Lacks_l2 ret k0 n) n t _ = _
    unfold ref08_Lacks_l2_b
    rw [List.drop_eq_nil_of_le (by omega), decide_eq_false (by omega)]
    rfl
  | d + 1, i, n + 1, hi, hn => by
    show ref08_Lacks_l2_b ret k0 (ref08_Lacks_l2 ret k0 n) n t _ = _
    unfold ref08_Lacks_l2_b
    have hlt : i < t.length := by omega
    have ih := ref08_Lacks_loop ret k0 t hl d (i + 1) n (by omega) (by omega)
    rw [dec_lt, dec_nonneg, decide_eq_true hlt, cond_true, Bool.and_true, cond_true, i64_succ (by omega), getD_drop (d := (0 : Int)) hlt, toNat_nat]
    unfold lackAt
    cases (ref08_Put (t.getD i 0)).2 with
    | true => exact ih
    | false =>
      have : ((i : Int) == -1) = false := by simp only [beq_eq_false_iff_ne, ne_eq]; omega
      simp [this]

theorem latin_Lacks_math : ∀ (t0 : List Int), (latin_Lacks_ok t0 = true) → ∃ n, latin_Lacks_sh n t0 = latin_Lacks_ret (latin_Lacks t0) := fun t h => ⟨t.length + 1, by
  unfold latin_Lacks_sh latin_Lacks
  have := latin_Lacks_loop latin_Lacks_ret (latin_Lacks_k2_0 (t.length + 1)) t (lenOk_le h) t.length 0 (t.length + 1) (by omega) (by omega)
  rw [List.drop_zero] at this
  refine this.trans ?_
  cases e : (lackAt latin_Has t (0 : Nat) == -1) with
  | true =>
    rw [beq_iff_eq] at e
    have e' : lackAt latin_Has t 0 = -1 := e
    rw [e']
    rfl
  | false => rfl⟩
theorem ref08_Lacks_math : ∀ (t0 : List Int), (ref08_Lacks_ok t0 = true) → ∃ n, ref08_Lacks_sh n t0 = ref08_Lacks_ret (ref08_Lacks t0) := fun t h => ⟨t.length + 1, by
  unfold ref08_Lacks_sh ref08_Lacks
  have := ref08_Lacks_loop ref08_Lacks_ret (ref08_Lacks_k2_0 (t.length + 1)) t (lenOk_le h) t.length 0 (t.length + 1) (by omega) (by omega)
  rw [List.drop_zero] at this
  refine this.trans ?_
  cases e : (lackAt (fun c => (ref08_Put c).2) t (0 : Nat) == -1) with
  | true =>
    rw [beq_iff_eq] at e
    have e' : lackAt (fun c => (ref08_Put c).2) t 0 = -1 := e
    rw [e']
    rfl
  | false => rfl⟩

/-- Rows written place by place. -/
theorem set_step {α β : Type} (f : α → β) (t : List α) (z : β) (i : Nat) (h : i < t.length) (d : α) :
    ((t.take i).map f ++ List.replicate (t.length - i) z).set i (f (t.getD i d)) = (t.take (i + 1)).map f ++ List.replicate (t.length - (i + 1)) z := by
  rw [List.set_append_right _ _ (by simp; omega)]
  have h1 : ((t.take i).map f).length = i := by simp; omega
  rw [h1, Nat.sub_self, show t.length - i = (t.length - (i + 1)) + 1 by omega, List.replicate_succ, List.set_cons_zero, List.take_succ_eq_append_getElem h, List.map_append, List.append_assoc]
  simp [List.getD, h]

theorem latin_Lay_loop (k0 : List UInt8 → Option AV) (t : List Int) (hl : t.length ≤ 1048576) : ∀ (d i n : Nat), i + d = t.length → d < n →
    latin_Lay_l5 k0 n ((t.take i).map (fun c => UInt8.ofNat (Int.toNat (IntKind.wrap .u8 c))) ++ List.replicate (t.length - i) 0) t (t.length : Nat) (i : Nat) = k0 (t.map fun c => UInt8.ofNat (Int.toNat (IntKind.wrap .u8 c)))
  | d, i, 0, hi, hn => by omega
  | 0, i, n + 1, hi, hn => by
    show latin_Lay_l5_b k0 (latin_Lay_l5 k0 n) n _ t _ _ = _
    unfold latin_Lay_l5_b
    obtain rfl : i = t.length := by omega
    rw [decide_eq_false (by omega), cond_false, List.take_length, Nat.sub_self]
    simp
  | d + 1, i, n + 1, hi, hn => by
    show latin_Lay_l5_b k0 (latin_Lay_l5 k0 n) n _ t _ _ = _
    unfold latin_Lay_l5_b
    have hlt : i < t.length := by omega
    have hl2 : ((t.take i).map (fun c => UInt8.ofNat (Int.toNat (IntKind.wrap .u8 c))) ++ List.replicate (t.length - i) (0 : UInt8)).length = t.length := by simp; omega
    have ih := latin_Lay_loop k0 t hl d (i + 1) n (by omega) (by omega)
    rw [dec_lt, decide_eq_true hlt, cond_true, dec_nonneg, Bool.true_and, cond_true, Bool.true_and, dec_lt, hl2, decide_eq_true hlt, cond_true, i64_succ (by omega), toNat_nat,
      set_step (fun c => UInt8.ofNat (Int.toNat (IntKind.wrap .u8 c))) t 0 i hlt 0]
    exact ih

theorem latin_Lay_math : ∀ (t0 : List Int), (latin_Lay_ok t0 = true) → ∃ n, latin_Lay_sh n t0 = latin_Lay_ret (latin_Lay t0).1 (latin_Lay t0).2 := fun t h => ⟨t.length + 1, by
  have hl := lenOk_le h
  unfold latin_Lay_sh latin_Lay
  rw [show latin_Lacks_ok t = true from h, Bool.and_true, cond_true]
  cases latin_Lacks t != -1 with
  | true => rfl
  | false =>
    have := latin_Lay_loop (latin_Lay_k5_0 (t.length + 1)) t hl t.length 0 (t.length + 1) (by omega) (by omega)
    rw [cond_false, cond_false, dec_nonneg, decide_eq_true (Int.le_refl _), decide_eq_true (by unfold room; omega)]
    unfold latin_Lay_k5_0 at this ⊢
    simpa using this⟩

theorem latin_Read_loop (k0 : List Int → Option AV) (t : List UInt8) (hl : t.length ≤ 1048576) : ∀ (d i n : Nat), i + d = t.length → d < n →
    latin_Read_l3 k0 n ((t.take i).map latin_Sign ++ List.replicate (t.length - i) 0) t (t.length : Nat) (i : Nat) = k0 (t.map latin_Sign)
  | d, i, 0, hi, hn => by omega
  | 0, i, n + 1, hi, hn => by
    show latin_Read_l3_b k0 (latin_Read_l3 k0 n) n _ t _ _ = _
    unfold latin_Read_l3_b
    obtain rfl : i = t.length := by omega
    rw [decide_eq_false (by omega), cond_false, List.take_length, Nat.sub_self]
    simp
  | d + 1, i, n + 1, hi, hn => by
    show latin_Read_l3_b k0 (latin_Read_l3 k0 n) n _ t _ _ = _
    unfold latin_Read_l3_b
    have hlt : i < t.length := by omega
    have hl2 : ((t.take i).map latin_Sign ++ List.replicate (t.length - i) (0 : Int)).length = t.length := by simp; omega
    have ih := latin_Read_loop k0 t hl d (i + 1) n (by omega) (by omega)
    have hs := set_step latin_Sign t 0 i hlt 0
    unfold latin_Sign at hs hl2 ih ⊢
    rw [dec_lt, decide_eq_true hlt, cond_true, dec_nonneg, Bool.true_and, cond_true, Bool.true_and, dec_lt, hl2, decide_eq_true hlt, cond_true, i64_succ (by omega), toNat_nat, hs]
    exact ih

theorem latin_Read_math : ∀ (s0 : List UInt8), (latin_Read_ok s0 = true) → ∃ n, latin_Read_sh n s0 = latin_Read_ret (latin_Read s0) := fun t h => ⟨t.length + 1, by
  have hl := lenOk_le h
  unfold latin_Read_sh latin_Read
  have := latin_Read_loop (latin_Read_k3_0 (t.length + 1)) t hl t.length 0 (t.length + 1) (by omega) (by omega)
  rw [dec_nonneg, decide_eq_true (Int.le_refl _), decide_eq_true (by unfold room; omega)]
  unfold latin_Read_k3_0 at this ⊢
  simpa using this⟩

theorem ref08_Lay_loop (k0 : List UInt8 → Option AV) (t : List Int) (hl : t.length ≤ 1048576) : ∀ (d i n : Nat), i + d = t.length → d < n →
    ref08_Lay_l5 k0 n t ((t.take i).map fun c => (ref08_Put c).1) (i : Nat) = k0 (t.map fun c => (ref08_Put c).1)
  | d, i, 0, hi, hn => by omega
  | 0, i, n + 1, hi, hn => by
    show ref08_Lay_l5_b k0 (ref08_Lay_l5 k0 n) n t _ _ = _
    unfold ref08_Lay_l5_b
    obtain rfl : i = t.length := by omega
    rw [decide_eq_false (by omega), cond_false, List.take_length]
  | d + 1, i, n + 1, hi, hn => by
    show ref08_Lay_l5_b k0 (ref08_Lay_l5 k0 n) n t _ _ = _
    unfold ref08_Lay_l5_b
    have hlt : i < t.length := by omega
    have ih := ref08_Lay_loop k0 t hl d (i + 1) n (by omega) (by omega)
    rw [List.take_succ_eq_append_getElem hlt, List.map_append] at ih
    have hr : decide ((List.map (fun c => (ref08_Put c).1) (t.take i)).length + ([((ref08_Put (List.getD t (Int.toNat i) (0 : Int))).1)] : List UInt8).length ≤ room) = true := by
      unfold room; simp; omega
    rw [dec_lt, decide_eq_true hlt, cond_true, dec_nonneg, Bool.true_and, cond_true, hr, cond_true, i64_succ (by omega), toNat_nat]
    simpa [List.getD, hlt] using ih

theorem ref08_Lay_math : ∀ (t0 : List Int), (ref08_Lay_ok t0 = true) → ∃ n, ref08_Lay_sh n t0 = ref08_Lay_ret (ref08_Lay t0).1 (ref08_Lay t0).2 := fun t h => ⟨t.length + 1, by
  have hl := lenOk_le h
  unfold ref08_Lay_sh ref08_Lay
  rw [show ref08_Lacks_ok t = true from h, Bool.and_true, cond_true]
  cases decide (0 ≤ ref08_Lacks t) with
  | true => rfl
  | false => exact ref08_Lay_loop (ref08_Lay_k5_0 (t.length + 1)) t hl t.length 0 (t.length + 1) (by omega) (by omega)⟩

theorem ref08_Read_loop (k0 : List Int → Option AV) (t : List UInt8) (hl : t.length ≤ 1048576) : ∀ (d i n : Nat), i + d = t.length → d < n →
    ref08_Read_l3 k0 n t ((t.take i).map ref08_Sign) (i : Nat) = k0 (t.map ref08_Sign)
  | d, i, 0, hi, hn => by omega
  | 0, i, n + 1, hi, hn => by
    show ref08_Read_l3_b k0 (ref08_Read_l3 k0 n) n t _ _ = _
    unfold ref08_Read_l3_b
    obtain rfl : i = t.length := by omega
    rw [decide_eq_false (by omega), cond_false, List.take_length]
  | d + 1, i, n + 1, hi, hn => by
    show ref08_Read_l3_b k0 (ref08_Read_l3 k0 n) n t _ _ = _
    unfold ref08_Read_l3_b
    have hlt : i < t.length := by omega
    have ih := ref08_Read_loop k0 t hl d (i + 1) n (by omega) (by omega)
    rw [List.take_succ_eq_append_getElem hlt, List.map_append] at ih
    have hr : decide ((List.map ref08_Sign (t.take i)).length + ([(ref08_Sign (List.getD t (Int.toNat i) (0 : UInt8)))] : List Int).length ≤ room) = true := by
      unfold room; simp; omega
    rw [dec_lt, decide_eq_true hlt, cond_true, dec_nonneg, Bool.true_and, cond_true, hr, cond_true, i64_succ (by omega), toNat_nat]
    simpa [List.getD, hlt] using ih

theorem ref08_Read_math : ∀ (s0 : List UInt8), (ref08_Read_ok s0 = true) → ∃ n, ref08_Read_sh n s0 = ref08_Read_ret (ref08_Read s0) := fun t h => ⟨t.length + 1, by
  unfold ref08_Read_sh ref08_Read
  exact ref08_Read_loop (ref08_Read_k3_0 (t.length + 1)) t (lenOk_le h) t.length 0 (t.length + 1) (by omega) (by omega)⟩

theorem like_drop {α : Type} [DecidableEq α] {a b : List α} {i : Nat} (ha : i < a.length) (hb : i < b.length) (d : α) : decide (a.drop i = b.drop i) = bif a.getD i d != b.getD i d then false else decide (a.drop (i + 1) = b.drop (i + 1)) := by
  rw [getD_drop (d := d) ha, getD_drop (d := d) hb]
  generalize a.getD i d = x
  generalize b.getD i d = y
  by_cases h : x = y
  · subst h; simp
  · simp [h]

theorem ref01_Like_loop (ret : Bool → Option AV) (a b : List UInt8) (hab : a.length = b.length) (hl : a.length ≤ 1048576) : ∀ (d i n : Nat), i + d = a.length → d < n →
    ref01_Like_l4 ret (ret true) n a b (i : Nat) = ret (decide (a.drop i = b.drop i))
  | d, i, 0, hi, hn => by omega
  | 0, i, n + 1, hi, hn => by
    show ref01_Like_l4_b ret (ret true) (ref01_Like_l4 ret (ret true) n) n a b _ = _
    unfold ref01_Like_l4_b
    rw [decide_eq_false (by omega), cond_false, List.drop_eq_nil_of_le (by omega), List.drop_eq_nil_of_le (by omega)]
    rfl
  | d + 1, i, n + 1, hi, hn => by
    show ref01_Like_l4_b ret (ret true) (ref01_Like_l4 ret (ret true) n) n a b _ = _
    unfold ref01_Like_l4_b
    have hlt : i < a.length := by omega
    have hlt' : i < b.length := by omega
    have ih := ref01_Like_loop ret a b hab hl d (i + 1) n (by omega) (by omega)
    rw [dec_lt, decide_eq_true hlt, cond_true, dec_nonneg, Bool.true_and, cond_true, Bool.true_and, dec_lt, decide_eq_true hlt', cond_true, i64_succ (by omega), toNat_nat, ih, like_drop hlt hlt' 0]
    cases (a.getD i 0 != b.getD i 0) <;> rfl

theorem ref01_Like_math : ∀ (a0 : List UInt8) (b1 : List UInt8), (ref01_Like_ok a0 b1 = true) → ∃ n, ref01_Like_sh n a0 b1 = ref01_Like_ret (ref01_Like a0 b1) := fun a b h => ⟨a.length + 1, by
  unfold ref01_Like_sh ref01_Like
  by_cases hab : a.length = b.length
  · rw [show (((a.length : Nat) : Int) != ((b.length : Nat) : Int)) = false by simp [hab], cond_false]
    exact ref01_Like_loop ref01_Like_ret a b hab (lenOk_le h) a.length 0 (a.length + 1) (by omega) (by omega)
  · rw [show (((a.length : Nat) : Int) != ((b.length : Nat) : Int)) = true by simp only [bne_iff_ne, ne_eq]; omega, cond_true, decide_eq_false (fun e => hab (by rw [e]))]⟩

theorem ref03_Like_loop (ret : Bool → Option AV) (a b : List Int) (hab : a.length = b.length) (hl : a.length ≤ 1048576) : ∀ (d i n : Nat), i + d = a.length → d < n →
    ref03_Like_l4 ret (ret true) n a b (i : Nat) = ret (decide (a.drop i = b.drop i))
  | d, i, 0, hi, hn => by omega
  | 0, i, n + 1, hi, hn => by
    show ref03_Like_l4_b ret (ret true) (ref03_Like_l4 ret (ret true) n) n a b _ = _
    unfold ref03_Like_l4_b
    rw [decide_eq_false (by omega), cond_false, List.drop_eq_nil_of_le (by omega), List.drop_eq_nil_of_le (by omega)]
    rfl
  | d + 1, i, n + 1, hi, hn => by
    show ref03_Like_l4_b ret (ret true) (ref03_Like_l4 ret (ret true) n) n a b _ = _
    unfold ref03_Like_l4_b
    have hlt : i < a.length := by omega
    have hlt' : i < b.length := by omega
    have ih := ref03_Like_loop ret a b hab hl d (i + 1) n (by omega) (by omega)
    rw [dec_lt, decide_eq_true hlt, cond_true, dec_nonneg, Bool.true_and, cond_true, Bool.true_and, dec_lt, decide_eq_true hlt', cond_true, i64_succ (by omega), toNat_nat, ih, like_drop hlt hlt' 0]
    cases (a.getD i 0 != b.getD i 0) <;> rfl

theorem ref03_Like_math : ∀ (a0 : List Int) (b1 : List Int), (ref03_Like_ok a0 b1 = true) → ∃ n, ref03_Like_sh n a0 b1 = ref03_Like_ret (ref03_Like a0 b1) := fun a b h => ⟨a.length + 1, by
  unfold ref03_Like_sh ref03_Like
  by_cases hab : a.length = b.length
  · rw [show (((a.length : Nat) : Int) != ((b.length : Nat) : Int)) = false by simp [hab], cond_false]
    exact ref03_Like_loop ref03_Like_ret a b hab (lenOk_le h) a.length 0 (a.length + 1) (by omega) (by omega)
  · rw [show (((a.length : Nat) : Int) != ((b.length : Nat) : Int)) = true by simp only [bne_iff_ne, ne_eq]; omega, cond_true, decide_eq_false (fun e => hab (by rw [e]))]⟩

theorem law08_alive_math : ∃ n, law08_alive_sh n = law08_alive_ret law08_alive := ⟨0, by kernel_rfl⟩
theorem law08_LatinOne_math : ∀ (c0 : Int) (x1 : UInt8), ∃ n, law08_LatinOne_sh n c0 x1 = law08_LatinOne_ret (law08_LatinOne c0 x1) := fun c x => ⟨0, by
  unfold law08_LatinOne_sh law08_LatinOne
  cases (latin_Put c).1 == (ref08_Put c).1 <;> cases (latin_Put c).2 == (ref08_Put c).2 <;> cases latin_Has c == (ref08_Put c).2 <;> cases latin_Sign x == ref08_Sign x <;> rfl⟩

/-! ### The laws, of what the functions compute -/

theorem latin_Has_in (c : Int) (h : -2147483648 ≤ c ∧ c ≤ 2147483647) : latin_Has c = (decide (0 ≤ c) && decide (c < 256)) := by
  unfold latin_Has
  rw [IntKind.wrap_u32, Bool.eq_iff_iff]
  simp only [decide_eq_true_eq, Bool.and_eq_true]
  omega
theorem ref08_Put_has (c : Int) (h : -2147483648 ≤ c ∧ c ≤ 2147483647) : (ref08_Put c).2 = latin_Has c := by
  rw [latin_Has_in c h]
  unfold ref08_Put
  cases decide (0 ≤ c) && decide (c < 256) <;> rfl
theorem i32s_mem {t : List Int} (h : i32s t = true) {c : Int} (hc : c ∈ t) : -2147483648 ≤ c ∧ c ≤ 2147483647 := by
  unfold i32s at h
  rw [List.all_eq_true] at h
  simpa using h c hc

theorem lackAt_congr (p q : Int → Bool) : ∀ (t : List Int) (i : Int), (∀ c ∈ t, p c = q c) → lackAt p t i = lackAt q t i
  | [], _, _ => rfl
  | x :: r, i, h => by
    unfold lackAt
    rw [h x (by simp), lackAt_congr p q r (i + 1) (fun c hc => h c (by simp [hc]))]
theorem lackAt_none (p : Int → Bool) : ∀ (t : List Int) (i : Int), 0 ≤ i → (lackAt p t i = -1 ↔ ∀ c ∈ t, p c = true) ∧ (lackAt p t i = -1 ∨ i ≤ lackAt p t i)
  | [], _, _ => by simp [lackAt]
  | x :: r, i, h => by
    unfold lackAt
    obtain ⟨h1, h2⟩ := lackAt_none p r (i + 1) (by omega)
    cases hp : p x with
    | true => rw [cond_true]; exact ⟨by rw [h1]; simp [hp], by omega⟩
    | false => rw [cond_false]; exact ⟨⟨fun e => by omega, fun e => by have := e x (by simp); rw [hp] at this; cases this⟩, by omega⟩

theorem lacks_same {t : List Int} (h : i32s t = true) : ref08_Lacks t = latin_Lacks t := lackAt_congr _ _ t 0 fun c hc => ref08_Put_has c (i32s_mem h hc)
theorem lacks_nonneg (t : List Int) : decide (0 ≤ latin_Lacks t) = (latin_Lacks t != -1) := by
  obtain ⟨_, h⟩ := lackAt_none latin_Has t 0 (by omega)
  unfold latin_Lacks
  rw [Bool.eq_iff_iff]
  simp only [decide_eq_true_eq, bne_iff_ne, ne_eq]
  omega
theorem lay_same {t : List Int} (h : i32s t = true) : ref08_Lay t = latin_Lay t := by
  unfold ref08_Lay latin_Lay
  rw [lacks_same h, lacks_nonneg]
  cases e : latin_Lacks t != -1 with
  | true => rfl
  | false =>
    have e1 : latin_Lacks t = -1 := by simpa using e
    have h1 := (lackAt_none latin_Has t 0 (by omega)).1.1 e1
    rw [cond_false, cond_false]
    congr 1
    apply List.map_congr_left
    intro c hc
    have h2 := h1 c hc
    have h3 := i32s_mem h hc
    rw [latin_Has_in c h3] at h2
    unfold ref08_Put
    rw [h2, cond_true]
    simp only [Bool.and_eq_true, decide_eq_true_eq] at h2
    rw [IntWalk.u8_in c (by omega)]
theorem sign_same (x : UInt8) : latin_Sign x = (x.toNat : Int) := by
  unfold latin_Sign
  have := x.toNat_lt
  rw [IntWalk.i32_in _ (by omega)]

theorem law08_LatinTexts_math : ∀ (t0 : List Int) (s1 : List UInt8), (law08_LatinTexts_ok t0 s1 = true) → ∃ n, law08_LatinTexts_sh n t0 s1 = law08_LatinTexts_ret (law08_LatinTexts t0 s1) := fun t s h => ⟨0, by
  have h : i32s t = true := h
  unfold law08_LatinTexts_sh law08_LatinTexts
  by_cases h1 : (300 : Int) < ((t.length : Nat) : Int)
  · rw [decide_eq_true h1]; rfl
  · by_cases h2 : (1000 : Int) < ((s.length : Nat) : Int)
    · rw [decide_eq_false h1, decide_eq_true h2]; rfl
    · have ht : lenOk t = true := by simp [lenOk]; omega
      have hs : lenOk s = true := by simp [lenOk]; omega
      have hla : lenOk (latin_Lay t).1 = true := by
        unfold latin_Lay; cases latin_Lacks t != -1 <;> simp [lenOk]; omega
      have hr : lenOk (latin_Read s) = true := by simp [lenOk, latin_Read]; omega
      have e1 : ref03_Like (latin_Read s) (ref08_Read s) = true := decide_eq_true rfl
      rw [decide_eq_false h1, decide_eq_false h2, lay_same h, lacks_same h, show latin_Lay_ok t = true from ht, show ref08_Lay_ok t = true from ht, show ref01_Like_ok (latin_Lay t).1 (latin_Lay t).1 = true from hla,
        show latin_Lacks_ok t = true from ht, show ref08_Lacks_ok t = true from ht, show latin_Read_ok s = true from hs, show ref08_Read_ok s = true from hs, show ref03_Like_ok (latin_Read s) (ref08_Read s) = true from hr, e1]
      simp [ref01_Like, law08_alive]⟩

theorem read_lay {t : List Int} (h : i32s t = true) (he : latin_Lacks t = -1) : latin_Read (t.map fun c => UInt8.ofNat (IntKind.wrap .u8 c).toNat) = t := by
  have h1 := (lackAt_none latin_Has t 0 (by omega)).1.1 he
  unfold latin_Read
  rw [List.map_map]
  conv => rhs; rw [← List.map_id t]
  apply List.map_congr_left
  intro c hc
  have h2 := h1 c hc
  rw [latin_Has_in c (i32s_mem h hc)] at h2
  simp only [Bool.and_eq_true, decide_eq_true_eq] at h2
  simp only [Function.comp, sign_same, id]
  rw [IntWalk.u8_in c (by omega), UInt8.toNat_ofNat', Nat.mod_eq_of_lt (by omega)]
  omega

theorem lay_read (s : List UInt8) : latin_Lay (latin_Read s) = (s, 0) := by
  have h1 : latin_Lacks (latin_Read s) = -1 := (lackAt_none latin_Has (latin_Read s) 0 (by omega)).1.2 fun c hc => by
    unfold latin_Read at hc
    obtain ⟨x, hx, rfl⟩ := List.mem_map.1 hc
    rw [sign_same]
    have := x.toNat_lt
    rw [latin_Has_in _ (by omega)]
    simp only [Bool.and_eq_true, decide_eq_true_eq]
    omega
  unfold latin_Lay
  rw [h1]
  show ((latin_Read s).map _, (0 : Int)) = _
  congr 1
  unfold latin_Read
  rw [List.map_map]
  conv => rhs; rw [← List.map_id s]
  apply List.map_congr_left
  intro x _
  simp only [Function.comp, sign_same, id]
  have := x.toNat_lt
  rw [IntWalk.u8_in _ (by omega)]
  simp

theorem law08_LatinBack_math : ∀ (t0 : List Int) (s1 : List UInt8), (law08_LatinBack_ok t0 s1 = true) → ∃ n, law08_LatinBack_sh n t0 s1 = law08_LatinBack_ret (law08_LatinBack t0 s1) := fun t s h => ⟨s.length + 1, by
  have h : i32s t = true := h
  unfold law08_LatinBack_sh law08_LatinBack
  by_cases h1 : (300 : Int) < ((t.length : Nat) : Int)
  · rw [decide_eq_true h1]; rfl
  · by_cases h2 : (1000 : Int) < ((s.length : Nat) : Int)
    · rw [decide_eq_false h1, decide_eq_true h2]; rfl
    · have ht : lenOk t = true := by simp [lenOk]; omega
      have hs : lenOk s = true := by simp [lenOk]; omega
      have hrl : (latin_Read s).length = s.length := by simp [latin_Read]
      have hxr : lenOk (latin_Read s) = true := by simp [lenOk, hrl]; omega
      have hk : law08_LatinBack_l9 law08_LatinBack_ret (law08_LatinBack_k9_0 (s.length + 1)) (s.length + 1) s (latin_Read s) true (latin_Read s) ((latin_Read s).length : Nat) (0 : Int) = law08_LatinBack_ret true := by
        -- what is behind the loop
        have key : ∀ (d i n : Nat), i + d = (latin_Read s).length → d < n → law08_LatinBack_l9 law08_LatinBack_ret (law08_LatinBack_k9_0 (s.length + 1)) n s (latin_Read s) true (latin_Read s) ((latin_Read s).length : Nat) (i : Nat) = law08_LatinBack_ret true := by
          intro d
          induction d with
          | zero =>
            intro i n hi hn
            cases n with
            | zero => omega
            | succ n =>
              show law08_LatinBack_l9_b _ _ _ n s _ true _ _ _ = _
              unfold law08_LatinBack_l9_b
              rw [decide_eq_false (by omega), cond_false]
              unfold law08_LatinBack_k9_0
              rw [lay_read, show latin_Lay_ok (latin_Read s) = true from hxr, show ref01_Like_ok s s = true from hs]
              simp [ref01_Like, law08_alive]
          | succ d ih =>
            intro i n hi hn
            cases n with
            | zero => omega
            | succ n =>
              show law08_LatinBack_l9_b _ _ _ n s _ true _ _ _ = _
              unfold law08_LatinBack_l9_b
              have hlt : i < (latin_Read s).length := by omega
              rw [dec_lt, decide_eq_true hlt, cond_true, dec_nonneg, Bool.true_and, cond_true, i64_succ (by omega), ih (i + 1) n (by omega) (by omega)]
              cases (List.getD (latin_Read s) (Int.toNat i) (0 : Int) == 65533) <;> rfl
        exact key (latin_Read s).length 0 (s.length + 1) (by omega) (by omega)
      rw [decide_eq_false h1, decide_eq_false h2, show latin_Lay_ok t = true from ht, show latin_Lacks_ok t = true from ht, show latin_Read_ok s = true from hs]
      have hw : (((latin_Read s).length : Nat) : Int) == ((s.length : Nat) : Int) := by simp [hrl]
      rw [hw, hk]
      by_cases he : latin_Lacks t = -1
      · have hlay : latin_Lay t = (t.map fun c => UInt8.ofNat (IntKind.wrap .u8 c).toNat, 0) := by unfold latin_Lay; rw [he]; rfl
        have hok1 : latin_Read_ok (t.map fun c => UInt8.ofNat (IntKind.wrap .u8 c).toNat) = true := by simp [latin_Read_ok, lenOk]; omega
        have hok2 : ref03_Like_ok t t = true := ht
        rw [hlay]
        simp only [read_lay h he, hok1, hok2, he]
        simp [ref03_Like]
      · have hne : (latin_Lacks t != -1) = true := by simpa using he
        have hlay : latin_Lay t = ([], 9) := by unfold latin_Lay; rw [hne]; rfl
        have hnn : ¬ latin_Lacks t < 0 := by
          have := lacks_nonneg t
          rw [hne] at this
          simp only [decide_eq_true_eq] at this
          omega
        rw [hlay]
        simp [hnn]⟩
end Go.Av
