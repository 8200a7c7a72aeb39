/-
  The document's small functions; names; one field.
-/
import Derived.Test.YtcfhfjjohmdaoaaDoorFiP5
import Derived.Lib.IndexBytes
namespace Go.Av
theorem bneT {a b : Int} (h : a ≠ b) : (a != b) = true := by simp [bne, h]
theorem bneF {a b : Int} (h : a = b) : (a != b) = false := by simp [h]
theorem has_loop (ret : Bool → Option AV) (k0 : Option AV) (hk : k0 = ret false) (s : List UInt8) (c : UInt8) (hl : s.length ≤ 1048576) : ∀ (d i n : Nat), i + d = s.length → d < n →
    ref01_has_l2 ret k0 n s c (i : Nat) = ret ((s.drop i).contains c)
  | d, i, 0, hi, hn => by omega
  | 0, i, n + 1, hi, hn => by
    show ref01_has_l2_b ret k0 (ref01_has_l2 ret k0 n) n _ _ _ = _
    unfold ref01_has_l2_b
    rw [dF (by omega), cond_false, List.drop_eq_nil_of_le (by omega), hk]
    rfl
  | d + 1, i, n + 1, hi, hn => by
    show ref01_has_l2_b ret k0 (ref01_has_l2 ret k0 n) n _ _ _ = _
    unfold ref01_has_l2_b
    have hlt : i < s.length := by omega
    have ih := has_loop ret k0 hk s c hl d (i + 1) n (by omega) (by omega)
    rw [getD_drop (d := (0 : UInt8)) hlt, List.contains_cons]
    simp (disch := omega) only [dT, cond_true, Bool.and_true, tn, i64_succ]
    rw [ih, show (s.getD i 0 == c) = (c == s.getD i 0) from Bool.beq_comm]
    cases (c == s.getD i 0) <;> rfl
/-- A text that is short enough for its signs to be counted. -/
theorem has_math' (s : List UInt8) (c : UInt8) (hl : s.length ≤ 1048576) : ∃ n, ref01_has_sh n s c = ref01_has_ret (ref01_has s c) := ⟨s.length + 1, by
  unfold ref01_has_sh
  have := has_loop ref01_has_ret (ref01_has_k2_0 (s.length + 1)) rfl s c hl s.length 0 (s.length + 1) (by omega) (by omega)
  exact this⟩
theorem ref01_has_math : ∀ (s0 : List UInt8) (c1 : UInt8), (ref01_has_ok s0 c1 = true) → ∃ n, ref01_has_sh n s0 c1 = ref01_has_ret (ref01_has s0 c1) := fun s c h => has_math' s c (lenOk_le h)
theorem ref01_Is_math : ∀ (c0 : UInt8) (kinds1 : Int), ∃ n, ref01_Is_sh n c0 kinds1 = ref01_Is_ret (ref01_Is c0 kinds1) := fun _ _ => ⟨0, rfl⟩
theorem refCount_loop (k0 : Int → Option AV) (s : List UInt8) (k : Int) (hl : s.length ≤ 1048576) : ∀ (d i n m : Nat), i + d = s.length → d < n → m + d ≤ 1048576 →
    ref01_Count_l3 k0 n s k (m : Nat) (i : Nat) = k0 ((m + (s.drop i).countP (fun c => octet_Is c k) : Nat) : Int)
  | d, i, 0, m, hi, hn, hm => by omega
  | 0, i, n + 1, m, hi, hn, hm => by
    show ref01_Count_l3_b k0 (ref01_Count_l3 k0 n) n _ _ _ _ = _
    unfold ref01_Count_l3_b
    rw [dF (by omega), cond_false, List.drop_eq_nil_of_le (by omega)]
    rfl
  | d + 1, i, n + 1, m, hi, hn, hm => by
    show ref01_Count_l3_b k0 (ref01_Count_l3 k0 n) n _ _ _ _ = _
    unfold ref01_Count_l3_b
    have hlt : i < s.length := by omega
    have ih := refCount_loop k0 s k hl d (i + 1) n m (by omega) (by omega) (by omega)
    have ih2 := refCount_loop k0 s k hl d (i + 1) n (m + 1) (by omega) (by omega) (by omega)
    rw [getD_drop (d := (0 : UInt8)) hlt, List.countP_cons]
    simp (disch := omega) only [dT, cond_true, Bool.and_true, tn, i64_succ]
    rw [show ref01_Is (s.getD i 0) k = octet_Is (s.getD i 0) k from rfl]
    cases octet_Is (s.getD i 0) k with
    | true => rw [cond_true, ih2]; congr 2; simp; omega
    | false => rw [cond_false, ih]; congr 2
theorem ref01_Count_math : ∀ (s0 : List UInt8) (kinds1 : Int), (ref01_Count_ok s0 kinds1 = true) → ∃ n, ref01_Count_sh n s0 kinds1 = ref01_Count_ret (ref01_Count s0 kinds1) := fun s k h => ⟨s.length + 1, by
  have hl := lenOk_le h
  unfold ref01_Count_sh
  have := refCount_loop (ref01_Count_k3_0 (s.length + 1)) s k hl s.length 0 (s.length + 1) 0 (by omega) (by omega) (by omega)
  refine Eq.trans this ?_
  rw [Nat.zero_add, List.drop_zero]
  rfl⟩

theorem rTrim_l4 (k2 : List UInt8 → Int → Int → Option AV) (s : List UInt8) (hl : s.length ≤ 1048576) (a : Nat) : ∀ (d b n : Nat), a + d = b → b ≤ s.length → d < n →
    ref01_Trim_l4 k2 n s (a : Nat) (b : Nat) = k2 s (a : Nat) ((a + (dropR blank ((s.take b).drop a)).length : Nat) : Int)
  | d, b, 0, hb, hbl, hn => by omega
  | 0, b, n + 1, hb, hbl, hn => by
    show ref01_Trim_l4_b k2 (ref01_Trim_l4 k2 n) n _ _ _ = _
    unfold ref01_Trim_l4_b
    have hz : (s.take b).drop a = [] := List.drop_eq_nil_of_le (by simp; omega)
    rw [dF (by omega), cond_false, hz]
    congr 1
    simp [dropR]
    omega
  | d + 1, b, n + 1, hb, hbl, hn => by
    show ref01_Trim_l4_b k2 (ref01_Trim_l4 k2 n) n _ _ _ = _
    unfold ref01_Trim_l4_b
    have hlt : a < b := by omega
    have ih := rTrim_l4 k2 s hl a d (b - 1) n (by omega) (by omega) (by omega)
    have hsn : (s.take b).drop a = (s.take (b - 1)).drop a ++ [s.getD (b - 1) 0] := by
      have h1 : s.take b = s.take (b - 1) ++ [s.getD (b - 1) 0] := by
        conv => lhs; rw [show b = b - 1 + 1 by omega]
        rw [List.take_add_one]
        simp [List.getD, show b - 1 < s.length by omega]
      rw [h1, List.drop_append_of_le_length (by simp; omega)]
    have hc : ((b : Nat) : Int) - 1 = ((b - 1 : Nat) : Int) := by omega
    simp (disch := omega) only [dT, cond_true, Bool.and_true, wr, hc, tn, hsn, dropR_snoc]
    rw [show ref01_Is (s.getD (b - 1) 0) 2 = blank (s.getD (b - 1) 0) from blanks _]
    cases blank (s.getD (b - 1) 0) with
    | true => exact ih
    | false =>
      rw [cond_false, cond_false]
      congr 1
      simp
      omega
theorem rTrim_l2 (k0 : List UInt8 → Int → Int → Option AV) (s : List UInt8) (hl : s.length ≤ 1048576) : ∀ (d a n : Nat), a + d = s.length → d < n →
    ref01_Trim_l2 k0 n s (a : Nat) (s.length : Nat) = k0 s ((s.length - ((s.drop a).dropWhile blank).length : Nat) : Int) (s.length : Nat)
  | d, a, 0, hb, hn => by omega
  | 0, a, n + 1, hb, hn => by
    show ref01_Trim_l2_b k0 (ref01_Trim_l2 k0 n) n _ _ _ = _
    unfold ref01_Trim_l2_b
    rw [dF (by omega), cond_false, List.drop_eq_nil_of_le (by omega)]
    congr 1
    simp
    omega
  | d + 1, a, n + 1, hb, hn => by
    show ref01_Trim_l2_b k0 (ref01_Trim_l2 k0 n) n _ _ _ = _
    unfold ref01_Trim_l2_b
    have hlt : a < s.length := by omega
    have ih := rTrim_l2 k0 s hl d (a + 1) n (by omega) (by omega)
    rw [getD_drop (d := (0 : UInt8)) hlt, List.dropWhile_cons]
    simp (disch := omega) only [dT, cond_true, Bool.and_true, i64_succ, tn]
    rw [show ref01_Is (s.getD a 0) 2 = blank (s.getD a 0) from blanks _]
    cases hbk : blank (s.getD a 0) with
    | true => rw [cond_true, ih]; rfl
    | false =>
      rw [cond_false]
      congr 1
      simp
      omega
theorem drop_of_dropWhile (p : UInt8 → Bool) : ∀ s : List UInt8, s.drop (s.length - (s.dropWhile p).length) = s.dropWhile p
  | [] => rfl
  | c :: s => by
    rw [List.dropWhile_cons]
    cases p c with
    | true =>
      have := dropWhile_le p s
      simp only [if_true, List.length_cons]
      rw [show s.length + 1 - (s.dropWhile p).length = s.length - (s.dropWhile p).length + 1 by omega, List.drop_succ_cons]
      exact drop_of_dropWhile p s
    | false => simp
/-- Either end may be trimmed first. -/
theorem trim_comm (p : UInt8 → Bool) (s : List UInt8) : dropR p (s.dropWhile p) = trimBy p s := by
  unfold trimBy
  induction s with
  | nil => rfl
  | cons c s ih =>
    rw [List.dropWhile_cons]
    cases hc : p c with
    | true =>
      rw [if_pos rfl, ih]
      rcases List.eq_nil_or_concat (dropR p s) with h0 | ⟨t, x, h0⟩
      · have : dropR p (c :: s) = [] := by
          unfold dropR at h0 ⊢
          rw [List.reverse_cons, List.dropWhile_append]
          have h1 : s.reverse.dropWhile p = [] := by simpa using h0
          rw [h1]
          simp [hc]
        rw [h0, this]
      · have : dropR p (c :: s) = c :: dropR p s := by
          unfold dropR at h0 ⊢
          rw [List.reverse_cons, List.dropWhile_append]
          have h1 : (s.reverse.dropWhile p).isEmpty = false := by
            cases hh : s.reverse.dropWhile p with
            | nil => rw [hh] at h0; simp at h0
            | cons a b => rfl
          rw [h1]
          simp
        rw [this, List.dropWhile_cons, hc]
        rfl
    | false =>
      simp only [Bool.false_eq_true, if_false]
      have : dropR p (c :: s) = c :: dropR p s ∨ dropR p (c :: s) = [c] ∧ dropR p s = [] := by
        unfold dropR
        rw [List.reverse_cons, List.dropWhile_append]
        cases hh : s.reverse.dropWhile p with
        | nil => right; simp [hc]
        | cons a b => left; simp
      rcases this with h | ⟨h, _⟩
      · rw [h, List.dropWhile_cons, hc]; rfl
      · rw [h, List.dropWhile_cons, hc]; rfl
theorem dropR_pre (p : UInt8 → Bool) (s : List UInt8) : s.take (dropR p s).length = dropR p s := by
  have h := drop_of_dropWhile p s.reverse
  unfold dropR
  have hle := dropWhile_le p s.reverse
  rw [List.length_reverse] at hle
  conv => rhs; rw [← h]
  rw [List.length_reverse, List.length_reverse, List.reverse_drop, List.reverse_reverse, List.length_reverse]
  congr 1
  omega
theorem ref01_Trim_math : ∀ (s0 : List UInt8), (ref01_Trim_ok s0 = true) → ∃ n, ref01_Trim_sh n s0 = ref01_Trim_ret (ref01_Trim s0) := fun s h => ⟨s.length + 1, by
  have hl := lenOk_le h
  unfold ref01_Trim_sh
  refine (rTrim_l2 (ref01_Trim_k2_0 (s.length + 1)) s hl s.length 0 (s.length + 1) (by omega) (by omega)).trans ?_
  rw [List.drop_zero]
  have hle := dropWhile_le blank s
  unfold ref01_Trim_k2_0
  refine (rTrim_l4 (ref01_Trim_k4_2 (s.length + 1)) s hl (s.length - (s.dropWhile blank).length) (s.dropWhile blank).length s.length (s.length + 1) (by omega) (by omega) (by omega)).trans ?_
  rw [List.take_length, drop_of_dropWhile, trim_comm]
  have hle2 := dropR_le blank (s.dropWhile blank)
  rw [trim_comm] at hle2
  unfold ref01_Trim_k4_2
  simp (disch := omega) only [dT, cond_true, Bool.and_true, tn]
  have e : List.drop (s.length - (s.dropWhile blank).length) (List.take (s.length - (s.dropWhile blank).length + (trimBy blank s).length) s) = trimBy blank s := by
    rw [List.drop_take, show s.length - (s.dropWhile blank).length + (trimBy blank s).length - (s.length - (s.dropWhile blank).length) = (trimBy blank s).length by omega, drop_of_dropWhile]
    rw [← trim_comm]
    exact dropR_pre blank _
  rw [e]
  rfl⟩

theorem ib_cons (x : UInt8) (s : List UInt8) (c : UInt8) : Lib.indexByte (x :: s) c = if (x == c) = true then 0 else if (Lib.indexByte s c == -1) = true then -1 else Lib.indexByte s c + 1 := rfl
theorem ib_lt : ∀ (s : List UInt8) (c : UInt8), Lib.indexByte s c < (s.length : Int)
  | [], c => by show (-1 : Int) < ((0 : Nat) : Int); omega
  | x :: s, c => by
    have := ib_lt s c
    have hg := Lib.indexByte_ge s c
    rw [ib_cons]
    simp only [List.length_cons]
    split
    · omega
    · split <;> omega
theorem ib_contains : ∀ (s : List UInt8) (c : UInt8), (Lib.indexByte s c != -1) = s.contains c
  | [], c => rfl
  | x :: s, c => by
    have ih := ib_contains s c
    have hg := Lib.indexByte_ge s c
    rw [List.contains_cons, ← ih, ib_cons]
    cases hx : (x == c) with
    | true =>
      have : (c == x) = true := by rw [Bool.beq_comm]; exact hx
      rw [this]; rfl
    | false =>
      have : (c == x) = false := by rw [Bool.beq_comm]; exact hx
      rw [this, Bool.false_or]
      simp only [Bool.false_eq_true, if_false]
      by_cases h : Lib.indexByte s c = -1
      · rw [h]; rfl
      · rw [if_neg (by simpa using h), bneT (by omega), bneT h]
theorem ib_neg (s : List UInt8) (c : UInt8) : decide (Lib.indexByte s c < 0) = !s.contains c := by
  have hg := Lib.indexByte_ge s c
  rw [← ib_contains]
  by_cases h : Lib.indexByte s c = -1
  · rw [h]; rfl
  · rw [bneT h, dF (by omega)]; rfl
theorem nameLen {s : List UInt8} (h : s ≠ []) : s.isEmpty = false := by cases s with
  | nil => exact absurd rfl h
  | cons a b => rfl
theorem field_isName_math : ∀ (s0 : List UInt8), (field_isName_ok s0 = true) → ∃ n, field_isName_sh n s0 = field_isName_ret (field_isName s0) := fun s h => ⟨0, by
  unfold field_isName_sh field_isName isNameB
  cases s with
  | nil => rfl
  | cons x r =>
    have hlen : (x :: r).length = r.length + 1 := rfl
    rw [dT (show (0 : Int) < ((x :: r).length : Int) by omega), show octet_All_ok (x :: r) 4 = true from h, show octet_All (x :: r) 4 = ((x :: r).all fun c => octet_Is c 4) from rfl]
    have h1 : bytes_Contains_ok (x :: r) [58] = true := by unfold bytes_Contains_ok bytes_Index_ok; rw [show lenOk (x :: r) = true from h]; rfl
    have h2 : bytes_Contains (x :: r) [58] = (x :: r).contains 58 := by unfold bytes_Contains; rw [Lib.index_one, ib_contains]
    rw [h1, h2]
    cases ((x :: r).all fun c => octet_Is c 4) <;> rfl⟩
theorem colon_loop (ret : Int → Option AV) (k0 : Option AV) (hk : k0 = ret (-1)) (s : List UInt8) (hl : s.length ≤ 1048576) : ∀ (d i n : Nat), i + d = s.length → d < n →
    ref48_colon_l2 ret k0 n s (i : Nat) = ret (if Lib.indexByte (s.drop i) 58 = -1 then -1 else (i : Int) + Lib.indexByte (s.drop i) 58)
  | d, i, 0, hi, hn => by omega
  | 0, i, n + 1, hi, hn => by
    show ref48_colon_l2_b ret k0 (ref48_colon_l2 ret k0 n) n _ _ = _
    unfold ref48_colon_l2_b
    rw [dF (by omega), cond_false, List.drop_eq_nil_of_le (by omega), hk]
    rfl
  | d + 1, i, n + 1, hi, hn => by
    show ref48_colon_l2_b ret k0 (ref48_colon_l2 ret k0 n) n _ _ = _
    unfold ref48_colon_l2_b
    have hlt : i < s.length := by omega
    have ih := colon_loop ret k0 hk s hl d (i + 1) n (by omega) (by omega)
    have hg := Lib.indexByte_ge (s.drop (i + 1)) 58
    rw [getD_drop (d := (0 : UInt8)) hlt]
    simp (disch := omega) only [dT, cond_true, Bool.and_true, tn, i64_succ]
    rw [ih]
    have e : Lib.indexByte (s.getD i 0 :: s.drop (i + 1)) 58 = if (s.getD i 0 == 58) = true then 0 else if (Lib.indexByte (s.drop (i + 1)) 58 == -1) = true then -1 else Lib.indexByte (s.drop (i + 1)) 58 + 1 := rfl
    rw [e]
    cases (s.getD i 0 == 58) with
    | true => rw [cond_true, if_pos rfl, if_neg (by decide), Int.add_zero]
    | false =>
      rw [cond_false]
      simp only [Bool.false_eq_true, if_false]
      by_cases h : Lib.indexByte (s.drop (i + 1)) 58 = -1
      · simp [h]
      · have hb : (Lib.indexByte (s.drop (i + 1)) 58 == -1) = false := by simp [h]
        simp only [hb, Bool.false_eq_true, if_false]
        rw [if_neg h, if_neg (by omega)]
        congr 1
        omega
theorem ref48_colon_math : ∀ (s0 : List UInt8), (ref48_colon_ok s0 = true) → ∃ n, ref48_colon_sh n s0 = ref48_colon_ret (ref48_colon s0) := fun s h => ⟨s.length + 1, by
  unfold ref48_colon_sh
  have := colon_loop ref48_colon_ret (ref48_colon_k2_0 (s.length + 1)) rfl s (lenOk_le h) s.length 0 (s.length + 1) (by omega) (by omega)
  refine Eq.trans this ?_
  rw [List.drop_zero]
  unfold ref48_colon
  by_cases h : Lib.indexByte s 58 = -1
  · rw [if_pos h, h]
  · rw [if_neg h]; congr 1; omega⟩
theorem ref48_name_math : ∀ (s0 : List UInt8), (ref48_name_ok s0 = true) → ∃ n, ref48_name_sh n s0 = ref48_name_ret (ref48_name s0) := fun s h => ⟨0, by
  unfold ref48_name_sh ref48_name isNameB
  cases s with
  | nil => rfl
  | cons x r =>
    have hlen : (x :: r).length = r.length + 1 := rfl
    have h1 : (ref01_Count (x :: r) 4 == (((x :: r).length : Nat) : Int)) = (x :: r).all fun c => octet_Is c 4 := countP_all (fun c => octet_Is c 4) (x :: r)
    rw [dT (show (0 : Int) < ((x :: r).length : Int) by omega), show ref01_Count_ok (x :: r) 4 = true from h, h1, show ref48_colon_ok (x :: r) = true from h, show ref48_colon (x :: r) = Lib.indexByte (x :: r) 58 from rfl, ib_neg]
    cases ((x :: r).all fun c => octet_Is c 4) <;> rfl⟩

theorem cut1_ok {s : List UInt8} (h : lenOk s = true) : bytes_Cut_ok s [58] = true := by unfold bytes_Cut_ok; rw [h]; rfl
theorem cut_le (s sep : List UInt8) : (bytes_Cut s sep).1.length ≤ s.length ∧ (bytes_Cut s sep).2.1.length ≤ s.length := by
  unfold bytes_Cut
  cases decide ((0 : Int) ≤ Lib.index s sep) with
  | true => exact ⟨by simp; omega, by simp⟩
  | false => exact ⟨Nat.le_refl _, by simp⟩
theorem field_One_math : ∀ (raw0 : List UInt8), (field_One_ok raw0 = true) → ∃ n, field_One_sh n raw0 = field_One_ret (field_One raw0).1 (field_One raw0).2 := fun s h => ⟨0, by
  have hl := lenOk_le h
  obtain ⟨h1, h2⟩ := cut_le s [58]
  have h3 := trimBy_le blank (bytes_Cut s [58]).1
  have h4 := unf_le (bytes_Cut s [58]).2.1
  unfold field_One_sh field_One
  rw [cut1_ok h, show octet_Trim_ok (bytes_Cut s [58]).1 = true from lenOk_of (by omega), show octet_Trim (bytes_Cut s [58]).1 = trimBy blank (bytes_Cut s [58]).1 from rfl, show field_isName_ok (trimBy blank (bytes_Cut s [58]).1) = true from lenOk_of (by omega),
    show field_isName (trimBy blank (bytes_Cut s [58]).1) = isNameB (trimBy blank (bytes_Cut s [58]).1) from rfl, show fold_Unfold_ok (bytes_Cut s [58]).2.1 = true from lenOk_of (by omega), show fold_Unfold (bytes_Cut s [58]).2.1 = unf (bytes_Cut s [58]).2.1 from rfl,
    show octet_Trim_ok (unf (bytes_Cut s [58]).2.1) = true from lenOk_of (by omega)]
  cases (bytes_Cut s [58]).2.2 <;> cases field_blank s <;> cases isNameB (trimBy blank (bytes_Cut s [58]).1) <;> rfl⟩
theorem ref48_One_math : ∀ (raw0 : List UInt8), (ref48_One_ok raw0 = true) → ∃ n, ref48_One_sh n raw0 = ref48_One_ret (ref48_One raw0).1 (ref48_One raw0).2 := fun s h => ⟨0, by
  have hl := lenOk_le h
  have hg := Lib.indexByte_ge s 58
  have hlt := ib_lt s 58
  unfold ref48_One_sh ref48_One field_One bytes_Cut
  rw [show ref48_colon_ok s = true from h, show ref48_colon s = Lib.indexByte s 58 from rfl, Lib.index_one]
  by_cases h1 : Lib.indexByte s 58 < 1
  · rw [dT h1]
    by_cases h0 : Lib.indexByte s 58 = -1
    · rw [h0]; rfl
    · have h2 : Lib.indexByte s 58 = 0 := by omega
      rw [h2]
      cases field_blank s <;> rfl
  · rw [dF h1]
    cases s with
    | nil => simp [Lib.indexByte] at h1
    | cons x r =>
      have hlen : (x :: r).length = r.length + 1 := rfl
      generalize Lib.indexByte (x :: r) 58 = j at h1 hg hlt
      obtain ⟨i, rfl⟩ : ∃ i : Nat, j = i := ⟨j.toNat, by omega⟩
      have hb : ref01_Is (List.getD (x :: r) (Int.toNat 0) 0) 2 = field_blank (x :: r) := blanks x
      have e1 : List.drop (Int.toNat ((0 : Nat) : Int)) (List.take (Int.toNat (i : Int)) (x :: r)) = List.take i (x :: r) := by rw [tn]; rfl
      have e2 : List.drop (Int.toNat ((i : Int) + 1)) (List.take (Int.toNat (((x :: r).length : Nat) : Int)) (x :: r)) = List.drop (i + 1) (x :: r) := by rw [tn, tn1, List.take_length]
      have e3 : (List.take i (x :: r)).length ≤ 1048576 := by rw [List.length_take]; omega
      have e4 : (List.drop (i + 1) (x :: r)).length ≤ 1048576 := by rw [List.length_drop]; omega
      have h3 := trimBy_le blank (List.take i (x :: r))
      have h4 := unf_le (List.drop (i + 1) (x :: r))
      rw [hb, e1]
      simp (disch := omega) only [dT, wr, cond_true, cond_false, Bool.and_true, Bool.true_and]
      rw [e2, show ref01_Trim_ok (List.take i (x :: r)) = true from lenOk_of e3, show ref01_Trim (List.take i (x :: r)) = trimBy blank (List.take i (x :: r)) from rfl, show ref48_name_ok (trimBy blank (List.take i (x :: r))) = true from lenOk_of (by omega),
        show ref48_name (trimBy blank (List.take i (x :: r))) = isNameB (trimBy blank (List.take i (x :: r))) from rfl, show ref27_Unfold_ok (List.drop (i + 1) (x :: r)) = true from lenOk_of e4, show (ref27_Unfold (List.drop (i + 1) (x :: r))).1 = unf (List.drop (i + 1) (x :: r)) from rfl,
        show ref01_Trim_ok (unf (List.drop (i + 1) (x :: r))) = true from lenOk_of (by omega), show ref01_Trim (unf (List.drop (i + 1) (x :: r))) = trimBy blank (unf (List.drop (i + 1) (x :: r))) from rfl, tn]
      cases field_blank (x :: r) <;> cases isNameB (trimBy blank (List.take i (x :: r))) <;> rfl⟩
end Go.Av
