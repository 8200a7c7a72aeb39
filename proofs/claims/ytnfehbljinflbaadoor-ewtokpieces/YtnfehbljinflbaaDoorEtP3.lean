/-
  Small functions: octets' kinds counted, folded, trimmed.
-/
import Derived.Test.YtnfehbljinflbaaDoorEtP2
namespace Go.Av
theorem dT {p : Prop} [Decidable p] (h : p) : decide p = true := decide_eq_true h
theorem dF {p : Prop} [Decidable p] (h : ¬ p) : decide p = false := decide_eq_false h
theorem wr {x : Int} (h : -9223372036854775808 ≤ x ∧ x ≤ 9223372036854775807) : IntKind.wrap .i64 x = x := IntWalk.i64_in x h
theorem tn (i : Nat) : Int.toNat (i : Int) = i := Int.toNat_natCast i
theorem tn1 (i : Nat) : Int.toNat ((i : Int) + 1) = i + 1 := by omega
theorem beqI {a b : Int} (h : a = b) : (a == b) = true := by simp [h]
theorem bneI {a b : Int} (h : a ≠ b) : (a == b) = false := by simp [h]
theorem lenOk_of {α : Type} {l : List α} (h : l.length ≤ 1048576) : lenOk l = true := by unfold lenOk; rw [decide_eq_true_eq]; exact h

theorem dropR_snoc (p : UInt8 → Bool) (t : List UInt8) (x : UInt8) : dropR p (t ++ [x]) = bif p x then dropR p t else t ++ [x] := by
  unfold dropR
  rw [List.reverse_append, List.reverse_singleton, List.singleton_append, List.dropWhile_cons]
  cases p x <;> simp
theorem dropWhile_le (p : UInt8 → Bool) : ∀ s : List UInt8, (s.dropWhile p).length ≤ s.length
  | [] => by simp
  | c :: s => by
    rw [List.dropWhile_cons]
    split
    · have := dropWhile_le p s; simp only [List.length_cons]; omega
    · exact Nat.le_refl _
theorem dropR_le (p : UInt8 → Bool) (s : List UInt8) : (dropR p s).length ≤ s.length := by
  have := dropWhile_le p s.reverse
  unfold dropR
  simpa using this
theorem trimBy_le (p : UInt8 → Bool) (s : List UInt8) : (trimBy p s).length ≤ s.length := Nat.le_trans (dropWhile_le p _) (dropR_le p s)

theorem bytes_trimLeftByte_math : ∀ (s0 : List UInt8) (c1 : UInt8), (bytes_trimLeftByte_ok s0 c1 = true) → ∃ n, bytes_trimLeftByte_sh n s0 c1 = bytes_trimLeftByte_ret (bytes_trimLeftByte s0 c1) := fun _ _ h => by cases h
theorem bytes_trimRightByte_math : ∀ (s0 : List UInt8) (c1 : UInt8), (bytes_trimRightByte_ok s0 c1 = true) → ∃ n, bytes_trimRightByte_sh n s0 c1 = bytes_trimRightByte_ret (bytes_trimRightByte s0 c1) := fun _ _ h => by cases h

theorem trimR_loop (k0 : List UInt8 → Option AV) (as : List Bool) : ∀ (d : Nat) (s : List UInt8) (n : Nat), s.length = d → d < n → s.length ≤ 1048576 →
    bytes_trimRightASCII_l1 k0 n s as = k0 (bytes_trimRightASCII s as)
  | d, s, 0, hd, hn, hl => by omega
  | d, s, n + 1, hd, hn, hl => by
    show bytes_trimRightASCII_l1_b k0 (bytes_trimRightASCII_l1 k0 n) n s as = _
    unfold bytes_trimRightASCII_l1_b bytes_trimRightASCII
    rcases List.eq_nil_or_concat s with rfl | ⟨t, x, rfl⟩
    · rfl
    · rw [List.concat_eq_append] at *
      have hlen : (t ++ [x]).length = t.length + 1 := by simp
      have ih := trimR_loop k0 as t.length t n rfl (by omega) (by omega)
      have hg : (t ++ [x]).getD (Int.toNat (((t ++ [x]).length : Int) - 1)) 0 = x := by
        rw [show Int.toNat (((t ++ [x]).length : Int) - 1) = t.length by omega]; simp
      have ht : List.take (Int.toNat (((t ++ [x]).length : Int) - 1)) (t ++ [x]) = t := by
        rw [show Int.toNat (((t ++ [x]).length : Int) - 1) = t.length by omega]; simp
      simp (disch := omega) only [wr, dT, cond_true, Bool.and_true, hg, ht, dropR_snoc]
      cases __bytes_asciiSet__contains as x with
      | true => simpa [bytes_trimRightASCII] using ih
      | false => rfl
theorem bytes_trimRightASCII_math : ∀ (s0 : List UInt8) (as1 : List Bool), (bytes_trimRightASCII_ok s0 as1 = true) → ∃ n, bytes_trimRightASCII_sh n s0 as1 = bytes_trimRightASCII_ret (bytes_trimRightASCII s0 as1) := fun s as h => ⟨s.length + 1, by
  unfold bytes_trimRightASCII_sh
  rw [trimR_loop _ as s.length s _ rfl (by omega) (lenOk_le h)]
  rfl⟩
theorem trimL_loop (k0 : List UInt8 → Option AV) (as : List Bool) : ∀ (d : Nat) (s : List UInt8) (n : Nat), s.length = d → d < n → s.length ≤ 1048576 →
    bytes_trimLeftASCII_l1 k0 n s as = k0 (bytes_trimLeftASCII s as)
  | d, s, 0, hd, hn, hl => by omega
  | d, [], n + 1, hd, hn, hl => rfl
  | d, x :: s, n + 1, hd, hn, hl => by
    show bytes_trimLeftASCII_l1_b k0 (bytes_trimLeftASCII_l1 k0 n) n (x :: s) as = _
    unfold bytes_trimLeftASCII_l1_b bytes_trimLeftASCII
    have hlen : (x :: s).length = s.length + 1 := rfl
    have ih := trimL_loop k0 as s.length s n rfl (by omega) (by omega)
    have hg : (x :: s).getD (Int.toNat 0) 0 = x := rfl
    have ht : List.drop (Int.toNat 1) (List.take (Int.toNat ((x :: s).length : Int)) (x :: s)) = s := by
      rw [tn, List.take_length]; rfl
    simp (disch := omega) only [dT, cond_true, Bool.and_true, hg, ht, List.dropWhile_cons]
    cases __bytes_asciiSet__contains as x with
    | true => simpa [bytes_trimLeftASCII] using ih
    | false => rfl
theorem bytes_trimLeftASCII_math : ∀ (s0 : List UInt8) (as1 : List Bool), (bytes_trimLeftASCII_ok s0 as1 = true) → ∃ n, bytes_trimLeftASCII_sh n s0 as1 = bytes_trimLeftASCII_ret (bytes_trimLeftASCII s0 as1) := fun s as h => ⟨s.length + 1, by
  unfold bytes_trimLeftASCII_sh
  rw [trimL_loop _ as s.length s _ rfl (by omega) (lenOk_le h)]
  unfold bytes_trimLeftASCII_k1_0
  cases hc : bytes_trimLeftASCII s as with
  | nil => rfl
  | cons x r => rfl⟩
theorem set_contains (cs : List UInt8) (c : UInt8) : __bytes_asciiSet__contains (bytes_makeASCIISet cs).1 c = cs.contains c := by
  have := setOf_at cs c (List.replicate 256 false) List.length_replicate
  unfold __bytes_asciiSet__contains bytes_makeASCIISet
  have hc : c.toNat < 256 := c.toNat_lt
  rw [this, List.getD_eq_getElem?_getD, List.getElem?_replicate, if_pos hc]
  exact Bool.or_false _
theorem trimSet (cs s : List UInt8) : bytes_trimLeftASCII (bytes_trimRightASCII s (bytes_makeASCIISet cs).1) (bytes_makeASCIISet cs).1 = bytes_Trim s cs := by
  unfold bytes_trimLeftASCII bytes_trimRightASCII bytes_Trim trimBy
  have e : (fun c => __bytes_asciiSet__contains (bytes_makeASCIISet cs).1 c) = fun c => cs.contains c := funext fun c => set_contains cs c
  rw [e]
theorem bytes_Trim_math : ∀ (s0 : List UInt8) (cutset1 : List UInt8), (bytes_Trim_ok s0 cutset1 = true) → ∃ n, bytes_Trim_sh n s0 cutset1 = bytes_Trim_ret (bytes_Trim s0 cutset1) := fun s cs h => ⟨0, by
  unfold bytes_Trim_ok at h
  simp only [Bool.and_eq_true, decide_eq_true_eq] at h
  obtain ⟨h1, h2, h3, h4⟩ := h
  have hls := lenOk_le h1
  unfold bytes_Trim_sh
  cases s with
  | nil => rfl
  | cons x r =>
    have hcs : (cs == ([] : List UInt8)) = false := by cases cs with
      | nil => simp at h2
      | cons a b => rfl
    have hlen : (x :: r).length = r.length + 1 := rfl
    have hm : bytes_makeASCIISet_ok cs = true := by unfold bytes_makeASCIISet_ok; rw [h3, h4]; rfl
    have hr : bytes_trimLeftASCII_ok (bytes_trimRightASCII (x :: r) (bytes_makeASCIISet cs).1) (bytes_makeASCIISet cs).1 = true := lenOk_of (Nat.le_trans (dropR_le _ _) hls)
    rw [bneI (by omega), hcs, bneI (by omega), hm, show (bytes_makeASCIISet cs).2 = true from rfl, show bytes_trimRightASCII_ok (x :: r) (bytes_makeASCIISet cs).1 = true from h1, hr, trimSet]
    rfl⟩

theorem octet_Lower_math : ∀ (c0 : UInt8), ∃ n, octet_Lower_sh n c0 = octet_Lower_ret (octet_Lower c0) := fun c => ⟨0, by
  unfold octet_Lower_sh octet_Lower
  cases decide ((65 : UInt8) ≤ c) <;> cases decide (c ≤ (90 : UInt8)) <;> rfl⟩
theorem set_map (f : UInt8 → UInt8) (s : List UInt8) (i : Nat) (h : i < s.length) : List.set (s.take i |>.map f |> fun l => l ++ s.drop i) i (f (s.getD i 0)) = (s.take (i + 1)).map f ++ s.drop (i + 1) := by
  have hg := getD_drop (d := (0 : UInt8)) h
  have hl : ((s.take i).map f).length = i := by simp; omega
  rw [hg, List.set_append_right _ _ (by omega), hl, Nat.sub_self, List.set_cons_zero]
  rw [show s.take (i + 1) = s.take i ++ [s.getD i 0] by
    rw [List.take_add_one]; simp [List.getD, h]]
  simp
theorem Fold_loop (k0 : List UInt8 → Option AV) (s : List UInt8) (hl : s.length ≤ 1048576) : ∀ (d i n : Nat), i + d = s.length → d < n →
    octet_Fold_l3 k0 n ((s.take i).map octet_Lower ++ s.drop i) (s.length : Nat) (i : Nat) = k0 (s.map octet_Lower)
  | d, i, 0, hi, hn => by omega
  | 0, i, n + 1, hi, hn => by
    show octet_Fold_l3_b k0 (octet_Fold_l3 k0 n) n _ _ _ = _
    unfold octet_Fold_l3_b
    rw [dF (by omega), cond_false, show i = s.length by omega, List.take_length, List.drop_length, List.append_nil]
  | d + 1, i, n + 1, hi, hn => by
    show octet_Fold_l3_b k0 (octet_Fold_l3 k0 n) n _ _ _ = _
    unfold octet_Fold_l3_b
    have hlt : i < s.length := by omega
    have ih := Fold_loop k0 s hl d (i + 1) n (by omega) (by omega)
    have hlen : ((s.take i).map octet_Lower ++ s.drop i).length = s.length := by simp; omega
    have hg : ((s.take i).map octet_Lower ++ s.drop i).getD i 0 = s.getD i 0 := by
      rw [getD_drop (d := (0 : UInt8)) hlt]
      simp [List.getD, Nat.min_eq_left (Nat.le_of_lt hlt)]
    have hs := set_map octet_Lower s i hlt
    simp only at hs
    simp (disch := omega) only [dT, cond_true, Bool.and_true, tn, i64_succ, hlen, hg]
    rw [hs]
    exact ih
theorem octet_Fold_math : ∀ (s0 : List UInt8), (octet_Fold_ok s0 = true) → ∃ n, octet_Fold_sh n s0 = octet_Fold_ret (octet_Fold s0) := fun s h => ⟨s.length + 1, by
  unfold octet_Fold_sh
  rw [show bytes_Clone_ok s = true from h, show bytes_Clone s = s from rfl]
  exact Fold_loop (octet_Fold_k3_0 (s.length + 1)) s (lenOk_le h) s.length 0 (s.length + 1) (by omega) (by omega)⟩
theorem Count_loop (k0 : Int → Option AV) (s : List UInt8) (k : Int) (hl : s.length ≤ 1048576) : ∀ (d i n m : Nat), i + d = s.length → d < n → m + d ≤ 1048576 →
    octet_Count_l3 k0 n k (m : Nat) s (s.length : Nat) (i : Nat) = k0 ((m + (s.drop i).countP (fun c => octet_Is c k) : Nat) : Int)
  | d, i, 0, m, hi, hn, hm => by omega
  | 0, i, n + 1, m, hi, hn, hm => by
    show octet_Count_l3_b k0 (octet_Count_l3 k0 n) n _ _ _ _ _ = _
    unfold octet_Count_l3_b
    rw [dF (by omega), cond_false, List.drop_eq_nil_of_le (by omega)]
    rfl
  | d + 1, i, n + 1, m, hi, hn, hm => by
    show octet_Count_l3_b k0 (octet_Count_l3 k0 n) n _ _ _ _ _ = _
    unfold octet_Count_l3_b
    have hlt : i < s.length := by omega
    have ih := Count_loop k0 s k hl d (i + 1) n m (by omega) (by omega) (by omega)
    have ih2 := Count_loop k0 s k hl d (i + 1) n (m + 1) (by omega) (by omega) (by omega)
    rw [getD_drop (d := (0 : UInt8)) hlt, List.countP_cons]
    simp (disch := omega) only [dT, cond_true, Bool.and_true, tn, i64_succ]
    cases octet_Is (s.getD i 0) k with
    | true => rw [cond_true, ih2]; congr 2; simp; omega
    | false => rw [cond_false, ih]; congr 2
theorem octet_Count_math : ∀ (s0 : List UInt8) (kinds1 : Int), (octet_Count_ok s0 kinds1 = true) → ∃ n, octet_Count_sh n s0 kinds1 = octet_Count_ret (octet_Count s0 kinds1) := fun s k h => ⟨s.length + 1, by
  have hl := lenOk_le h
  unfold octet_Count_sh
  have := Count_loop (octet_Count_k3_0 (s.length + 1)) s k hl s.length 0 (s.length + 1) 0 (by omega) (by omega) (by omega)
  refine Eq.trans this ?_
  rw [Nat.zero_add, List.drop_zero]
  rfl⟩
theorem countP_all (p : UInt8 → Bool) (s : List UInt8) : (((s.countP p : Nat) : Int) == ((s.length : Nat) : Int)) = s.all p := by
  rw [Bool.eq_iff_iff]
  simp only [beq_iff_eq, List.all_eq_true]
  have := List.countP_eq_length (p := p) (l := s)
  constructor
  · intro h; exact this.1 (by omega)
  · intro h; have := this.2 h; omega
theorem octet_All_math : ∀ (s0 : List UInt8) (kinds1 : Int), (octet_All_ok s0 kinds1 = true) → ∃ n, octet_All_sh n s0 kinds1 = octet_All_ret (octet_All s0 kinds1) := fun s k h => ⟨0, by
  unfold octet_All_sh
  rw [show octet_Count_ok s k = true from h]
  show octet_All_ret (octet_Count s k == ((s.length : Nat) : Int)) = _
  unfold octet_Count
  rw [countP_all]
  rfl⟩
theorem blank_set : (fun c : UInt8 => ([32, 9] : List UInt8).contains c) = blank := by
  funext c
  unfold blank
  simp only [List.contains_cons, List.contains_nil, Bool.or_false]
end Go.Av
