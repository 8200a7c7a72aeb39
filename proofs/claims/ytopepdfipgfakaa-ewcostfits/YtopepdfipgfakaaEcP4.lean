/-
  The shallow readings compute what EcM says: codes.
-/
import Derived.Test.YtopepdfipgfakaaEcP3
namespace Go.Av
theorem qword_One_math : ∀ (c0 : UInt8), ∃ n, qword_One_sh n c0 = qword_One_ret (qword_One c0) := fun c => ⟨0, by
  unfold qword_One_sh qword_One
  cases (c == (32 : UInt8)) <;> cases octet_Is c 128 <;> rfl⟩
theorem one_le (c : UInt8) : (qword_One c).toNat ≤ 3 ∧ qword_One c = ((qword_One c).toNat : Int) := by
  unfold qword_One
  cases (c == (32 : UInt8)) <;> cases octet_Is c 128 <;> decide
theorem qLen_le : ∀ s : List UInt8, qLen s ≤ 3 * s.length
  | [] => Nat.le_refl _
  | c :: r => by
    have h1 := qLen_le r
    have h2 := (one_le c).1
    unfold qLen at h1 ⊢
    simp only [List.map_cons, List.sum_cons, List.length_cons]
    omega
theorem i64_succ' {i : Nat} (h : i < 4611686018427387904) : IntKind.wrap .i64 ((i : Int) + 1) = ((i + 1 : Nat) : Int) := i64_succ h
theorem qLen_loop (k0 : Int → Option AV) (s : List UInt8) (hl : s.length ≤ 4194304) : ∀ (d i n m : Nat), i + d = s.length → d < n → m + 3 * d ≤ 100000000 →
    qword_Len_l3 k0 n (m : Nat) s ((s.length : Nat) : Int) (i : Nat) = k0 ((m + qLen (s.drop i) : Nat) : Int)
  | d, i, 0, m, hi, hn, _ => by omega
  | 0, i, n + 1, m, hi, hn, _ => by
    show qword_Len_l3_b _ _ n _ _ _ _ = _
    unfold qword_Len_l3_b
    rw [dF (by omega), cond_false, List.drop_eq_nil_of_le (by omega)]
    rfl
  | d + 1, i, n + 1, m, hi, hn, hm => by
    show qword_Len_l3_b _ _ n _ _ _ _ = _
    unfold qword_Len_l3_b
    have hlt : i < s.length := by omega
    have h1 := one_le (s.getD i 0)
    rw [getD_drop (d := (0 : UInt8)) hlt]
    simp (disch := omega) only [dT, cond_true, Bool.and_true, tn, i64_succ]
    rw [h1.2, show IntKind.wrap .i64 ((m : Int) + (((qword_One (s.getD i 0)).toNat : Nat) : Int)) = ((m + (qword_One (s.getD i 0)).toNat : Nat) : Int) from by rw [IntWalk.i64_in _ (by omega)]; omega,
      qLen_loop k0 s hl d (i + 1) n _ (by omega) (by omega) (by omega)]
    congr 1
    unfold qLen
    simp only [List.map_cons, List.sum_cons]
    omega
theorem qword_Len_math : ∀ (s0 : List UInt8), (qword_Len_ok s0 = true) → ∃ n, qword_Len_sh n s0 = qword_Len_ret (qword_Len s0) := fun s h => ⟨s.length + 1, by
  unfold qword_Len_ok at h
  have hl : s.length ≤ 4194304 := by simpa using h
  unfold qword_Len_sh
  refine (qLen_loop (qword_Len_k3_0 (s.length + 1)) s hl s.length 0 (s.length + 1) 0 (by omega) (by omega) (by omega)).trans ?_
  rw [List.drop_zero, Nat.zero_add]
  rfl⟩
theorem bcode_Len_math : ∀ (n0 : Int), ∃ n, bcode_Len_sh n n0 = bcode_Len_ret (bcode_Len n0) := fun n => ⟨0, by
  unfold bcode_Len_sh bcode_Len
  cases decide (n < 1) <;> rfl⟩
theorem ref20_one_math : ∀ (c0 : UInt8), ∃ n, ref20_one_sh n c0 = ref20_one_ret (ref20_one c0) := fun c => ⟨0, by
  unfold ref20_one_sh ref20_one
  rw [show ref02_Put_ok ([] : List UInt8) 61 c = true from rfl]
  cases (c == (32 : UInt8)) <;> cases ref01_Is c 128 <;> rfl⟩
theorem one20_len (c : UInt8) : (ref20_one c).length = (qword_One c).toNat := by
  unfold ref20_one qword_One ref02_Put ref01_Is
  cases (c == (32 : UInt8)) <;> cases octet_Is c 128 <;> rfl
theorem lay20_len : ∀ s : List UInt8, (ref20_Lay s).length = qLen s
  | [] => rfl
  | c :: r => by
    have h := lay20_len r
    unfold ref20_Lay qLen at h ⊢
    rw [List.flatMap_cons, List.length_append, h, one20_len]
    rfl
theorem ref20_Lay_math : ∀ (s0 : List UInt8), (ref20_Lay_ok s0 = true) → ∃ n, ref20_Lay_sh n s0 = ref20_Lay_ret (ref20_Lay s0) := fun s h => ⟨s.length + 1, by
  unfold ref20_Lay_ok at h
  have hl : s.length ≤ 4194304 := by simpa using h
  unfold ref20_Lay_sh ref20_Lay
  have := app_rule (t := s) (dv := 0) (f := ref20_one) (q := fun _ => true) (b := 3) (k0 := ref20_Lay_k3_0 (s.length + 1)) (R := none)
    (L := fun n out i => ref20_Lay_l3 (ref20_Lay_k3_0 (s.length + 1)) n s out i) (fun x => by rw [one20_len]; exact (one_le x).1) (fun n i out hi hb => by
      show ref20_Lay_l3_b _ _ n _ _ _ = _
      unfold ref20_Lay_l3_b
      have hp : (ref20_one (s.getD i 0)).length ≤ 3 := by rw [one20_len]; exact (one_le _).1
      simp (disch := omega) only [dT, cond_true, Bool.and_true, tn, i64_succ]) (fun n out => by
      show ref20_Lay_l3_b _ _ n _ _ _ = _
      unfold ref20_Lay_l3_b
      rw [dF (by omega)]
      rfl) s.length 0 (s.length + 1) [] (by omega) (by omega) (by unfold room; simp; omega)
  refine this.trans ?_
  rw [List.drop_zero, List.all_eq_true.2 (fun _ _ => rfl)]
  rfl⟩
/-! ### bits -/
theorem ref14_Digit_math : ∀ (n0 : Int), ∃ n, ref14_Digit_sh n n0 = ref14_Digit_ret (ref14_Digit n0) := fun n => ⟨0, by
  unfold ref14_Digit_sh ref14_Digit
  generalize Int.tmod (IntKind.wrap .i64 (Int.tmod n 64 + 64)) 64 = k
  show _ = ref14_Digit_ret (bif decide (k < 26) then _ else _)
  cases decide (k < 26) <;> cases decide (k < 52) <;> cases decide (k < 62) <;> cases (k == 62) <;> rfl⟩
theorem number_loop (k0 : Int → Option AV) (l : List Int) (hl : l.length ≤ 1048576) : ∀ (d i n : Nat) (m : Int), i + d = l.length → d < n →
    ref14_number_l3 k0 n l m (i : Nat) = k0 ((l.drop i).foldl (fun n b => IntKind.wrap .i64 (IntKind.wrap .i64 (2 * n) + b)) m)
  | d, i, 0, m, hi, hn => by omega
  | 0, i, n + 1, m, hi, hn => by
    show ref14_number_l3_b _ _ n _ _ _ = _
    unfold ref14_number_l3_b
    rw [dF (by omega), cond_false, List.drop_eq_nil_of_le (by omega)]
    rfl
  | d + 1, i, n + 1, m, hi, hn => by
    show ref14_number_l3_b _ _ n _ _ _ = _
    unfold ref14_number_l3_b
    have hlt : i < l.length := by omega
    rw [getD_drop (d := (0 : Int)) hlt]
    simp (disch := omega) only [dT, cond_true, Bool.and_true, tn, i64_succ]
    rw [number_loop k0 l hl d (i + 1) n _ (by omega) (by omega)]
    rfl
theorem ref14_number_math : ∀ (l0 : List Int), (ref14_number_ok l0 = true) → ∃ n, ref14_number_sh n l0 = ref14_number_ret (ref14_number l0) := fun l h => ⟨l.length + 1, by
  unfold ref14_number_ok at h
  have hl : l.length ≤ 1048576 := by simpa using h
  unfold ref14_number_sh ref14_number
  refine (number_loop (ref14_number_k3_0 (l.length + 1)) l hl l.length 0 (l.length + 1) 0 (by omega) (by omega)).trans ?_
  rw [List.drop_zero]
  rfl⟩
theorem bits_inner (k2 : List UInt8 → List Int → Int → Option AV) (s : List UInt8) (i : Nat) (hi : i < s.length) (n : Nat) (hn : 8 < n) (out : List Int) (hb : out.length + 8 ≤ room) :
    ref14_Bits_l6 k2 n s out (i : Nat) 7 = k2 s (out ++ bitsOf (s.getD i 0)) (i : Nat) := by
  obtain ⟨m, rfl⟩ : ∃ m, n = m + 9 := ⟨n - 9, by omega⟩
  have step : ∀ (n k : Nat) (out : List Int), k ≤ 7 → out.length + 1 ≤ room → ref14_Bits_l6 k2 (n + 1) s out (i : Nat) ((k : Nat) : Int) = ref14_Bits_l6 k2 n s (out ++ [bit8 (s.getD i 0) k]) (i : Nat) ((k : Int) - 1) := fun n k out hk hr => by
    show ref14_Bits_l6_b _ _ n _ _ _ _ = _
    unfold ref14_Bits_l6_b bit8
    simp (disch := (first | omega | (simp; omega))) only [dT, cond_true, Bool.and_true, tn]
    rw [IntWalk.i64_in ((k : Int) - 1) (by omega)]
  rw [show (7 : Int) = ((7 : Nat) : Int) from rfl, step _ 7 _ (by omega) (by omega), show (((7 : Nat) : Int) - 1) = ((6 : Nat) : Int) from rfl,
    step _ 6 _ (by omega) (by simp; omega), show (((6 : Nat) : Int) - 1) = ((5 : Nat) : Int) from rfl, step _ 5 _ (by omega) (by simp; omega), show (((5 : Nat) : Int) - 1) = ((4 : Nat) : Int) from rfl,
    step _ 4 _ (by omega) (by simp; omega), show (((4 : Nat) : Int) - 1) = ((3 : Nat) : Int) from rfl, step _ 3 _ (by omega) (by simp; omega), show (((3 : Nat) : Int) - 1) = ((2 : Nat) : Int) from rfl,
    step _ 2 _ (by omega) (by simp; omega), show (((2 : Nat) : Int) - 1) = ((1 : Nat) : Int) from rfl, step _ 1 _ (by omega) (by simp; omega), show (((1 : Nat) : Int) - 1) = ((0 : Nat) : Int) from rfl,
    step _ 0 _ (by omega) (by simp; omega)]
  show ref14_Bits_l6_b _ _ m _ _ _ _ = _
  unfold ref14_Bits_l6_b
  rw [show decide ((0 : Int) ≤ ((0 : Nat) : Int) - 1) = false from rfl, cond_false]
  simp only [List.append_assoc]
  rfl
theorem bits_loop (k0 : List Int → Option AV) (s : List UInt8) (hl : s.length ≤ 4194304) : ∀ (d i n : Nat) (out : List Int), i + d = s.length → d + 9 < n → out.length + 8 * d ≤ room →
    ref14_Bits_l3 k0 n s out (i : Nat) = k0 (out ++ (s.drop i).flatMap bitsOf)
  | d, i, 0, out, hi, hn, _ => by omega
  | 0, i, n + 1, out, hi, hn, _ => by
    show ref14_Bits_l3_b _ _ n _ _ _ = _
    unfold ref14_Bits_l3_b
    rw [dF (by omega), cond_false, List.drop_eq_nil_of_le (by omega)]
    simp
  | d + 1, i, n + 1, out, hi, hn, hb => by
    show ref14_Bits_l3_b _ _ n _ _ _ = _
    unfold ref14_Bits_l3_b
    have hlt : i < s.length := by omega
    rw [dT (by omega), cond_true, bits_inner _ s i hlt n (by omega) out (by omega)]
    unfold ref14_Bits_k6_2
    rw [i64_succ (by omega), bits_loop k0 s hl d (i + 1) n _ (by omega) (by omega) (by rw [List.length_append]; simp [bitsOf]; omega), getD_drop (d := (0 : UInt8)) hlt, List.flatMap_cons, List.append_assoc]
theorem ref14_Bits_math : ∀ (s0 : List UInt8), (ref14_Bits_ok s0 = true) → ∃ n, ref14_Bits_sh n s0 = ref14_Bits_ret (ref14_Bits s0) := fun s h => ⟨s.length + 10, by
  unfold ref14_Bits_ok at h
  have hl : s.length ≤ 4194304 := by simpa using h
  unfold ref14_Bits_sh ref14_Bits
  refine (bits_loop (ref14_Bits_k3_0 (s.length + 10)) s hl s.length 0 (s.length + 10) [] (by omega) (by omega) (by unfold room; simp; omega)).trans ?_
  rw [List.drop_zero]
  rfl⟩
/-! ### filled up -/
theorem pad_rule {α : Type} {m : Nat} (hm : 0 < m) (hm2 : m ≤ 100) {x : α} {k0 : List α → Option AV} {L : Nat → List α → Option AV}
    (hL : ∀ (n : Nat) (l : List α), l.length + 1 ≤ room → L (n + 1) l = bif Int.tmod ((l.length : Nat) : Int) (m : Int) != 0 then L n (l ++ [x]) else k0 l) :
    ∀ (d n : Nat) (l : List α), lacking l.length m = d → d < n → l.length + d + 1 ≤ room → L n l = k0 (l ++ List.replicate d x)
  | d, 0, l, _, hn, _ => by omega
  | d, n + 1, l, hd, hn, hr => by
    have hlt : l.length % m < m := Nat.mod_lt _ hm
    have hdm : d < m := by rw [← hd]; exact Nat.mod_lt _ hm
    rw [hL n l (by omega), show Int.tmod ((l.length : Nat) : Int) (m : Int) = ((l.length % m : Nat) : Int) from rfl]
    unfold lacking at hd
    by_cases h0 : l.length % m = 0
    · rw [h0, Nat.sub_zero, Nat.mod_self] at hd
      subst hd
      rw [h0]
      simp
    · rw [Nat.mod_eq_of_lt (by omega)] at hd
      have h1 : (((l.length % m : Nat) : Int) != 0) = true := bneT (by omega)
      rw [h1, cond_true]
      obtain ⟨e, rfl⟩ : ∃ e, d = e + 1 := ⟨d - 1, by omega⟩
      have h2 : lacking (l ++ [x]).length m = e := by
        unfold lacking
        rw [List.length_append, List.length_singleton, Nat.add_mod]
        by_cases hm1 : m = 1
        · subst hm1; omega
        · rw [Nat.mod_eq_of_lt (show 1 < m by omega)]
          by_cases h3 : l.length % m + 1 = m
          · rw [h3, Nat.mod_self, Nat.sub_zero, Nat.mod_self]; omega
          · rw [Nat.mod_eq_of_lt (show l.length % m + 1 < m by omega), Nat.mod_eq_of_lt (by omega)]; omega
      rw [pad_rule hm hm2 hL e n (l ++ [x]) h2 (by omega) (by rw [List.length_append, List.length_singleton]; omega), List.append_assoc]
      rfl
theorem pad_len {m n : Nat} (hm : 0 < m) : (n + lacking n m) % m = 0 ∧ lacking n m < m := by
  unfold lacking
  have h := Nat.mod_lt n hm
  refine ⟨?_, Nat.mod_lt _ hm⟩
  by_cases h0 : n % m = 0
  · rw [h0, Nat.sub_zero, Nat.mod_self, Nat.add_zero, h0]
  · rw [Nat.mod_eq_of_lt (show m - n % m < m by omega), Nat.add_mod, Nat.mod_eq_of_lt (show m - n % m < m by omega), show n % m + (m - n % m) = m by omega, Nat.mod_self]
theorem bits_len : ∀ s : List UInt8, (ref14_Bits s).length = 8 * s.length
  | [] => rfl
  | c :: r => by
    have h := bits_len r
    unfold ref14_Bits at h ⊢
    rw [List.flatMap_cons, List.length_append, h]
    simp only [bitsOf, List.length_cons, List.length_nil]
    omega
theorem sixes_len : ∀ (n : Nat) (l : List Int), (sixes n l).length = n
  | 0, _ => rfl
  | n + 1, l => by
    unfold sixes
    rw [List.length_cons, sixes_len n]
theorem bare_loop (k2 : List UInt8 → Option AV) (l : List Int) (k : Nat) (hk : l.length = 6 * k) (hl : l.length ≤ 100000000) : ∀ (d i n : Nat) (out : List UInt8), i + d = k → d < n → out.length + d ≤ room →
    ref14_Bare_l6 k2 n l out ((6 * i : Nat) : Int) = k2 (out ++ sixes d (l.drop (6 * i)))
  | d, i, 0, out, hi, hn, _ => by omega
  | 0, i, n + 1, out, hi, hn, _ => by
    show ref14_Bare_l6_b _ _ n _ _ _ = _
    unfold ref14_Bare_l6_b
    rw [dF (by omega), cond_false]
    unfold sixes
    rw [List.append_nil]
  | d + 1, i, n + 1, out, hi, hn, hb => by
    show ref14_Bare_l6_b _ _ n _ _ _ = _
    unfold ref14_Bare_l6_b
    have e6 : IntKind.wrap .i64 (((6 * i : Nat) : Int) + 6) = ((6 * (i + 1) : Nat) : Int) := by rw [IntWalk.i64_in _ (by omega)]; omega
    rw [e6]
    have ed : List.drop (6 * i) (List.take (6 * (i + 1)) l) = (l.drop (6 * i)).take 6 := by
      rw [List.drop_take, show 6 * (i + 1) - 6 * i = 6 by omega]
    simp (disch := (first | omega | (simp; omega))) only [dT, cond_true, Bool.and_true, tn]
    rw [ed, show ref14_number_ok ((l.drop (6 * i)).take 6) = true from by unfold ref14_number_ok; rw [dT]; rw [List.length_take]; omega, cond_true,
      bare_loop k2 l k hk hl d (i + 1) n _ (by omega) (by omega) (by simp; omega), List.append_assoc]
    show _ = k2 (out ++ (ref14_Digit (ref14_number ((l.drop (6 * i)).take 6)) :: sixes d ((l.drop (6 * i)).drop 6)))
    rw [List.drop_drop]
    rfl
theorem ref14_Bare_math : ∀ (s0 : List UInt8), (ref14_Bare_ok s0 = true) → ∃ n, ref14_Bare_sh n s0 = ref14_Bare_ret (ref14_Bare s0) := fun s h => ⟨(padTo 6 0 (ref14_Bits s)).length / 6 + 20, by
  have h' := h
  unfold ref14_Bare_ok at h
  have hl : s.length ≤ 4194304 := by simpa using h
  have hb := bits_len s
  have hp := pad_len (m := 6) (n := (ref14_Bits s).length) (by omega)
  unfold ref14_Bare_sh ref14_Bare
  rw [show ref14_Bits_ok s = true from h', Bool.true_and, cond_true]
  generalize hN : (padTo 6 0 (ref14_Bits s)).length / 6 + 20 = N
  have hpl : (padTo 6 0 (ref14_Bits s)).length = (ref14_Bits s).length + lacking (ref14_Bits s).length 6 := by unfold padTo; simp
  refine (pad_rule (m := 6) (x := (0 : Int)) (k0 := ref14_Bare_k2_0 N) (L := fun n l => ref14_Bare_l2 (ref14_Bare_k2_0 N) n l) (by omega) (by omega) (fun n l hr => ?_) _ N (ref14_Bits s) rfl (by omega) (by unfold room; omega)).trans ?_
  · show ref14_Bare_l2_b _ _ n _ = _
    unfold ref14_Bare_l2_b
    rw [dT (show l.length + ([(0 : Int)] : List Int).length ≤ room by simp; omega)]
    rfl
  · show ref14_Bare_k2_0 N (padTo 6 0 (ref14_Bits s)) = _
    unfold ref14_Bare_k2_0
    refine (bare_loop (ref14_Bare_k6_2 N) (padTo 6 0 (ref14_Bits s)) ((padTo 6 0 (ref14_Bits s)).length / 6) (by omega) (by omega) ((padTo 6 0 (ref14_Bits s)).length / 6) 0 N [] (by omega) (by omega) (by unfold room; simp; omega)).trans ?_
    rfl⟩
theorem bare_len (s : List UInt8) : (ref14_Bare s).length = (8 * s.length + lacking (8 * s.length) 6) / 6 := by
  unfold ref14_Bare
  rw [sixes_len]
  unfold padTo
  rw [List.length_append, List.length_replicate, bits_len]
theorem ref14_Lay_math : ∀ (s0 : List UInt8), (ref14_Lay_ok s0 = true) → ∃ n, ref14_Lay_sh n s0 = ref14_Lay_ret (ref14_Lay s0) := fun s h => ⟨20, by
  have h' := h
  unfold ref14_Lay_ok at h
  have hl : s.length ≤ 4194304 := by simpa using h
  have hb := bare_len s
  have hp := pad_len (m := 6) (n := 8 * s.length) (by omega)
  have hq := pad_len (m := 4) (n := (ref14_Bare s).length) (by omega)
  unfold ref14_Lay_sh ref14_Lay
  rw [show ref14_Bare_ok s = true from h', Bool.true_and, cond_true]
  refine (pad_rule (m := 4) (x := (61 : UInt8)) (k0 := ref14_Lay_k2_0 20) (L := fun n l => ref14_Lay_l2 (ref14_Lay_k2_0 20) n l) (by omega) (by omega) (fun n l hr => ?_) _ 20 (ref14_Bare s) rfl (by omega) (by unfold room; omega)).trans ?_
  · show ref14_Lay_l2_b _ _ n _ = _
    unfold ref14_Lay_l2_b
    rw [dT (show l.length + ([(61 : UInt8)] : List UInt8).length ≤ room by simp; omega)]
    rfl
  · rfl⟩
/-- How long a text of so many octets is in the first code. -/
def bLen (n : Nat) : Nat := 4 * ((n + 2) / 3)
theorem lay14_len (s : List UInt8) : (ref14_Lay s).length = bLen s.length := by
  unfold ref14_Lay padTo bLen
  rw [List.length_append, List.length_replicate, bare_len]
  unfold lacking
  omega
theorem bcode_of (n : Nat) (h : n ≤ 100000000) : bcode_Len (n : Int) = (bLen n : Int) := by
  unfold bcode_Len bLen
  by_cases h0 : n = 0
  · subst h0; rfl
  · rw [dF (by omega), cond_false, IntWalk.i64_in ((n : Int) - 1) (by omega), Int.tdiv_eq_ediv_of_nonneg (by omega), IntWalk.i64_in (((n : Int) - 1) / 3) (by omega), IntWalk.i64_in (((n : Int) - 1) / 3 * 4) (by omega), IntWalk.i64_in _ (by omega)]
    omega
end Go.Av
