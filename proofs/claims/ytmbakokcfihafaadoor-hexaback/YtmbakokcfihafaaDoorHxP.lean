/-
  The shallow readings of the layer 'hexa' compute what HxM says: readings, layings; the other two laws.
-/
import Derived.Test.YtmbakokcfihafaaDoorHxP4
namespace Go.Av

theorem hexa_Read_l2_loop (ret : List UInt8 → Int → Option AV) (k0 : List UInt8 → Option AV) (s : List UInt8) (hl : s.length ≤ 1048576) : ∀ (d i n : Nat), i + d = s.length → d < n →
    hexa_Read_l2 ret k0 n s (s.length : Nat) (i : Nat) = bif hexAll (s.drop i) then k0 s else ret [] 3
  | d, i, 0, hi, hn => by omega
  | 0, i, n + 1, hi, hn => by
    show hexa_Read_l2_b ret k0 (hexa_Read_l2 ret k0 n) n s _ _ = _
    unfold hexa_Read_l2_b
    rw [decide_eq_false (by omega), cond_false, List.drop_eq_nil_of_le (by omega)]
    rfl
  | d + 1, i, n + 1, hi, hn => by
    show hexa_Read_l2_b ret k0 (hexa_Read_l2 ret k0 n) n s _ _ = _
    unfold hexa_Read_l2_b
    have hlt : i < s.length := by omega
    rw [dec_lt, decide_eq_true hlt, cond_true, dec_nonneg, Bool.true_and, cond_true, toNat_nat, i64_succ (by omega), hexa_Read_l2_loop ret k0 s hl d (i + 1) n (by omega) (by omega), getD_drop (d := 0) hlt]
    unfold hexAll
    rw [List.all_cons]
    cases (hexa_Value (s.getD i 0)).2 <;> rfl

theorem ref02_Read_l2_loop (ret : List UInt8 → Int → Option AV) (k0 : List UInt8 → Option AV) (s : List UInt8) (hl : s.length ≤ 1048576) : ∀ (d i n : Nat), i + d = s.length → d < n →
    ref02_Read_l2 ret k0 n s (i : Nat) = bif hexAll (s.drop i) then k0 s else ret [] 3
  | d, i, 0, hi, hn => by omega
  | 0, i, n + 1, hi, hn => by
    show ref02_Read_l2_b ret k0 (ref02_Read_l2 ret k0 n) n s _ = _
    unfold ref02_Read_l2_b
    rw [decide_eq_false (by omega), cond_false, List.drop_eq_nil_of_le (by omega)]
    rfl
  | d + 1, i, n + 1, hi, hn => by
    show ref02_Read_l2_b ret k0 (ref02_Read_l2 ret k0 n) n s _ = _
    unfold ref02_Read_l2_b
    have hlt : i < s.length := by omega
    rw [dec_lt, decide_eq_true hlt, cond_true, dec_nonneg, Bool.true_and, cond_true, toNat_nat, i64_succ (by omega), ref02_Read_l2_loop ret k0 s hl d (i + 1) n (by omega) (by omega), getD_drop (d := 0) hlt, values]
    unfold hexAll
    rw [List.all_cons]
    cases (hexa_Value (s.getD i 0)).2 <;> rfl

theorem hexa_Read_l12_loop (k2 : List UInt8 → Option AV) (s : List UInt8) (hl : s.length ≤ 1048576) (m : Nat) (hm : 2 * m = s.length) : ∀ (d i n : Nat) (out : List UInt8), i + d = m → d < n → out.length + d ≤ 1048576 →
    hexa_Read_l12 k2 n s out (m : Nat) (i : Nat) = k2 (out ++ hexPairs (s.drop (2 * i)))
  | d, i, 0, out, hi, hn, ho => by omega
  | 0, i, n + 1, out, hi, hn, ho => by
    show hexa_Read_l12_b k2 (hexa_Read_l12 k2 n) n s out _ _ = _
    unfold hexa_Read_l12_b
    rw [decide_eq_false (by omega), cond_false, List.drop_eq_nil_of_le (by omega)]
    simp [hexPairs]
  | d + 1, i, n + 1, out, hi, hn, ho => by
    show hexa_Read_l12_b k2 (hexa_Read_l12 k2 n) n s out _ _ = _
    unfold hexa_Read_l12_b
    have h1 : 2 * i < s.length := by omega
    have h2 : 2 * i + 1 < s.length := by omega
    rw [dec_lt, decide_eq_true (show i < m by omega), cond_true, show IntKind.wrap .i64 ((2 : Int) * (i : Int)) = ((2 * i : Nat) : Int) by rw [IntWalk.i64_in _ (by omega)]; omega, i64_succ (by omega), dec_nonneg, dec_nonneg, dec_lt, dec_lt, decide_eq_true h1, decide_eq_true h2,
      toNat_nat, toNat_nat, i64_succ (by omega), decide_eq_true (by unfold room; simp; omega), hexa_Read_l12_loop k2 s hl m hm d (i + 1) n _ (by omega) (by omega) (by simp; omega), getD_drop (d := 0) h1, getD_drop (d := 0) h2, List.append_assoc]
    rfl

theorem hexAll_at {s : List UInt8} (h : hexAll s = true) {i : Nat} (hi : i < s.length) : (hexa_Value (s.getD i 0)).2 = true := by
  unfold hexAll at h
  rw [List.all_eq_true] at h
  exact h _ (by simp [List.getD, hi])

theorem pair_sum (a b : UInt8) (ha : (hexa_Value a).2 = true) (hb : (hexa_Value b).2 = true) :
    UInt8.ofNat (Int.toNat (IntKind.wrap .u8 (IntKind.wrap .i64 ((IntKind.wrap .i64 ((16 : Int) * ((hexa_Value a).1))) + ((hexa_Value b).1))))) = (hexa_pair a b).1 := by
  rw [two_fins (P := fun x y => UInt8.ofNat (Int.toNat (IntKind.wrap .u8 (IntKind.wrap .i64 ((IntKind.wrap .i64 ((16 : Int) * x)) + y)))) = UInt8.ofNat (Int.toNat (x * 16 + y))) sum_small (value_range a) (value_range b)]
  unfold hexa_pair
  rw [ha, hb]
  rfl

theorem ref02_Read_l11_loop (k2 : List UInt8 → Option AV) (s : List UInt8) (hl : s.length ≤ 1048576) (ha : hexAll s = true) (m : Nat) (hm : 2 * m = s.length) : ∀ (d i n : Nat) (out : List UInt8), i + d = m → d < n → out.length + d ≤ 1048576 →
    ref02_Read_l11 k2 n s out ((2 * i : Nat) : Int) = k2 (out ++ hexPairs (s.drop (2 * i)))
  | d, i, 0, out, hi, hn, ho => by omega
  | 0, i, n + 1, out, hi, hn, ho => by
    show ref02_Read_l11_b k2 (ref02_Read_l11 k2 n) n s out _ = _
    unfold ref02_Read_l11_b
    rw [decide_eq_false (by omega), cond_false, List.drop_eq_nil_of_le (by omega)]
    simp [hexPairs]
  | d + 1, i, n + 1, out, hi, hn, ho => by
    show ref02_Read_l11_b k2 (ref02_Read_l11 k2 n) n s out _ = _
    unfold ref02_Read_l11_b
    have h1 : 2 * i < s.length := by omega
    have h2 : 2 * i + 1 < s.length := by omega
    rw [dec_lt, decide_eq_true h1, cond_true, dec_nonneg, i64_succ (by omega), dec_nonneg, dec_lt, decide_eq_true h2, toNat_nat, toNat_nat, values, values, pair_sum _ _ (hexAll_at ha h1) (hexAll_at ha h2),
      decide_eq_true (by unfold room; simp; omega), show IntKind.wrap .i64 (((2 * i : Nat) : Int) + 2) = ((2 * (i + 1) : Nat) : Int) by rw [IntWalk.i64_in _ (by omega)]; omega,
      ref02_Read_l11_loop k2 s hl ha m hm d (i + 1) n _ (by omega) (by omega) (by simp; omega), getD_drop (d := 0) h1, getD_drop (d := 0) h2, List.append_assoc]
    rfl

theorem tmod2 (n : Nat) : (Int.tmod ((n : Nat) : Int) 2 != 0) = !(n % 2 == 0) := by
  rw [Int.tmod_eq_emod_of_nonneg (by omega)]
  rcases Nat.mod_two_eq_zero_or_one n with h | h
  · have : ((n : Nat) : Int) % 2 = 0 := by omega
    rw [this, h]; rfl
  · have : ((n : Nat) : Int) % 2 = 1 := by omega
    rw [this, h]; rfl

theorem hexa_Read_math : ∀ (s0 : List UInt8), (hexa_Read_ok s0 = true) → ∃ n, hexa_Read_sh n s0 = hexa_Read_ret (hexa_Read s0).1 (hexa_Read s0).2 := fun s h => ⟨s.length + 1, by
  have hl := lenOk_le h
  have h1 := hexa_Read_l2_loop hexa_Read_ret (hexa_Read_k2_0 (s.length + 1)) s hl s.length 0 (s.length + 1) (by omega) (by omega)
  unfold hexa_Read_sh
  refine h1.trans ?_
  unfold hexa_Read
  show (bif hexAll s then hexa_Read_k2_0 (s.length + 1) s else hexa_Read_ret [] 3) = _
  cases hexAll s with
  | false => rfl
  | true =>
    rw [cond_true, cond_true]
    unfold hexa_Read_k2_0
    rw [tmod2]
    cases hp : (s.length % 2 == 0) with
    | false => rfl
    | true =>
      have hp' : s.length % 2 = 0 := by simpa using hp
      have e : IntKind.wrap .i64 (Int.tdiv ((s.length : Nat) : Int) 2) = ((s.length / 2 : Nat) : Int) := by
        rw [Int.tdiv_eq_ediv_of_nonneg (by omega), IntWalk.i64_in _ (by omega)]
        omega
      rw [Bool.not_true, cond_false, cond_true, e]
      exact hexa_Read_l12_loop (hexa_Read_k12_2 (s.length + 1)) s hl (s.length / 2) (by omega) (s.length / 2) 0 (s.length + 1) [] (by omega) (by omega) (by simp; omega)⟩

theorem ref02_Read_math : ∀ (s0 : List UInt8), (ref02_Read_ok s0 = true) → ∃ n, ref02_Read_sh n s0 = ref02_Read_ret (ref02_Read s0).1 (ref02_Read s0).2 := fun s h => ⟨s.length + 1, by
  have hl := lenOk_le h
  have h1 := ref02_Read_l2_loop ref02_Read_ret (ref02_Read_k2_0 (s.length + 1)) s hl s.length 0 (s.length + 1) (by omega) (by omega)
  unfold ref02_Read_sh
  refine h1.trans ?_
  unfold ref02_Read hexa_Read
  show (bif hexAll s then ref02_Read_k2_0 (s.length + 1) s else ref02_Read_ret [] 3) = _
  cases ha : hexAll s with
  | false => rfl
  | true =>
    rw [cond_true, cond_true]
    unfold ref02_Read_k2_0
    rw [tmod2]
    cases hp : (s.length % 2 == 0) with
    | false => rfl
    | true =>
      have hp' : s.length % 2 = 0 := by simpa using hp
      rw [Bool.not_true, cond_false, cond_true]
      exact ref02_Read_l11_loop (ref02_Read_k11_2 (s.length + 1)) s hl ha (s.length / 2) (by omega) (s.length / 2) 0 (s.length + 1) [] (by omega) (by omega) (by simp; omega)⟩

theorem hexa_Lay_loop (k0 : List UInt8 → Option AV) (s : List UInt8) (hl : s.length ≤ 1000) : ∀ (d i n : Nat) (out : List UInt8), i + d = s.length → d < n → out.length + 2 * d ≤ 1048576 →
    hexa_Lay_l3 k0 n out s (s.length : Nat) (i : Nat) = k0 (out ++ (s.drop i).flatMap hexa_both)
  | d, i, 0, out, hi, hn, ho => by omega
  | 0, i, n + 1, out, hi, hn, ho => by
    show hexa_Lay_l3_b k0 (hexa_Lay_l3 k0 n) n out s _ _ = _
    unfold hexa_Lay_l3_b
    rw [decide_eq_false (by omega), cond_false, List.drop_eq_nil_of_le (by omega)]
    simp
  | d + 1, i, n + 1, out, hi, hn, ho => by
    show hexa_Lay_l3_b k0 (hexa_Lay_l3 k0 n) n out s _ _ = _
    unfold hexa_Lay_l3_b
    have hlt : i < s.length := by omega
    have hb : ∀ c, (hexa_both c).length = 2 := fun c => rfl
    rw [dec_lt, decide_eq_true hlt, cond_true, dec_nonneg, Bool.true_and, cond_true, toNat_nat, decide_eq_true (by unfold room; rw [hb]; omega), i64_succ (by omega), hexa_Lay_loop k0 s hl d (i + 1) n _ (by omega) (by omega) (by rw [List.length_append, hb]; omega),
      getD_drop (d := 0) hlt, List.flatMap_cons, List.append_assoc]
    rfl
theorem hexa_Lay_math : ∀ (s0 : List UInt8), (hexa_Lay_ok s0 = true) → ∃ n, hexa_Lay_sh n s0 = hexa_Lay_ret (hexa_Lay s0) := fun s h => ⟨s.length + 1, by
  have hl : s.length ≤ 1000 := by simpa [hexa_Lay_ok] using h
  exact hexa_Lay_loop (hexa_Lay_k3_0 (s.length + 1)) s hl s.length 0 (s.length + 1) [] (by omega) (by omega) (by simp; omega)⟩

theorem ref02_Lay_loop (k0 : List UInt8 → Option AV) (s : List UInt8) (hl : s.length ≤ 1000) : ∀ (d i n : Nat) (out : List UInt8), i + d = s.length → d < n → out.length + 2 * d ≤ 1048576 →
    ref02_Lay_l3 k0 n s out (i : Nat) = k0 (out ++ (s.drop i).flatMap hexa_both)
  | d, i, 0, out, hi, hn, ho => by omega
  | 0, i, n + 1, out, hi, hn, ho => by
    show ref02_Lay_l3_b k0 (ref02_Lay_l3 k0 n) n s out _ = _
    unfold ref02_Lay_l3_b
    rw [decide_eq_false (by omega), cond_false, List.drop_eq_nil_of_le (by omega)]
    simp
  | d + 1, i, n + 1, out, hi, hn, ho => by
    show ref02_Lay_l3_b k0 (ref02_Lay_l3 k0 n) n s out _ = _
    unfold ref02_Lay_l3_b
    have hlt : i < s.length := by omega
    have hb : ∀ c, (hexa_both c).length = 2 := fun c => rfl
    obtain ⟨g1, g2, _, _⟩ := refoks (s.getD i 0)
    rw [dec_lt, decide_eq_true hlt, cond_true, dec_nonneg, Bool.true_and, cond_true, cond_true, toNat_nat, g1, g2, refboths (s.getD i 0), decide_eq_true (by unfold room; rw [hb]; omega), i64_succ (by omega), ref02_Lay_loop k0 s hl d (i + 1) n _ (by omega) (by omega) (by rw [List.length_append, hb]; omega),
      getD_drop (d := 0) hlt, List.flatMap_cons, List.append_assoc]
    rfl
theorem ref02_Lay_math : ∀ (s0 : List UInt8), (ref02_Lay_ok s0 = true) → ∃ n, ref02_Lay_sh n s0 = ref02_Lay_ret (ref02_Lay s0) := fun s h => ⟨s.length + 1, by
  have hl : s.length ≤ 1000 := by simpa [ref02_Lay_ok] using h
  exact ref02_Lay_loop (ref02_Lay_k3_0 (s.length + 1)) s hl s.length 0 (s.length + 1) [] (by omega) (by omega) (by simp; omega)⟩

theorem ref01_Fold_loop (k0 : List UInt8 → Option AV) (s : List UInt8) (hl : s.length ≤ 1048576) : ∀ (d i n : Nat) (out : List UInt8), i + d = s.length → d < n → out.length + d ≤ 1048576 →
    ref01_Fold_l3 k0 n s out (i : Nat) = k0 (out ++ (s.drop i).map ref01_Lower)
  | d, i, 0, out, hi, hn, ho => by omega
  | 0, i, n + 1, out, hi, hn, ho => by
    show ref01_Fold_l3_b k0 (ref01_Fold_l3 k0 n) n s out _ = _
    unfold ref01_Fold_l3_b
    rw [decide_eq_false (by omega), cond_false, List.drop_eq_nil_of_le (by omega)]
    simp
  | d + 1, i, n + 1, out, hi, hn, ho => by
    show ref01_Fold_l3_b k0 (ref01_Fold_l3 k0 n) n s out _ = _
    unfold ref01_Fold_l3_b
    have hlt : i < s.length := by omega
    rw [dec_lt, decide_eq_true hlt, cond_true, dec_nonneg, Bool.true_and, cond_true, toNat_nat, decide_eq_true (by unfold room; simp; omega), i64_succ (by omega), ref01_Fold_loop k0 s hl d (i + 1) n _ (by omega) (by omega) (by simp; omega),
      getD_drop (d := 0) hlt, List.map_cons, List.append_assoc]
    rfl
theorem ref01_Fold_math : ∀ (s0 : List UInt8), (ref01_Fold_ok s0 = true) → ∃ n, ref01_Fold_sh n s0 = ref01_Fold_ret (ref01_Fold s0) := fun s h => ⟨s.length + 1, by
  exact ref01_Fold_loop (ref01_Fold_k3_0 (s.length + 1)) s (lenOk_le h) s.length 0 (s.length + 1) [] (by omega) (by omega) (by simp; have := lenOk_le h; omega)⟩

/-! ### The laws -/

def isSmall (c : UInt8) : Bool := bif decide ((97 : UInt8) ≤ c) then decide (c ≤ (102 : UInt8)) else false
theorem small_in : ∀ i : Fin 256, ([97, 98, 99, 100, 101, 102] : List UInt8).contains (UInt8.ofNat i.val) = isSmall (UInt8.ofNat i.val) := by decide +kernel
theorem any_some (cs : List UInt8) : ∀ (s : List UInt8) (i : Int), 0 ≤ i → decide (0 ≤ anyAt cs s i) = s.any fun c => cs.contains c
  | [], i, h => rfl
  | x :: s, i, h => by
    show decide (0 ≤ bif cs.contains x then i else anyAt cs s (i + 1)) = (cs.contains x || s.any fun c => cs.contains c)
    rw [← any_some cs s (i + 1) (by omega)]
    cases cs.contains x with
    | true => rw [cond_true, decide_eq_true h]; rfl
    | false => rfl
theorem capital_eq (s : List UInt8) : hexa_Capital s = !(s.any isSmall) := by
  unfold hexa_Capital bytes_ContainsAny bytes_IndexAny
  rw [any_some _ s 0 (by omega)]
  congr 2
  funext c
  exact of_fin (P := fun c => ([97, 98, 99, 100, 101, 102] : List UInt8).contains c = isSmall c) small_in c

theorem reads_loop (k0 : List UInt8 → List UInt8 → Int → List UInt8 → Int → Bool → Option AV) (s a b : List UInt8) (e f : Int) (hl : s.length ≤ 1048576) : ∀ (d i n : Nat) (small : Bool), i + d = s.length → d < n →
    law02_HexaReads_l7 k0 n s a e b f small s (s.length : Nat) (i : Nat) = k0 s a e b f (small || (s.drop i).any isSmall)
  | d, i, 0, small, hi, hn => by omega
  | 0, i, n + 1, small, hi, hn => by
    show law02_HexaReads_l7_b k0 (law02_HexaReads_l7 k0 n) n s a e b f small s _ _ = _
    unfold law02_HexaReads_l7_b
    rw [decide_eq_false (by omega), cond_false, List.drop_eq_nil_of_le (by omega)]
    simp
  | d + 1, i, n + 1, small, hi, hn => by
    show law02_HexaReads_l7_b k0 (law02_HexaReads_l7 k0 n) n s a e b f small s _ _ = _
    unfold law02_HexaReads_l7_b
    have hlt : i < s.length := by omega
    have ih := fun sm => reads_loop k0 s a b e f hl d (i + 1) n sm (by omega) (by omega)
    rw [dec_lt, decide_eq_true hlt, cond_true, dec_nonneg, Bool.true_and, cond_true, toNat_nat, i64_succ (by omega), ih, ih, ih, getD_drop (d := 0) hlt, List.any_cons]
    unfold isSmall
    cases small <;> cases decide ((97 : UInt8) ≤ s.getD i 0) <;> cases decide (s.getD i 0 ≤ (102 : UInt8)) <;> simp

theorem lay_len (s : List UInt8) : (hexa_Lay s).length = 2 * s.length := by
  unfold hexa_Lay
  induction s with
  | nil => rfl
  | cons c s ih => rw [List.flatMap_cons, List.length_append, ih, List.length_cons]; show 2 + _ = _; omega
theorem like_self (s : List UInt8) : ref01_Like s s = true := decide_eq_true rfl
theorem lenOk_of {s : List UInt8} (h : s.length ≤ 2000) : lenOk s = true := by unfold lenOk; rw [decide_eq_true_eq]; omega

theorem pairs_len : ∀ (n : Nat) (s : List UInt8), s.length ≤ n → 2 * (hexPairs s).length ≤ s.length
  | _, [], _ => by simp [hexPairs]
  | _, [_], _ => by simp [hexPairs]
  | 0, _ :: _ :: _, h => by simp at h
  | n + 1, a :: b :: r, h => by
    have := pairs_len n r (by simp at h; omega)
    simp only [hexPairs, List.length_cons]
    omega
theorem read_len (s : List UInt8) : (hexa_Read s).1.length ≤ s.length := by
  have := pairs_len s.length s (Nat.le_refl _)
  unfold hexa_Read
  cases hexAll s <;> cases (s.length % 2 == 0) <;> simp <;> omega

theorem law02_HexaReads_math : ∀ (s0 : List UInt8), ∃ n, law02_HexaReads_sh n s0 = law02_HexaReads_ret (law02_HexaReads s0) := fun s => ⟨s.length + 1, by
  unfold law02_HexaReads_sh
  by_cases h : (1000 : Int) < ((s.length : Nat) : Int)
  · rw [decide_eq_true h]; rfl
  · have hs : s.length ≤ 1000 := by omega
    have h1 : hexa_Read_ok s = true := lenOk_of (by omega)
    have h2 : ref02_Read_ok s = true := lenOk_of (by omega)
    rw [decide_eq_false h, h1, h2, show ref02_Read s = hexa_Read s from rfl]
    have := reads_loop (law02_HexaReads_k7_0 (s.length + 1)) s (hexa_Read s).1 (hexa_Read s).1 (hexa_Read s).2 (hexa_Read s).2 (by omega) s.length 0 (s.length + 1) false (by omega) (by omega)
    refine this.trans ?_
    unfold law02_HexaReads_k7_0
    have e1 : hexa_Lay_ok s = true := decide_eq_true hs
    have e2 : ref02_Lay_ok s = true := decide_eq_true hs
    have e3 : ref01_Like_ok (hexa_Lay s) (hexa_Lay s) = true := lenOk_of (by rw [lay_len]; omega)
    have e4 : ref01_Like_ok (hexa_Read s).1 (hexa_Read s).1 = true := lenOk_of (by have := read_len s; omega)
    have e5 : hexa_Capital_ok s = true := lenOk_of (by omega)
    rw [e1, e2, show ref02_Lay s = hexa_Lay s from rfl, e3, e4, e5, like_self, like_self, beq_self_eq_true, capital_eq, List.drop_zero, Bool.false_or, beq_self_eq_true]
    rfl⟩

theorem pairs_lay (s : List UInt8) : hexPairs (hexa_Lay s) = s := by
  induction s with
  | nil => rfl
  | cons c s ih =>
    show (hexa_pair (List.getD (hexa_both c) 0 0) (List.getD (hexa_both c) 1 0)).1 :: hexPairs (hexa_Lay s) = _
    rw [ih, pair_of_both]
theorem both_hex : ∀ i : Fin 256, (hexAll (hexa_both (UInt8.ofNat i.val)) && !((hexa_both (UInt8.ofNat i.val)).any isSmall)) = true := by decide +kernel
theorem lay_hex (s : List UInt8) : hexAll (hexa_Lay s) = true ∧ (hexa_Lay s).any isSmall = false := by
  induction s with
  | nil => exact ⟨rfl, rfl⟩
  | cons c s ih =>
    have h := of_fin (P := fun c => (hexAll (hexa_both c) && !((hexa_both c).any isSmall)) = true) both_hex c
    simp only [Bool.and_eq_true, Bool.not_eq_true'] at h
    unfold hexa_Lay at ih ⊢
    rw [List.flatMap_cons]
    unfold hexAll at h ih ⊢
    rw [List.all_append, List.any_append, h.1, h.2, ih.1, ih.2]
    exact ⟨rfl, rfl⟩
theorem read_lay (s : List UInt8) : hexa_Read (hexa_Lay s) = (s, 0) := by
  unfold hexa_Read
  rw [(lay_hex s).1, lay_len, show (2 * s.length % 2 == 0) = true by simp, pairs_lay]
  rfl

theorem both_of : ∀ a b : Fin 16, hexa_both (UInt8.ofNat (Int.toNat (((a.val : Nat) : Int) * 16 + ((b.val : Nat) : Int)))) = [List.getD hexD (Int.toNat ((a.val : Nat) : Int)) 0, List.getD hexD (Int.toNat ((b.val : Nat) : Int)) 0] := by decide +kernel
theorem fold_val : ∀ i : Fin 256, (!(hexa_Value (UInt8.ofNat i.val)).2 || (ref01_Lower (List.getD hexD (Int.toNat (hexa_Value (UInt8.ofNat i.val)).1) 0) == ref01_Lower (UInt8.ofNat i.val))) = true := by decide +kernel
theorem fold_of (c : UInt8) (h : (hexa_Value c).2 = true) : ref01_Lower (List.getD hexD (Int.toNat (hexa_Value c).1) 0) = ref01_Lower c := by
  have := of_fin (P := fun c => (!(hexa_Value c).2 || (ref01_Lower (List.getD hexD (Int.toNat (hexa_Value c).1) 0) == ref01_Lower c)) = true) fold_val c
  rw [h] at this
  simpa using this
theorem fold_pairs : ∀ (n : Nat) (s : List UInt8), s.length ≤ n → s.length % 2 = 0 → hexAll s = true → (hexa_Lay (hexPairs s)).map ref01_Lower = s.map ref01_Lower
  | _, [], _, _, _ => rfl
  | _, [_], _, h, _ => by simp at h
  | 0, _ :: _ :: _, h, _, _ => by simp at h
  | n + 1, a :: b :: r, h, h2, ha => by
    unfold hexAll at ha
    simp only [List.all_cons, Bool.and_eq_true] at ha
    have ih := fold_pairs n r (by simp at h; omega) (by simp at h2; omega) ha.2.2
    have hb := two_fins (P := fun x y => hexa_both (UInt8.ofNat (Int.toNat (x * 16 + y))) = [List.getD hexD (Int.toNat x) 0, List.getD hexD (Int.toNat y) 0]) both_of (value_range a) (value_range b)
    have hp : (hexa_pair a b).1 = UInt8.ofNat (Int.toNat ((hexa_Value a).1 * 16 + (hexa_Value b).1)) := by
      unfold hexa_pair
      rw [ha.1, ha.2.1]
      rfl
    show (hexa_both (hexa_pair a b).1 ++ hexa_Lay (hexPairs r)).map ref01_Lower = _
    rw [List.map_append, ih, hp, hb]
    simp only [List.map_cons, List.map_nil, fold_of a ha.1, fold_of b ha.2.1]
    rfl

theorem law02_HexaBack_math : ∀ (s0 : List UInt8), ∃ n, law02_HexaBack_sh n s0 = law02_HexaBack_ret (law02_HexaBack s0) := fun s => ⟨0, by
  unfold law02_HexaBack_sh
  by_cases h : (1000 : Int) < ((s.length : Nat) : Int)
  · rw [decide_eq_true h]; rfl
  · have hs : s.length ≤ 1000 := by omega
    have hlay := lay_len s
    have e1 : hexa_Lay_ok s = true := decide_eq_true hs
    have e2 : hexa_Read_ok (hexa_Lay s) = true := lenOk_of (by omega)
    have e3 : ref01_Like_ok s s = true := lenOk_of (by omega)
    have e4 : hexa_Capital_ok (hexa_Lay s) = true := lenOk_of (by omega)
    have e5 : hexa_Read_ok s = true := lenOk_of (by omega)
    have e6 : (((hexa_Lay s).length : Nat) : Int) = IntKind.wrap .i64 ((2 : Int) * ((s.length : Nat) : Int)) := by rw [IntWalk.i64_in _ (by omega)]; omega
    have e7 : hexa_Capital (hexa_Lay s) = true := by rw [capital_eq, (lay_hex s).2]; rfl
    rw [decide_eq_false h, e1, e2, read_lay, e3, like_self, e4, e7, e5, ← e6]
    have e8 : ((((hexa_Lay s).length : Nat) : Int) != (((hexa_Lay s).length : Nat) : Int)) = false := by simp
    have e9 : ((0 : Int) != 0) = false := rfl
    simp only [Bool.and_self, cond_true, cond_false, Bool.not_true, e8, e9]
    have hr := read_len s
    have f1 : hexa_Lay_ok (hexa_Read s).1 = true := decide_eq_true (by omega)
    have f2 : ref01_Fold_ok (hexa_Lay (hexa_Read s).1) = true := lenOk_of (by rw [lay_len]; omega)
    have f3 : ref01_Fold_ok s = true := lenOk_of (by omega)
    have f4 : ref01_Like_ok (ref01_Fold (hexa_Lay (hexa_Read s).1)) (ref01_Fold s) = true := lenOk_of (by unfold ref01_Fold; rw [List.length_map, lay_len]; omega)
    rw [f1, f2, f3, f4]
    simp only [Bool.and_self, cond_true]
    cases ha : hexAll s with
    | false =>
      have : hexa_Read s = ([], 3) := by unfold hexa_Read; rw [ha]; rfl
      rw [this]
      rfl
    | true =>
      cases hp : (s.length % 2 == 0) with
      | false =>
        have : hexa_Read s = ([], 4) := by unfold hexa_Read; rw [ha, hp]; rfl
        rw [this]
        rfl
      | true =>
        have : hexa_Read s = (hexPairs s, 0) := by unfold hexa_Read; rw [ha, hp]; rfl
        rw [this]
        have hl : ref01_Like (ref01_Fold (hexa_Lay (hexPairs s))) (ref01_Fold s) = true := by
          unfold ref01_Like ref01_Fold
          exact decide_eq_true (fold_pairs s.length s (Nat.le_refl _) (by simpa using hp) ha)
        show (bif (0 : Int) != 0 then _ else bif ref01_Like (ref01_Fold (hexa_Lay (hexPairs s))) (ref01_Fold s) then _ else _) = _
        rw [e9, hl]
        rfl⟩
end Go.Av
