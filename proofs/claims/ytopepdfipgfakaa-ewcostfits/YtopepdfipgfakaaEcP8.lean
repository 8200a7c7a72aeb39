/-
  The statements of the layer, read.
-/
import Derived.Test.YtopepdfipgfakaaEcP7
namespace Go.Av
theorem law30_alive_math : ∃ n, law30_alive_sh n  = law30_alive_ret law30_alive := ⟨0, by kernel_rfl⟩
theorem lenOk100 {t : List Int} (h : ¬ (100 : Int) < ((t.length : Nat) : Int)) : lenOk t = true := lenOk_of (by omega)
theorem law30_EwcostLens_math : ∀ (a0 : Int × (Int × (Int × Unit))) (t1 : List Int), (law30_EwcostLens_ok a0 t1 = true) → ∃ n, law30_EwcostLens_sh n a0 t1 = law30_EwcostLens_ret (law30_EwcostLens a0 t1) := fun a t h => ⟨0, by
  unfold law30_EwcostLens_sh
  by_cases hl : (100 : Int) < ((t.length : Nat) : Int)
  · rw [dT hl]; rfl
  · have hk : lenOk t = true := lenOk100 hl
    have hl' := lenOk_le hk
    rw [dF hl, show ewcost_Len_ok a.1 a.2.1 t = true from hk, show ref30_Len_ok a.1 a.2.1 t = true from hk, show ewcost_Better_ok a.1 t = true from hk, show ref30_Better_ok a.1 t = true from hk,
      show ewcost_Text_ok a.1 a.2.1 t = true from hk, show ref30_Text_ok a.1 a.2.1 t = true from hk, show ewcost_Saved_ok a.1 t = true from hk, show ref30_Text_ok a.1 1 t = true from hk, show ref30_Text_ok a.1 2 t = true from hk]
    rw [len_E _ _ t h hl', len30_E _ _ t hl', better_eq _ t h hl', text30 _ _ t hl', text30 _ _ t hl', text30 _ _ t hl']
    unfold ewcost_Saved ewcost_Text
    rw [text_told _ _ t h hl', text_told _ _ t h hl', text_told _ _ t h hl']
    simp only [beq_self_eq_true, cond_true, cond_false, Bool.and_true]
    rfl⟩
theorem law30_EwcostFits_math : ∀ (a0 : Int × (Int × (Int × Unit))) (t1 : List Int), (law30_EwcostFits_ok a0 t1 = true) → ∃ n, law30_EwcostFits_sh n a0 t1 = law30_EwcostFits_ret (law30_EwcostFits a0 t1) := fun a t h => ⟨0, by
  unfold law30_EwcostFits_sh
  by_cases hl : (60 : Int) < ((t.length : Nat) : Int)
  · rw [dT hl]; rfl
  · have hk : lenOk t = true := lenOk_of (by omega)
    have hl' := lenOk_le hk
    rw [dF hl, show ewcost_Fits_ok a.1 a.2.1 t a.2.2.1 = true from hk, show ref30_Fits_ok a.1 a.2.1 t a.2.2.1 = true from hk, show ewcost_Prefix_ok a.1 a.2.1 t a.2.2.1 = true from hk, show ref30_Prefix_ok a.1 a.2.1 t a.2.2.1 = true from hk]
    rw [fits_eq _ _ t _ h hl', prefix_eq _ _ t _ h hl']
    cases ref30_Fits a.1 a.2.1 t a.2.2.1 <;> simp only [beq_self_eq_true, cond_true, cond_false, Bool.and_true] <;> rfl⟩
theorem fits_of (cs code : Int) (t : List Int) (rm : Int) (h : i32s t = true) (hl : t.length ≤ 1048576) (hf : ewcost_Fits cs code t rm = true) : (told cs code t).2 = 0 ∧ 0 < t.length ∧ (told cs code t).1 + ewform_Over cs ≤ 75 ∧ (told cs code t).1 + ewform_Over cs ≤ rm := by
  rw [fits_eq cs code t rm h hl] at hf
  unfold ref30_Fits at hf
  rw [len30_E cs code t hl] at hf
  unfold lenE at hf
  by_cases h0 : (told cs code t).2 = 0
  · rw [bneF h0] at hf
    simp only [cond_false, Bool.and_eq_true, decide_eq_true_eq] at hf
    exact ⟨h0, by omega, hf.2.2.2, hf.2.2.1⟩
  · rw [bneT h0] at hf
    simp only [cond_true, Bool.and_eq_true, beq_iff_eq] at hf
    exact absurd hf.1 h0
/-- What is laid has an octet at least for each sign. -/
theorem lay13_ne {cs : Int} {t : List Int} (h : (ref13_Lay cs t).2 = 0) : (1 ≤ cs ∧ cs ≤ 5) ∧ t.all (fun c => (ref13_octets cs c).length != 0) = true ∧ (ref13_Lay cs t).1 = t.flatMap (ref13_octets cs) := by
  unfold ref13_Lay at h ⊢
  cases hc : (decide (cs < 1) || decide (5 < cs)) with
  | true => rw [hc] at h; cases h
  | false =>
    rw [hc] at h
    simp only [Bool.or_eq_false_iff, decide_eq_false_iff_not] at hc
    cases ha : t.all (fun c => (ref13_octets cs c).length != 0) with
    | false => rw [ha] at h; cases h
    | true => exact ⟨by omega, rfl, rfl⟩
theorem lay13_pos {cs : Int} {t : List Int} (h : (ref13_Lay cs t).2 = 0) (h0 : 0 < t.length) : 0 < (ref13_Lay cs t).1.length := by
  obtain ⟨_, h1, h2⟩ := lay13_ne h
  rw [h2]
  cases t with
  | nil => cases h0
  | cons c r =>
    rw [List.all_cons, Bool.and_eq_true] at h1
    rw [List.flatMap_cons, List.length_append]
    have : (ref13_octets cs c).length ≠ 0 := by simpa using h1.1
    omega
theorem word_len (cs code : Int) (s : List UInt8) (hcs : 1 ≤ cs ∧ cs ≤ 5) (hcode : code = 1 ∨ code = 2) (hs : 0 < s.length) :
    ((ref29_Lay cs code s).2 = 0 ∧ (((ref29_Lay cs code s).1.length : Nat) : Int) = (codeLen code s : Nat) + ewform_Over cs ∧ ((codeLen code s : Nat) : Int) + ewform_Over cs ≤ 75) ∨ ((ref29_Lay cs code s).2 = 12 ∧ 75 < ((codeLen code s : Nat) : Int) + ewform_Over cs) := by
  have ho : ewform_Over cs = (((label_Name cs).length + 7 : Nat) : Int) := by
    unfold ewform_Over label_IsCharset
    rw [dT hcs.1, dT hcs.2]; rfl
  have hn : ref11_Name cs = label_Name cs := rfl
  have hz : (s.length == 0) = false := by rw [beq_eq_false_iff_ne]; omega
  unfold ref29_Lay
  rw [dF (show ¬ cs < 1 by omega), dF (show ¬ 5 < cs by omega), hz, ho, hn]
  have hb := lay14_len s
  have hq := lay20_len s
  rcases hcode with rfl | rfl
  · simp only [show ((1 : Int) != 1) = false from rfl, show ((1 : Int) == 2) = false from rfl, Bool.false_and, Bool.or_self, cond_false]
    have hL : ([61, 63] ++ label_Name cs ++ ([63, 66, 63] ++ ref14_Lay s) ++ [63, 61] : List UInt8).length = (codeLen 1 s) + ((label_Name cs).length + 7) := by
      simp only [List.length_append, List.length_cons, List.length_nil, hb]
      show _ = bLen s.length + _
      omega
    by_cases h75 : 75 < ([61, 63] ++ label_Name cs ++ ([63, 66, 63] ++ ref14_Lay s) ++ [63, 61] : List UInt8).length
    · rw [dT h75]; exact .inr ⟨rfl, by omega⟩
    · rw [dF h75]; exact .inl ⟨rfl, by show ((([61, 63] ++ label_Name cs ++ ([63, 66, 63] ++ ref14_Lay s) ++ [63, 61] : List UInt8).length : Nat) : Int) = _; rw [hL]; omega, by omega⟩
  · simp only [show ((2 : Int) != 1) = true from rfl, show ((2 : Int) != 2) = false from rfl, show ((2 : Int) == 2) = true from rfl, Bool.and_false, Bool.or_self, cond_false, cond_true]
    have hL : ([61, 63] ++ label_Name cs ++ ([63, 81, 63] ++ ref20_Lay s) ++ [63, 61] : List UInt8).length = (codeLen 2 s) + ((label_Name cs).length + 7) := by
      simp only [List.length_append, List.length_cons, List.length_nil, hq]
      show _ = qLen s + _
      omega
    by_cases h75 : 75 < ([61, 63] ++ label_Name cs ++ ([63, 81, 63] ++ ref20_Lay s) ++ [63, 61] : List UInt8).length
    · rw [dT h75]; exact .inr ⟨rfl, by omega⟩
    · rw [dF h75]; exact .inl ⟨rfl, by show ((([61, 63] ++ label_Name cs ++ ([63, 81, 63] ++ ref20_Lay s) ++ [63, 61] : List UInt8).length : Nat) : Int) = _; rw [hL]; omega, by omega⟩
theorem law30_EwcostLaid_math : ∀ (a0 : Int × (Int × (Int × Unit))) (t1 : List Int), (law30_EwcostLaid_ok a0 t1 = true) → ∃ n, law30_EwcostLaid_sh n a0 t1 = law30_EwcostLaid_ret (law30_EwcostLaid a0 t1) := fun a t h => ⟨0, by
  unfold law30_EwcostLaid_sh
  by_cases hl : (100 : Int) < ((t.length : Nat) : Int)
  · rw [dT hl]; rfl
  · have hk : lenOk t = true := lenOk100 hl
    have hl' := lenOk_le hk
    have h13 := lay13_len a.1 t hl'
    rw [dF hl, show ewcost_Len_ok a.1 a.2.1 t = true from hk, show ewcost_Fits_ok a.1 a.2.1 t a.2.2.1 = true from hk, show ref13_Lay_ok a.1 t = true from hk, show ref29_Lay_ok a.1 a.2.1 (ref13_Lay a.1 t).1 = true from dT h13]
    rw [len_E _ _ t h hl']
    unfold lenE
    by_cases h0 : (told a.1 a.2.1 t).2 = 0
    · rw [bneF h0]
      obtain ⟨k1, k2, k3⟩ := told_ok h0
      obtain ⟨c1, c2, c3⟩ := lay13_ne k1
      simp only [cond_false, cond_true, Bool.and_true, show ((0 : Int) != 0) = false from rfl]
      cases hf : ewcost_Fits a.1 a.2.1 t a.2.2.1 with
      | true =>
        obtain ⟨f1, f2, f3, f4⟩ := fits_of _ _ t _ h hl' hf
        rcases word_len a.1 a.2.1 (ref13_Lay a.1 t).1 c1 k2 (lay13_pos k1 f2) with ⟨w1, w2, w3⟩ | ⟨w1, w2⟩
        · rw [w1, w2, ← k3, dF (by omega)]
          simp only [beq_self_eq_true, bne_self_eq_false, cond_true, cond_false]
          rfl
        · rw [k3] at f3; omega
      | false =>
        by_cases hs : 0 < (ref13_Lay a.1 t).1.length
        · rcases word_len a.1 a.2.1 (ref13_Lay a.1 t).1 c1 k2 hs with ⟨w1, w2, w3⟩ | ⟨w1, w2⟩
          · rw [w1, w2, ← k3]
            simp only [beq_self_eq_true, bne_self_eq_false, cond_true, cond_false]
            rfl
          · rw [w1]; rfl
        · have : (ref29_Lay a.1 a.2.1 (ref13_Lay a.1 t).1).2 = 3 := by
            unfold ref29_Lay
            rw [dF (show ¬ a.1 < 1 by omega), dF (show ¬ 5 < a.1 by omega), show ((ref13_Lay a.1 t).1.length == 0) = true by rw [beq_iff_eq]; omega, Bool.or_true]
            rfl
          rw [this]; rfl
    · rw [bneT h0]
      simp only [cond_true]
      rw [bneT h0]
      simp only [cond_true, beq_self_eq_true, Bool.and_true]
      cases hf : ewcost_Fits a.1 a.2.1 t a.2.2.1 with
      | true =>
        obtain ⟨f1, _⟩ := fits_of _ _ t _ h hl' hf
        exact absurd f1 h0
      | false => rfl⟩
theorem lay13_take {cs : Int} {t : List Int} {n : Nat} (h : (ref13_Lay cs t).2 = 0) : (ref13_Lay cs (t.take n)).2 = 0 ∧ ∃ r, (ref13_Lay cs t).1 = (ref13_Lay cs (t.take n)).1 ++ r := by
  obtain ⟨h1, h2, h3⟩ := lay13_ne h
  have h4 : (t.take n).all (fun c => (ref13_octets cs c).length != 0) = true := by
    rw [List.all_eq_true] at h2 ⊢
    exact fun c hc => h2 c (List.mem_of_mem_take hc)
  have h5 : ref13_Lay cs (t.take n) = ((t.take n).flatMap (ref13_octets cs), 0) := by
    unfold ref13_Lay
    rw [dF (show ¬ cs < 1 by omega), dF (show ¬ 5 < cs by omega), h4]; rfl
  rw [h5, h3]
  refine ⟨rfl, (t.drop n).flatMap (ref13_octets cs), ?_⟩
  show _ = (t.take n).flatMap _ ++ (t.drop n).flatMap _
  rw [← List.flatMap_append, List.take_append_drop]
theorem qLen_app : ∀ (a b : List UInt8), qLen (a ++ b) = qLen a + qLen b := fun a b => by
  unfold qLen
  rw [List.map_append, List.sum_append]
theorem told_take {cs code : Int} {t : List Int} {n : Nat} (h : (told cs code t).2 = 0) : (told cs code (t.take n)).2 = 0 ∧ (told cs code (t.take n)).1 ≤ (told cs code t).1 := by
  obtain ⟨h1, h2, h3⟩ := told_ok h
  obtain ⟨h4, r, h5⟩ := lay13_take (n := n) h1
  have h6 : (told cs code (t.take n)).2 = 0 := by
    unfold told
    rw [h4]
    rcases h2 with rfl | rfl <;> rfl
  refine ⟨h6, ?_⟩
  rw [(told_ok h6).2.2, h3, h5]
  unfold codeLen bLen
  rw [List.length_append, qLen_app]
  rcases h2 with rfl | rfl
  · show ((4 * (((ref13_Lay cs (t.take n)).1.length + 2) / 3) : Nat) : Int) ≤ ((4 * (((ref13_Lay cs (t.take n)).1.length + r.length + 2) / 3) : Nat) : Int)
    omega
  · show ((qLen (ref13_Lay cs (t.take n)).1 : Nat) : Int) ≤ ((qLen (ref13_Lay cs (t.take n)).1 + qLen r : Nat) : Int)
    omega
theorem lenE_take {cs code : Int} {t : List Int} {n : Nat} (h : (lenE cs code t).2 = 0) : (lenE cs code (t.take n)).2 = 0 ∧ (lenE cs code (t.take n)).1 ≤ (lenE cs code t).1 ∧ 0 ≤ (lenE cs code t).1 := by
  unfold lenE at h ⊢
  by_cases h0 : (told cs code t).2 = 0
  · obtain ⟨h1, h2⟩ := told_take (n := n) h0
    obtain ⟨_, _, h3⟩ := told_ok h0
    have := over_range cs
    rw [h1, h0]
    refine ⟨rfl, ?_, ?_⟩
    · show (told cs code (t.take n)).1 + ewform_Over cs ≤ (told cs code t).1 + ewform_Over cs
      omega
    · show 0 ≤ (told cs code t).1 + ewform_Over cs
      omega
  · rw [bneT h0] at h
    exact absurd h h0
theorem rises_end (n : Nat) (a : Int × (Int × (Int × Unit))) (t : List Int) (hk : lenOk t = true) : law30_EwcostRises_k5_0 n t a = law30_EwcostRises_ret true := by
  have hl := lenOk_le hk
  unfold law30_EwcostRises_k5_0
  rw [show ewcost_Prefix_ok a.1 a.2.1 t a.2.2.1 = true from hk]
  obtain ⟨_, h2, h3, h4⟩ := prefixAt_facts (fun u => ewcost_Fits a.1 a.2.1 u a.2.2.1) t t.length 0
  unfold ewcost_Prefix
  generalize prefixAt (fun u => ewcost_Fits a.1 a.2.1 u a.2.2.1) t t.length 0 = k at h2 h3 h4 ⊢
  rw [Nat.zero_add] at h2 h4
  have e1 : IntKind.wrap .i64 ((k : Int) + 1) = ((k + 1 : Nat) : Int) := i64_succ (by omega)
  rw [e1]
  have t0 : Int.toNat ((0 : Nat) : Int) = 0 := rfl
  simp only [t0, tn, List.drop_zero]
  rw [show ewcost_Fits_ok a.1 a.2.1 (t.take k) a.2.2.1 = true from take_ok hk _, show ewcost_Fits_ok a.1 a.2.1 (t.take (k + 1)) a.2.2.1 = true from take_ok hk _, dF (show ¬ (k : Int) < 0 by omega), dF (show ¬ ((t.length : Nat) : Int) < (k : Int) by omega)]
  have d0 : decide ((0 : Int) ≤ ((0 : Nat) : Int)) = true := rfl
  rw [d0, dT (show ((0 : Nat) : Int) ≤ (k : Int) by omega), dT (show (k : Int) ≤ ((t.length : Nat) : Int) by omega), dT (show ((0 : Nat) : Int) ≤ ((k + 1 : Nat) : Int) by omega)]
  simp only [Bool.and_self, cond_true, cond_false]
  by_cases hkl : k = t.length
  · rw [beqT (show (k : Int) = ((t.length : Nat) : Int) by omega)]
    simp only [cond_true]
    by_cases h0 : 0 < k
    · rw [dT (show (0 : Int) < (k : Int) by omega), show ewcost_Fits a.1 a.2.1 (t.take k) a.2.2.1 = true from h3 h0]
      rfl
    · rw [dF (show ¬ (0 : Int) < (k : Int) by omega)]
      rfl
  · rw [beqF (show (k : Int) ≠ ((t.length : Nat) : Int) by omega), dT (show ((k + 1 : Nat) : Int) ≤ ((t.length : Nat) : Int) by omega), show ewcost_Fits a.1 a.2.1 (t.take (k + 1)) a.2.2.1 = false from h4 (by omega)]
    by_cases h0 : 0 < k
    · rw [dT (show (0 : Int) < (k : Int) by omega), show ewcost_Fits a.1 a.2.1 (t.take k) a.2.2.1 = true from h3 h0]
      rfl
    · rw [dF (show ¬ (0 : Int) < (k : Int) by omega)]
      rfl
theorem rises_loop (ret : Bool → Option AV) (k0 : List Int → Int × (Int × (Int × Unit)) → Option AV) (a : Int × (Int × (Int × Unit))) (t : List Int) (h : i32s t = true) (hk : lenOk t = true) : ∀ (d i n : Nat) (last : Int), i + d = t.length → d < n → (∀ m, i < m → (lenE a.1 a.2.1 (t.take m)).2 = 0 → last ≤ (lenE a.1 a.2.1 (t.take m)).1) →
    law30_EwcostRises_l5 ret k0 n t a last ((t.length : Nat) : Int) (i : Nat) = k0 t a
  | d, i, 0, last, hi, hn, _ => by omega
  | 0, i, n + 1, last, hi, hn, _ => by
    show law30_EwcostRises_l5_b _ _ _ n _ _ _ _ _ = _
    unfold law30_EwcostRises_l5_b
    rw [dF (by omega)]
    rfl
  | d + 1, i, n + 1, last, hi, hn, hlast => by
    have hl := lenOk_le hk
    show law30_EwcostRises_l5_b _ _ _ n _ _ _ _ _ = _
    unfold law30_EwcostRises_l5_b
    rw [i64_succ (by omega), show Int.toNat ((0 : Nat) : Int) = 0 from rfl, List.drop_zero, tn, show ewcost_Len_ok a.1 a.2.1 (t.take (i + 1)) = true from take_ok hk _,
      len_E a.1 a.2.1 (t.take (i + 1)) (i32s_take h _) (by rw [List.length_take]; omega)]
    simp (disch := omega) only [dT, cond_true, Bool.and_true]
    by_cases h0 : (lenE a.1 a.2.1 (t.take (i + 1))).2 = 0
    · rw [bneF h0, dF (by have := hlast (i + 1) (by omega) h0; omega)]
      simp only [cond_false]
      refine rises_loop ret k0 a t h hk d (i + 1) n _ (by omega) (by omega) fun m hm hz => ?_
      have := lenE_take (n := i + 1) hz
      rw [List.take_take, Nat.min_eq_left (by omega)] at this
      exact this.2.1
    · rw [bneT h0]; rfl
theorem law30_EwcostRises_math : ∀ (a0 : Int × (Int × (Int × Unit))) (t1 : List Int), (law30_EwcostRises_ok a0 t1 = true) → ∃ n, law30_EwcostRises_sh n a0 t1 = law30_EwcostRises_ret (law30_EwcostRises a0 t1) := fun a t h => ⟨t.length + 1, by
  unfold law30_EwcostRises_sh
  by_cases hl : (60 : Int) < ((t.length : Nat) : Int)
  · rw [dT hl]; rfl
  · have hk : lenOk t = true := lenOk_of (by omega)
    rw [dF hl]
    refine (rises_loop law30_EwcostRises_ret (law30_EwcostRises_k5_0 (t.length + 1)) a t h hk t.length 0 (t.length + 1) 0 (by omega) (by omega) fun m hm hz => ?_).trans (rises_end _ a t hk)
    exact (lenE_take (n := 0) hz).2.2⟩
end Go.Av
