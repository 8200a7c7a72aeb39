/-
  The laws of the layer 'field'.
-/
import Derived.Test.YtcfhfjjohmdaoaaDoorFiP9
namespace Go.Av
theorem one_small (raw : List UInt8) : (field_One raw).1.1.length ≤ raw.length ∧ (field_One raw).1.2.1.length ≤ raw.length := by
  obtain ⟨h1, h2⟩ := cut_le raw [58]
  have h3 := trimBy_le blank (bytes_Cut raw [58]).1
  have h4 := unf_le (bytes_Cut raw [58]).2.1
  have h5 := trimBy_le blank (unf (bytes_Cut raw [58]).2.1)
  unfold field_One
  cases (bytes_Cut raw [58]).2.2 && (!field_blank raw && isNameB (trimBy blank (bytes_Cut raw [58]).1)) with
  | true => exact ⟨Nat.le_trans h3 h1, Nat.le_trans h5 (Nat.le_trans h4 h2)⟩
  | false => exact ⟨Nat.zero_le _, Nat.zero_le _⟩
theorem fOk_one (raw : List UInt8) (h : raw.length ≤ 1048576) : fOk (field_One raw).1 = true := by
  obtain ⟨h1, h2⟩ := one_small raw
  unfold fOk
  rw [lenOk_of (Nat.le_trans h1 h), lenOk_of (Nat.le_trans h2 h)]
  rfl
theorem same_self (a : List FieldT) : law48_same a a = true := by unfold law48_same; exact decide_eq_true rfl
theorem like_self' (a : List UInt8) : ref01_Like a a = true := by unfold ref01_Like; exact decide_eq_true rfl
theorem law48_alive_math : ∃ n, law48_alive_sh n  = law48_alive_ret law48_alive := ⟨0, by kernel_rfl⟩
theorem sameOne_ok (raw : List UInt8) (h : raw.length ≤ 1048576) (b : List FieldT) : law48_same_ok [(field_One raw).1] b = true := by
  unfold law48_same_ok
  rw [lenOk_of (by simp), List.all_cons, fOk_one raw h]
  rfl
theorem law48_FieldOne_math : ∀ (raw0 : List UInt8), ∃ n, law48_FieldOne_sh n raw0 = law48_FieldOne_ret (law48_FieldOne raw0) := fun s => ⟨0, by
  unfold law48_FieldOne_sh
  by_cases h : (500 : Int) < ((s.length : Nat) : Int)
  · rw [dT h]; rfl
  · have hl : s.length ≤ 1048576 := by omega
    rw [dF h, show field_One_ok s = true from lenOk_of hl, show ref48_One_ok s = true from lenOk_of hl, show ref48_One s = field_One s from rfl, sameOne_ok s hl, same_self, beqI (show (field_One s).2 = (field_One s).2 from rfl)]
    rfl⟩
theorem reads_loop (ret : Bool → Option AV) (k0 : Option AV) (hk : k0 = ret true) (L : List (List UInt8)) (hL : L.length ≤ 1048576) (hm : ∀ x ∈ L, x.length ≤ 1048576) : ∀ (d i n : Nat), i + d = L.length → d < n →
    law48_FieldReads_l10 ret k0 n L L (L.length : Nat) (i : Nat) = ret true
  | d, i, 0, hi, hn => by omega
  | 0, i, n + 1, hi, hn => by
    show law48_FieldReads_l10_b ret k0 (law48_FieldReads_l10 ret k0 n) n _ _ _ _ = _
    unfold law48_FieldReads_l10_b
    rw [dF (by omega), cond_false, hk]
  | d + 1, i, n + 1, hi, hn => by
    show law48_FieldReads_l10_b ret k0 (law48_FieldReads_l10 ret k0 n) n _ _ _ _ = _
    unfold law48_FieldReads_l10_b
    have hlt : i < L.length := by omega
    have ih := reads_loop ret k0 hk L hL hm d (i + 1) n (by omega) (by omega)
    have hg := hm _ (getD_mem hlt ([] : List UInt8))
    simp (disch := omega) only [dT, cond_true, cond_false, Bool.and_true, tn, i64_succ]
    generalize List.getD L i [] = x at hg
    simp only [show field_One_ok x = true from lenOk_of hg, show ref48_One_ok x = true from lenOk_of hg, show ref01_Like_ok x x = true from lenOk_of hg, like_self', show ref48_One x = field_One x from rfl, sameOne_ok x hg, same_self, bneF (show (field_One x).2 = (field_One x).2 from rfl), both_self, Bool.not_true, cond_false, cond_true]
    exact ih
theorem okFields_ok (L : List (List UInt8)) (hm : ∀ x ∈ L, x.length ≤ 1048576) : ∀ f ∈ okFields L, fOk f = true := fun f hf => by
  unfold okFields at hf
  obtain ⟨r, hr, rfl⟩ := List.mem_map.1 hf
  exact fOk_one r (hm r (List.mem_filter.1 hr).1)
theorem okFields_len (L : List (List UInt8)) : (okFields L).length ≤ L.length := by
  unfold okFields
  rw [List.length_map]
  exact List.length_filter_le _ _
theorem law48_FieldReads_math : ∀ (s0 : List UInt8), ∃ n, law48_FieldReads_sh n s0 = law48_FieldReads_ret (law48_FieldReads s0) := fun s => ⟨s.length + 1, by
  unfold law48_FieldReads_sh
  by_cases h : (500 : Int) < ((s.length : Nat) : Int)
  · rw [dT h]; rfl
  · have hl : s.length ≤ 500 := by omega
    have hc := parts_count s
    have hm : ∀ x ∈ field_Raw s, x.length ≤ 1048576 := fun x hx => by have := parts_mem s x hx; omega
    have hb := partsF_le (s.length + 1) [] s
    have hok := okFields_len (field_Raw s)
    have hrl : (field_Raw s).length ≤ s.length := hc
    have o1 : law48_same_ok (field_Read s).1 (field_Read s).1 = true := by
      unfold law48_same_ok
      rw [show lenOk (field_Read s).1 = true from lenOk_of (by show (okFields (field_Raw s)).length ≤ _; omega)]
      rw [show (field_Read s).1.all fOk = true from List.all_eq_true.2 (okFields_ok _ hm)]
      rfl
    rw [dF h, show field_Read_ok s = true from decide_eq_true (by omega), show ref48_Read_ok s = true from decide_eq_true (by omega), show ref48_Raw_ok s = true from lenOk_of (by omega), show field_Raw_ok s = true from lenOk_of (by omega), show ref48_Read s = field_Read s from rfl, o1, same_self,
      bneF (show (field_Read s).2 = (field_Read s).2 from rfl), show field_Body_ok s = true from lenOk_of (by omega), show (ref48_Raw s).2 = field_Body s from rfl, show ref01_Like_ok (field_Body s) (field_Body s) = true from lenOk_of (Nat.le_trans hb (by omega)), like_self', show (ref48_Raw s).1 = field_Raw s from rfl,
      bneF (show (((field_Raw s).length : Nat) : Int) = (((field_Raw s).length : Nat) : Int) from rfl)]
    exact reads_loop law48_FieldReads_ret (law48_FieldReads_k10_0 (s.length + 1)) rfl (field_Raw s) (by omega) hm (field_Raw s).length 0 (s.length + 1) (by omega) (by omega)⟩
end Go.Av
