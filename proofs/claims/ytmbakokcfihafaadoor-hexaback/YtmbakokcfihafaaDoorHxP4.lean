/-
  The shallow readings of the layer 'hexa' compute what HxM says: capitals; two laws.
-/
import Derived.Test.YtmbakokcfihafaaDoorHxP3
namespace Go.Av
theorem bytes_ContainsAny_math : ∀ (b0 : List UInt8) (chars1 : List UInt8), (bytes_ContainsAny_ok b0 chars1 = true) → ∃ n, bytes_ContainsAny_sh n b0 chars1 = bytes_ContainsAny_ret (bytes_ContainsAny b0 chars1) := fun b cs h => ⟨0, by
  unfold bytes_ContainsAny_sh bytes_ContainsAny
  rw [show bytes_IndexAny_ok b cs = true from h]
  rfl⟩
theorem capital_ok (s : List UInt8) (h : hexa_Capital_ok s = true) : bytes_ContainsAny_ok s [97, 98, 99, 100, 101, 102] = true := by
  unfold bytes_ContainsAny_ok bytes_IndexAny_ok
  rw [show lenOk s = true from h, Bool.and_true]
  decide
theorem hexa_Capital_math : ∀ (s0 : List UInt8), (hexa_Capital_ok s0 = true) → ∃ n, hexa_Capital_sh n s0 = hexa_Capital_ret (hexa_Capital s0) := fun s h => ⟨0, by
  unfold hexa_Capital_sh hexa_Capital
  rw [capital_ok s h]
  rfl⟩
theorem law02_alive_math : ∃ n, law02_alive_sh n  = law02_alive_ret law02_alive := ⟨0, by kernel_rfl⟩

theorem law02_HexaDigits_math : ∀ (n0 : Int) (c1 : UInt8), (law02_HexaDigits_ok n0 c1 = true) → ∃ n, law02_HexaDigits_sh n n0 c1 = law02_HexaDigits_ret (law02_HexaDigits n0 c1) := fun n c h => ⟨0, by
  unfold law02_HexaDigits_sh
  rw [show hexa_Digit_ok n = true from h, show ref02_Digit_ok n = true from h, values c, show ref02_Digit n = hexa_Digit n from rfl, beq_self_eq_true, beq_self_eq_true, beq_self_eq_true]
  rfl⟩

theorem lenOk_app {s : List UInt8} (h : s.length ≤ 1000) (sign c : UInt8) : lenOk (hexa_Put s sign c) = true := by
  unfold lenOk hexa_Put hexa_both
  rw [decide_eq_true_eq]
  simp
  omega

theorem pair_both : ∀ i : Fin 256, hexa_pair (List.getD (hexa_both (UInt8.ofNat i.val)) 0 0) (List.getD (hexa_both (UInt8.ofNat i.val)) 1 0) = (UInt8.ofNat i.val, true) := by decide +kernel
theorem pair_of_both (c : UInt8) : hexa_pair (List.getD (hexa_both c) 0 0) (List.getD (hexa_both c) 1 0) = (c, true) := of_fin (P := fun c => hexa_pair (List.getD (hexa_both c) 0 0) (List.getD (hexa_both c) 1 0) = (c, true)) pair_both c

theorem take_put (s : List UInt8) (sign c : UInt8) : hexa_Take (hexa_Put s sign c) ((s.length : Nat) : Int) sign = (c, true) := by
  have hl : (hexa_Put s sign c).length = s.length + 3 := by unfold hexa_Put hexa_both; simp
  unfold hexa_Take
  rw [decide_eq_true (show (0 : Int) ≤ (s.length : Int) by omega), decide_eq_true (by omega), Bool.and_true, cond_true, toNat_nat]
  unfold takeAt
  have e : ∀ j, (hexa_Put s sign c).getD (s.length + j) 0 = (sign :: hexa_both c).getD j 0 := fun j => by
    unfold hexa_Put
    simp only [List.getD_eq_getElem?_getD]
    rw [List.getElem?_append_right (by omega), Nat.add_sub_cancel_left]
  have e0 := e 0
  rw [Nat.add_zero] at e0
  rw [e0, e 1, e 2]
  show (bif sign == sign then hexa_pair (List.getD (hexa_both c) 0 0) (List.getD (hexa_both c) 1 0) else (0, false)) = _
  rw [beq_self_eq_true, cond_true, pair_of_both]

theorem law02_HexaEscapes_math : ∀ (s0 : List UInt8) (at1 : Int) (x2 : List UInt8), ∃ n, law02_HexaEscapes_sh n s0 at1 x2 = law02_HexaEscapes_ret (law02_HexaEscapes s0 at1 x2) := fun s at1 x => ⟨0, by
  unfold law02_HexaEscapes_sh
  by_cases h : (1000 : Int) < ((s.length : Nat) : Int)
  · rw [decide_eq_true h]; rfl
  · have hs : s.length ≤ 1000 := by omega
    have hlen : lenOk s = true := by unfold lenOk; rw [decide_eq_true_eq]; omega
    rw [decide_eq_false h]
    generalize List.getD x (Int.toNat (0 : Int)) (0 : UInt8) = sign
    generalize List.getD x (Int.toNat (1 : Int)) (0 : UInt8) = c
    have hp := lenOk_app hs sign c
    have e1 : hexa_Take_ok s at1 sign = true := hlen
    have e2 : ref02_Take_ok s at1 sign = true := hlen
    have e3 : hexa_Put_ok s sign c = true := hlen
    have e4 : hexa_Take_ok (hexa_Put s sign c) ((s.length : Nat) : Int) sign = true := hp
    have e5 : ref02_Put_ok s sign c = true := hlen
    have e6 : ref01_Like_ok (hexa_Put s sign c) (hexa_Put s sign c) = true := hp
    have e7 : ref01_Like (hexa_Put s sign c) (hexa_Put s sign c) = true := by unfold ref01_Like; exact decide_eq_true rfl
    rw [show ref02_Take s at1 sign = hexa_Take s at1 sign from rfl, show ref02_Put s sign c = hexa_Put s sign c from rfl, e1, e2, e3, e4, e5, e6, e7, take_put, beq_self_eq_true, beq_self_eq_true]
    simp only [beq_self_eq_true]
    rfl⟩
end Go.Av
