/-
  The document's lines that are right.
-/
import Derived.Test.YtejhjmmdachijaaDoorQpP4
namespace Go.Av
theorem is6 : ∀ i : Fin 256, octet_Is (UInt8.ofNat i.val) 6 = (octet_Is (UInt8.ofNat i.val) 2 || octet_Is (UInt8.ofNat i.val) 4) := by decide +kernel
theorem is6_of (c : UInt8) : octet_Is c 6 = (octet_Is c 2 || octet_Is c 4) := of_fin (P := fun c => octet_Is c 6 = (octet_Is c 2 || octet_Is c 4)) is6 c
theorem cap_small : ∀ i : Fin 256, (hexa_Value (UInt8.ofNat i.val)).2 = true → (0 ≤ (hexa_Value (UInt8.ofNat i.val)).1 ∧ (hexa_Value (UInt8.ofNat i.val)).1 ≤ 15) ∧ (List.getD hexD (hexa_Value (UInt8.ofNat i.val)).1.toNat 0 == UInt8.ofNat i.val) = !(([97, 98, 99, 100, 101, 102] : List UInt8).contains (UInt8.ofNat i.val)) := by decide +kernel
theorem cap_of (c : UInt8) : (hexa_Value c).2 = true → (0 ≤ (hexa_Value c).1 ∧ (hexa_Value c).1 ≤ 15) ∧ (List.getD hexD (hexa_Value c).1.toNat 0 == c) = !(([97, 98, 99, 100, 101, 102] : List UInt8).contains c) :=
  of_fin (P := fun c => (hexa_Value c).2 = true → (0 ≤ (hexa_Value c).1 ∧ (hexa_Value c).1 ≤ 15) ∧ (List.getD hexD (hexa_Value c).1.toNat 0 == c) = !(([97, 98, 99, 100, 101, 102] : List UInt8).contains c)) cap_small c
theorem cap2 (a b : UInt8) : hexa_Capital [a, b] = (!(([97, 98, 99, 100, 101, 102] : List UInt8).contains a) && !(([97, 98, 99, 100, 101, 102] : List UInt8).contains b)) := by
  unfold hexa_Capital bytes_ContainsAny bytes_IndexAny
  rw [show anyAt [97, 98, 99, 100, 101, 102] [a, b] 0 = bif ([97, 98, 99, 100, 101, 102] : List UInt8).contains a then 0 else bif ([97, 98, 99, 100, 101, 102] : List UInt8).contains b then 1 else -1 from rfl]
  cases ([97, 98, 99, 100, 101, 102] : List UInt8).contains a <;> cases ([97, 98, 99, 100, 101, 102] : List UInt8).contains b <;> rfl
/-- An escape that is read is laid the same just if its digits are capital. -/
theorem like_cap {a b : UInt8} (h : (hexa_pair a b).2 = true) : ref01_Like (ref02_Put [] 61 (hexa_pair a b).1) [61, a, b] = hexa_Capital [a, b] := by
  unfold hexa_pair at h ⊢
  cases ha : ((hexa_Value a).2 && (hexa_Value b).2) with
  | false => rw [ha] at h; cases h
  | true =>
    rw [Bool.and_eq_true] at ha
    obtain ⟨⟨a0, a1⟩, a2⟩ := cap_of a ha.1
    obtain ⟨⟨b0, b1⟩, b2⟩ := cap_of b ha.2
    rw [cap2, ← a2, ← b2]
    show ref01_Like (ref02_Put [] 61 (UInt8.ofNat (Int.toNat ((hexa_Value a).1 * 16 + (hexa_Value b).1)))) [61, a, b] = _
    have hx : (UInt8.ofNat (Int.toNat ((hexa_Value a).1 * 16 + (hexa_Value b).1))).toNat = (hexa_Value a).1.toNat * 16 + (hexa_Value b).1.toNat := by
      rw [UInt8.toNat_ofNat', Nat.mod_eq_of_lt (by omega)]; omega
    unfold ref01_Like ref02_Put hexa_both
    rw [hx, show ((hexa_Value a).1.toNat * 16 + (hexa_Value b).1.toNat) / 16 = (hexa_Value a).1.toNat by omega, show ((hexa_Value a).1.toNat * 16 + (hexa_Value b).1.toNat) % 16 = (hexa_Value b).1.toNat by omega]
    rw [Bool.eq_iff_iff]
    simp
theorem take_pair {x : UInt8} {r : List UInt8} (h : (hexa_Take (x :: r) 0 61).2 = true) : ∃ a b t, r = a :: b :: t ∧ x = 61 ∧ hexa_Take (x :: r) 0 61 = hexa_pair a b := by
  have hr := take_room h
  match r, hr with
  | [], hr => simp at hr
  | [a], hr => simp at hr
  | a :: b :: t, _ =>
    refine ⟨a, b, t, rfl, ?_⟩
    unfold hexa_Take at h ⊢
    rw [dT (show (0 : Int) ≤ 0 by omega), dT (show (0 : Int) ≤ (((x :: a :: b :: t).length : Nat) : Int) - 3 by simp only [List.length_cons]; omega)] at h ⊢
    have h' : (takeAt (x :: a :: b :: t) 0 61).2 = true := h
    show x = 61 ∧ takeAt (x :: a :: b :: t) 0 61 = hexa_pair a b
    rw [show takeAt (x :: a :: b :: t) 0 61 = bif x == 61 then hexa_pair a b else (0, false) from rfl] at h' ⊢
    by_cases hx : x = 61
    · subst hx; exact ⟨rfl, rfl⟩
    · rw [show (x == 61) = false by simpa using hx] at h'; cases h'
theorem refright_loop (ret : Bool → Option AV) (k0 : List UInt8 → Option AV) (l : List UInt8) (hl : l.length ≤ 1048576) : ∀ (d i n : Nat), i + d = l.length → d < n →
    ref18_right_l2 ret k0 n l (i : Nat) = bif rightS (l.drop i) then k0 l else ret false
  | d, i, 0, hi, hn => by omega
  | 0, i, n + 1, hi, hn => by
    show ref18_right_l2_b _ _ _ n _ _ = _
    unfold ref18_right_l2_b
    rw [dF (by omega), cond_false, List.drop_eq_nil_of_le (by omega)]
    rfl
  | d + 1, i, n + 1, hi, hn => by
    have hlt : i < l.length := by omega
    have ih := refright_loop ret k0 l hl d (i + 1) n (by omega) (by omega)
    show ref18_right_l2_b _ _ _ n _ _ = _
    unfold ref18_right_l2_b
    have hsl : List.drop i (List.take (i + 3) l) = (l.drop i).take 3 := by rw [List.drop_take, show i + 3 - i = 3 by omega]
    rw [show ref02_Take l (i : Int) 61 = hexa_Take l (i : Int) 61 from rfl, take_drop hlt, tn, i64_succ (by omega), ih, show IntKind.wrap .i64 ((i : Int) + 3) = ((i + 3 : Nat) : Int) by rw [IntWalk.i64_in _ (by omega)]; omega, tn, hsl,
      getD_drop (d := (0 : UInt8)) hlt, rightS_step, is6_of, show ref02_Take_ok l (i : Int) 61 = true from lenOk_of hl, show IntKind.wrap .i64 (((l.length : Nat) : Int) - 1) = ((l.length - 1 : Nat) : Int) by rw [IntWalk.i64_in _ (by omega)]; omega,
      show ∀ c, ref02_Put_ok ([] : List UInt8) 61 c = true from fun _ => rfl, show ∀ c m, ref01_Like_ok (ref02_Put ([] : List UInt8) 61 c) m = true from fun _ _ => rfl]
    simp (disch := omega) only [dT, cond_true, Bool.and_true, ref01_Is]
    have hem : decide ((i : Int) < ((l.length - 1 : Nat) : Int)) = !((l.drop (i + 1)).isEmpty) := by
      rw [Bool.eq_iff_iff, decide_eq_true_eq, Bool.not_eq_true', ← Bool.not_eq_true, List.isEmpty_iff, List.drop_eq_nil_iff]
      omega
    rw [hem]
    have key : (bif (l.getD i 0 == 61) then (bif !((l.drop (i + 1)).isEmpty) then (bif !((hexa_Take (l.getD i 0 :: l.drop (i + 1)) 0 61).2) then ret false else
        bif decide (((i + 3 : Nat) : Int) ≤ ((l.length : Nat) : Int)) then (bif !(ref01_Like (ref02_Put [] 61 (hexa_Take (l.getD i 0 :: l.drop (i + 1)) 0 61).1) ((l.getD i 0 :: l.drop (i + 1)).take 3)) then ret false else (bif rightS (l.drop (i + 1)) then k0 l else ret false)) else none)
        else (bif rightS (l.drop (i + 1)) then k0 l else ret false)) else (bif rightS (l.drop (i + 1)) then k0 l else ret false)) =
        bif ((bif (l.getD i 0 == 61) && !((l.drop (i + 1)).isEmpty) then (hexa_Take (l.getD i 0 :: l.drop (i + 1)) 0 61).2 && hexa_Capital ((l.drop (i + 1)).take 2) else true) && rightS (l.drop (i + 1))) then k0 l else ret false := by
      cases h61 : (l.getD i 0 == 61) with
      | false => rfl
      | true =>
        cases hE : (l.drop (i + 1)).isEmpty with
        | true => rfl
        | false =>
          cases hT : (hexa_Take (l.getD i 0 :: l.drop (i + 1)) 0 61).2 with
          | false => rfl
          | true =>
            have hr := take_room hT
            rw [List.length_cons, List.length_drop] at hr
            obtain ⟨a, b, t, e1, e2, e3⟩ := take_pair hT
            rw [dT (show ((i + 3 : Nat) : Int) ≤ ((l.length : Nat) : Int) by omega), e3]
            rw [e3] at hT
            rw [e1, e2, show (61 :: a :: b :: t).take 3 = [61, a, b] from rfl, like_cap hT, show (a :: b :: t).take 2 = [a, b] from rfl]
            cases hexa_Capital [a, b] <;> rfl
    cases octet_Is (l.getD i 0) 2 with
    | true => exact key
    | false =>
      cases octet_Is (l.getD i 0) 4 with
      | true => exact key
      | false => rfl
theorem ref18_right_math : ∀ (l0 : List UInt8), (ref18_right_ok l0 = true) → ∃ n, ref18_right_sh n l0 = ref18_right_ret (ref18_right l0) := fun l h => ⟨l.length + 1, by
  have hl := lenOk_le (l := l) h
  unfold ref18_right_sh ref18_right qpage_right
  refine (refright_loop ref18_right_ret (ref18_right_k2_0 (l.length + 1)) l hl l.length 0 (l.length + 1) (by omega) (by omega)).trans ?_
  rw [List.drop_zero]
  cases rightS l with
  | false => rfl
  | true =>
    show ref18_right_k2_0 (l.length + 1) l = _
    unfold ref18_right_k2_0
    by_cases h0 : l.length = 0
    · have : l = [] := List.eq_nil_of_length_eq_zero h0
      subst this; rfl
    · rw [show (((l.length : Nat) : Int) == 0) = false by rw [beq_eq_false_iff_ne]; omega, show IntKind.wrap .i64 (((l.length : Nat) : Int) - 1) = ((l.length - 1 : Nat) : Int) by rw [IntWalk.i64_in _ (by omega)]; omega,
        dT (by omega), dT (show ((l.length - 1 : Nat) : Int) < ((l.length : Nat) : Int) by omega), tn, lastBlank_at (by omega)]
      rfl⟩
end Go.Av
