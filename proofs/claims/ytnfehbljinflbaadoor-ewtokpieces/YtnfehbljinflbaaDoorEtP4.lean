/-
  The document's small functions; names; one field.
-/
import Derived.Test.YtnfehbljinflbaaDoorEtP3
import Derived.Lib.IndexBytes
namespace Go.Av
theorem bneT {a b : Int} (h : a ≠ b) : (a != b) = true := by simp [bne, h]
theorem bneF {a b : Int} (h : a = b) : (a != b) = false := by simp [h]
theorem has_loop (ret : Bool → Option AV) (k0 : Option AV) (hk : k0 = ret false) (s : List UInt8) (c : UInt8) (hl : s.length ≤ 1048576) : ∀ (d i n : Nat), i + d = s.length → d < n →
    ref01_has_l2 ret k0 n s c (i : Nat) = ret ((s.drop i).contains c)
  | d, i, 0, hi, hn => by omega
  | 0, i, n + 1, hi, hn => by
    show ref01_has_l2_b ret k0 (ref01_has_l2 ret k0 n) n _ _ _ = _
    unfold ref01_has_l2_b
    rw [dF (by omega), cond_false, List.drop_eq_nil_of_le (by omega), hk]
    rfl
  | d + 1, i, n + 1, hi, hn => by
    show ref01_has_l2_b ret k0 (ref01_has_l2 ret k0 n) n _ _ _ = _
    unfold ref01_has_l2_b
    have hlt : i < s.length := by omega
    have ih := has_loop ret k0 hk s c hl d (i + 1) n (by omega) (by omega)
    rw [getD_drop (d := (0 : UInt8)) hlt, List.contains_cons]
    simp (disch := omega) only [dT, cond_true, Bool.and_true, tn, i64_succ]
    rw [ih, show (s.getD i 0 == c) = (c == s.getD i 0) from Bool.beq_comm]
    cases (c == s.getD i 0) <;> rfl
/-- A text that is short enough for its signs to be counted. -/
theorem has_math' (s : List UInt8) (c : UInt8) (hl : s.length ≤ 1048576) : ∃ n, ref01_has_sh n s c = ref01_has_ret (ref01_has s c) := ⟨s.length + 1, by
  unfold ref01_has_sh
  have := has_loop ref01_has_ret (ref01_has_k2_0 (s.length + 1)) rfl s c hl s.length 0 (s.length + 1) (by omega) (by omega)
  exact this⟩
theorem ref01_has_math : ∀ (s0 : List UInt8) (c1 : UInt8), (ref01_has_ok s0 c1 = true) → ∃ n, ref01_has_sh n s0 c1 = ref01_has_ret (ref01_has s0 c1) := fun s c h => has_math' s c (lenOk_le h)
theorem ref01_Is_math : ∀ (c0 : UInt8) (kinds1 : Int), ∃ n, ref01_Is_sh n c0 kinds1 = ref01_Is_ret (ref01_Is c0 kinds1) := fun _ _ => ⟨0, rfl⟩
theorem refCount_loop (k0 : Int → Option AV) (s : List UInt8) (k : Int) (hl : s.length ≤ 1048576) : ∀ (d i n m : Nat), i + d = s.length → d < n → m + d ≤ 1048576 →
    ref01_Count_l3 k0 n s k (m : Nat) (i : Nat) = k0 ((m + (s.drop i).countP (fun c => octet_Is c k) : Nat) : Int)
  | d, i, 0, m, hi, hn, hm => by omega
  | 0, i, n + 1, m, hi, hn, hm => by
    show ref01_Count_l3_b k0 (ref01_Count_l3 k0 n) n _ _ _ _ = _
    unfold ref01_Count_l3_b
    rw [dF (by omega), cond_false, List.drop_eq_nil_of_le (by omega)]
    rfl
  | d + 1, i, n + 1, m, hi, hn, hm => by
    show ref01_Count_l3_b k0 (ref01_Count_l3 k0 n) n _ _ _ _ = _
    unfold ref01_Count_l3_b
    have hlt : i < s.length := by omega
    have ih := refCount_loop k0 s k hl d (i + 1) n m (by omega) (by omega) (by omega)
    have ih2 := refCount_loop k0 s k hl d (i + 1) n (m + 1) (by omega) (by omega) (by omega)
    rw [getD_drop (d := (0 : UInt8)) hlt, List.countP_cons]
    simp (disch := omega) only [dT, cond_true, Bool.and_true, tn, i64_succ]
    rw [show ref01_Is (s.getD i 0) k = octet_Is (s.getD i 0) k from rfl]
    cases octet_Is (s.getD i 0) k with
    | true => rw [cond_true, ih2]; congr 2; simp; omega
    | false => rw [cond_false, ih]; congr 2
theorem ref01_Count_math : ∀ (s0 : List UInt8) (kinds1 : Int), (ref01_Count_ok s0 kinds1 = true) → ∃ n, ref01_Count_sh n s0 kinds1 = ref01_Count_ret (ref01_Count s0 kinds1) := fun s k h => ⟨s.length + 1, by
  have hl := lenOk_le h
  unfold ref01_Count_sh
  have := refCount_loop (ref01_Count_k3_0 (s.length + 1)) s k hl s.length 0 (s.length + 1) 0 (by omega) (by omega) (by omega)
  refine Eq.trans this ?_
  rw [Nat.zero_add, List.drop_zero]
  rfl⟩
end Go.Av
