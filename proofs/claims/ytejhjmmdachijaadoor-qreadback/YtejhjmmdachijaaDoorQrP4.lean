import Derived.Test.YtejhjmmdachijaaDoorQrP3
namespace Go.Av
set_option linter.unusedVariables false
set_option linter.unusedSimpArgs false
theorem line_read_len (l : List UInt8) : (z25 l).1.length ≤ l.length := Nat.le_trans (unesc_len 0 (bareL l)).1 (bareL_len l)
theorem strangeL_len (l : List UInt8) : strangeL l ≤ l.length := Nat.le_trans (unesc_len 0 (bareL l)).2 (bareL_len l)
def readG (s : List UInt8) : List UInt8 := (linesS false [] s).flatMap readLn
theorem rest_of_nil {s : List UInt8} (h : behind s = []) : lineOf s = s ∧ endOf s = [] ∧ restOf s = [] := by
  refine ⟨?_, ?_, ?_⟩
  · have := line_behind s; rw [h, List.append_nil] at this; exact this
  · unfold endOf; rw [h]; rfl
  · unfold restOf; rw [h]; rfl
theorem readG_step (s : List UInt8) : readG s = readLn (lineOf s, endOf s) ++ readG (restOf s) := by
  unfold readG
  rw [linesS_step s []]
  cases hb : (behind s).isEmpty with
  | true =>
    obtain ⟨h1, h2, h3⟩ := rest_of_nil (List.isEmpty_iff.1 hb)
    rw [h1, h2, h3]
    show [(s, [])].flatMap readLn = readLn (s, []) ++ [([], [])].flatMap readLn
    simp only [List.flatMap_cons, List.flatMap_nil]
    rfl
  | false => rfl
def strangeG (s : List UInt8) : Nat := strangeN (linesS false [] s)
theorem strangeG_step (s : List UInt8) : strangeG s = strangeL (lineOf s) + strangeG (restOf s) := by
  unfold strangeG
  rw [linesS_step s []]
  cases hb : (behind s).isEmpty with
  | true =>
    obtain ⟨h1, h2, h3⟩ := rest_of_nil (List.isEmpty_iff.1 hb)
    rw [h1, h3]
    rfl
  | false => rfl
theorem readLn_len (l e : List UInt8) : (readLn (l, e)).length ≤ l.length + e.length := by
  unfold readLn
  rw [List.length_append]
  have := line_read_len l
  cases (z25 l).2
  · simp only [cond_false]; omega
  · simp only [cond_true, List.length_nil]; omega
theorem readG_len : ∀ (n : Nat) (s : List UInt8), s.length ≤ n → (readG s).length ≤ s.length
  | n, [], _ => Nat.le_refl _
  | 0, x :: r, h => by simp at h
  | n + 1, x :: r, h => by
    have hr := rest_lt (s := x :: r) (by simp)
    have hp := parts_len (x :: r)
    have ih := readG_len n (restOf (x :: r)) (by omega)
    rw [readG_step, List.length_append]
    have := readLn_len (lineOf (x :: r)) (endOf (x :: r))
    omega
theorem read_round (n : Nat) (out l e : List UInt8) (hl : l.length ≤ 1048576) (hr : out.length + l.length + e.length ≤ room) :
    z27_r5 n (false, (out, ())) l e = (true, true, (false, (out ++ readLn (l, e), ()))) := by
  unfold z27_r5
  have h1 := line_read_len l
  have ok : z25_ok l = true := lenOk_of hl
  simp only [cond_false]
  rw [ok]
  simp (disch := omega) only [Bool.and_true, cond_true, dT]
  unfold readLn
  cases (z25 l).2 with
  | true =>
    simp only [Bool.not_true, cond_false, cond_true, List.append_nil]
    rw [yfin_some]
    rfl
  | false =>
    simp only [Bool.not_false, cond_true, cond_false]
    rw [dT (by rw [List.length_append]; omega), cond_true, yfin_some, List.append_assoc]
    rfl
theorem read_all (k : Nat) : ∀ (m : Nat) (s out : List UInt8), s.length < m → s.length ≤ 1048576 → out.length + s.length ≤ room → linesF (z27_r5 k) m (false, (out, ())) s = (true, (false, (out ++ readG s, ())), [])
  | 0, s, out, h, _, _ => by omega
  | m + 1, [], out, _, _, _ => by
    show (true, (false, (out, ())), []) = _
    rw [show readG [] = [] from rfl, List.append_nil]
  | m + 1, x :: r, out, h, hl, hr => by
    have hlt := rest_lt (s := x :: r) (by simp)
    have hp := parts_len (x :: r)
    have hrd := readLn_len (lineOf (x :: r)) (endOf (x :: r))
    unfold linesF
    rw [show (x :: r).isEmpty = false from rfl, cond_false, read_round k out _ _ (by omega) (by omega)]
    simp only [cond_true]
    rw [read_all k m (restOf (x :: r)) _ (by omega) (by omega) (by rw [List.length_append]; omega), readG_step (x :: r), List.append_assoc]
theorem z27_math : ∀ (s0 : List UInt8), (z27_ok s0 = true) → ∃ n, z27_sh n s0 = z27_ret (z27 s0) := fun s h => ⟨0, by
  have hl := lenOk_le h
  unfold z27_sh
  have e : z62 (z27_r5 0) (false, (([] : List UInt8), ())) s = (true, (false, (readG s, ())), []) := by
    unfold z62
    rw [show lenOk s = true from h, cond_true, read_all 0 (s.length + 1) s [] (by omega) hl (by show 0 + s.length ≤ room; unfold room; omega)]
    rfl
  rw [e]
  rfl⟩
theorem strange_round (n k : Nat) (l e : List UInt8) (hl : l.length ≤ 1048576) (hk : k + l.length ≤ 4611686018427387903) :
    z31_r4 n (false, ((k : Int), ())) l e = (true, true, (false, (((k + strangeL l : Nat) : Int), ()))) := by
  unfold z31_r4
  have h1 := strangeL_len l
  have h2 := bareL_len l
  simp only [cond_false]
  rw [show z45_ok l = true from lenOk_of hl, show z46_ok (z45 l).1 = true from lenOk_of (by show (bareL l).length ≤ _; omega)]
  simp only [Bool.and_true, cond_true]
  rw [yfin_some, show ((z46 (z45 l).1).2 : Int) = ((strangeL l : Nat) : Int) from rfl, show IntKind.wrap .i64 ((k : Int) + ((strangeL l : Nat) : Int)) = ((k + strangeL l : Nat) : Int) by rw [IntWalk.i64_in _ (by omega)]; omega]
  rfl
theorem strange_all (j : Nat) : ∀ (m : Nat) (s : List UInt8) (k : Nat), s.length < m → s.length ≤ 1048576 → k + s.length ≤ 1048576 → linesF (z31_r4 j) m (false, ((k : Int), ())) s = (true, (false, (((k + strangeG s : Nat) : Int), ())), [])
  | 0, s, k, h, _, _ => by omega
  | m + 1, [], k, _, _, _ => rfl
  | m + 1, x :: r, k, h, hl, hr => by
    have hlt := rest_lt (s := x :: r) (by simp)
    have hp := parts_len (x :: r)
    have hrd := strangeL_len (lineOf (x :: r))
    unfold linesF
    rw [show (x :: r).isEmpty = false from rfl, cond_false, strange_round j k _ _ (by omega) (by omega)]
    simp only [cond_true]
    rw [strange_all j m (restOf (x :: r)) _ (by omega) (by omega) (by omega), strangeG_step (x :: r), Nat.add_assoc]
theorem z31_math : ∀ (s0 : List UInt8), (z31_ok s0 = true) → ∃ n, z31_sh n s0 = z31_ret (z31 s0) := fun s h => ⟨0, by
  have hl := lenOk_le h
  unfold z31_sh
  have e : z62 (z31_r4 0) (false, ((0 : Int), ())) s = (true, (false, (((0 + strangeG s : Nat) : Int), ())), []) := by
    unfold z62
    rw [show lenOk s = true from h, cond_true]
    exact strange_all 0 (s.length + 1) s 0 (by omega) hl (by omega)
  rw [e, Nat.zero_add]
  rfl⟩
theorem checkOk {s : List UInt8} (hl : s.length ≤ 1048576) : z12_ok s = true := lenOk_of hl
theorem z29_math : ∀ (s0 : List UInt8), (z29_ok s0 = true) → ∃ n, z29_sh n s0 = z29_ret (z29 s0).1 (z29 s0).2 := fun s h => ⟨0, by
  have hl := lenOk_le h
  unfold z29_sh z29
  rw [checkOk hl, show z27_ok s = true from h]
  by_cases hc : z12 s = 0
  · rw [hc]; rfl
  · have e1 : (z12 s != 0) = true := by simp [bne, hc]
    have e2 : (z12 s == 0) = false := by simp [hc]
    rw [e1, e2]; rfl⟩
theorem z27_len (s : List UInt8) : (z27 s).length ≤ s.length := readG_len s.length s (Nat.le_refl _)
theorem z32_math : ∀ (s0 : List UInt8), (z32_ok s0 = true) → ∃ n, z32_sh n s0 = z32_ret (z32 s0) := fun s h => ⟨0, by
  have hl := lenOk_le h
  have := z27_len s
  unfold z32_sh
  rw [show z27_ok s = true from h, show z16_ok (z27 s) = true from lenOk_of (by omega)]
  rfl⟩
end Go.Av
