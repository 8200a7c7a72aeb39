import Derived.Test.YtejhjmmdachijaaDoorQrP2
namespace Go.Av
set_option linter.unusedVariables false
set_option linter.unusedSimpArgs false
theorem brk_contains (c : UInt8) : ([13, 10] : List UInt8).contains c = isBrk c := by
  unfold isBrk
  simp only [List.contains_cons, List.contains_nil, Bool.or_false]
theorem line_behind (s : List UInt8) : lineOf s ++ behind s = s := List.takeWhile_append_dropWhile
theorem anyAt_line : ∀ (s : List UInt8) (i : Int), anyAt [13, 10] s i = bif (behind s).isEmpty then -1 else i + ((lineOf s).length : Nat)
  | [], i => rfl
  | x :: r, i => by
    show (bif ([13, 10] : List UInt8).contains x then i else anyAt [13, 10] r (i + 1)) = _
    rw [brk_contains]
    cases hb : isBrk x with
    | true =>
      have e1 : behind (x :: r) = x :: r := by unfold behind; rw [List.dropWhile_cons, hb]; rfl
      have e2 : lineOf (x :: r) = [] := by unfold lineOf; rw [List.takeWhile_cons, hb]; rfl
      rw [e1, e2]
      show i = i + 0
      omega
    | false =>
      have e1 : behind (x :: r) = behind r := by unfold behind; rw [List.dropWhile_cons, hb]; rfl
      have e2 : lineOf (x :: r) = x :: lineOf r := by unfold lineOf; rw [List.takeWhile_cons, hb]; rfl
      rw [e1, e2, cond_false, anyAt_line r (i + 1)]
      cases (behind r).isEmpty
      · simp only [cond_false, List.length_cons]; omega
      · rfl
theorem brkA_le : ∀ l : List UInt8, brkA l ≤ l.length
  | [] => Nat.le_refl _
  | [x] => Nat.le_refl _
  | x :: y :: r => by
    show (bif (x == 13) && (y == 10) then 2 else 1) ≤ _
    simp only [List.length_cons]
    cases (x == 13) && (y == 10) <;> simp
theorem brkA_pos : ∀ l : List UInt8, l ≠ [] → 0 < brkA l
  | [], h => absurd rfl h
  | [x], _ => Nat.one_pos
  | x :: y :: r, _ => by
    show 0 < (bif (x == 13) && (y == 10) then 2 else 1)
    cases (x == 13) && (y == 10) <;> decide
theorem parts_len (s : List UInt8) : (lineOf s).length + (endOf s).length + (restOf s).length = s.length := by
  have h := congrArg List.length (line_behind s)
  rw [List.length_append] at h
  unfold endOf restOf
  rw [List.length_take, List.length_drop]
  have := brkA_le (behind s)
  omega
theorem rest_lt {s : List UInt8} (h : s ≠ []) : (restOf s).length < s.length := by
  have hp := parts_len s
  cases hb : behind s with
  | nil =>
    have h1 := line_behind s
    rw [hb, List.append_nil] at h1
    have : restOf s = [] := by unfold restOf; rw [hb]; rfl
    rw [this]
    cases s with
    | nil => exact absurd rfl h
    | cons x r => simp
  | cons x r =>
    have := brkA_pos (behind s) (by rw [hb]; simp)
    have h2 := brkA_le (behind s)
    have h3 : (endOf s).length = brkA (behind s) := by unfold endOf; rw [List.length_take]; omega
    omega
theorem anyOk {s : List UInt8} (hl : s.length ≤ 1048576) : z63_ok s [13, 10] = true := by
  unfold z63_ok
  rw [lenOk_of hl]
  rfl
theorem take_line (s : List UInt8) : s.take (lineOf s).length = lineOf s := by
  have := congrArg (List.take (lineOf s).length) (line_behind s)
  rw [List.take_left] at this
  exact this.symm
theorem drop_line (s : List UInt8) : s.drop (lineOf s).length = behind s := by
  have := congrArg (List.drop (lineOf s).length) (line_behind s)
  rw [List.drop_left] at this
  exact this.symm
theorem yLines_loop (V : Sigma Inv) (K : Den V.1 → List UInt8 → Option AV) : ∀ (m : Nat) (x : Den V.1) (s : List UInt8), s.length ≤ 1048576 → (linesF (fun x a0 a1 => V.2.spec x [⟨(.sl .byte), a0⟩, ⟨(.sl .byte), a1⟩]) m x s).1 = true →
    z62_l0 V K K m x s = K (linesF (fun x a0 a1 => V.2.spec x [⟨(.sl .byte), a0⟩, ⟨(.sl .byte), a1⟩]) m x s).2.1 (linesF (fun x a0 a1 => V.2.spec x [⟨(.sl .byte), a0⟩, ⟨(.sl .byte), a1⟩]) m x s).2.2
  | 0, x, s, _, h => by cases h
  | m + 1, x, s, hl, h => by
    show z62_l0_b V K K (z62_l0 V K K m) m x s = _
    unfold z62_l0_b
    unfold linesF at h ⊢
    by_cases hs : s = []
    · subst hs; rfl
    · have e0 : s.isEmpty = false := by cases s with
        | nil => exact absurd rfl hs
        | cons _ _ => rfl
      have hpos : 0 < s.length := List.length_pos_iff.2 hs
      rw [e0, cond_false] at h
      rw [e0, cond_false, dT (show (0 : Int) < ((s.length : Nat) : Int) by omega), cond_true, anyOk hl]
      simp only [Bool.and_true, cond_true]
      have hp := parts_len s
      have hb := brkA_le (behind s)
      have hlb := congrArg List.length (line_behind s)
      rw [List.length_append] at hlb
      have hrl := rest_lt hs
      have fin : (bif (V.2.spec x [⟨(.sl .byte), lineOf s⟩, ⟨(.sl .byte), endOf s⟩]).1 then (bif !(V.2.spec x [⟨(.sl .byte), lineOf s⟩, ⟨(.sl .byte), endOf s⟩]).2.1 then K (V.2.spec x [⟨(.sl .byte), lineOf s⟩, ⟨(.sl .byte), endOf s⟩]).2.2 s
          else z62_l0 V K K m (V.2.spec x [⟨(.sl .byte), lineOf s⟩, ⟨(.sl .byte), endOf s⟩]).2.2 (restOf s)) else none) = _ := (?_ : _ = K (bif (V.2.spec x [⟨(.sl .byte), lineOf s⟩, ⟨(.sl .byte), endOf s⟩]).1 then
            bif (V.2.spec x [⟨(.sl .byte), lineOf s⟩, ⟨(.sl .byte), endOf s⟩]).2.1 then linesF (fun x a0 a1 => V.2.spec x [⟨(.sl .byte), a0⟩, ⟨(.sl .byte), a1⟩]) m (V.2.spec x [⟨(.sl .byte), lineOf s⟩, ⟨(.sl .byte), endOf s⟩]).2.2 (restOf s) else (true, (V.2.spec x [⟨(.sl .byte), lineOf s⟩, ⟨(.sl .byte), endOf s⟩]).2.2, s)
            else (false, x, s)).2.1 (bif (V.2.spec x [⟨(.sl .byte), lineOf s⟩, ⟨(.sl .byte), endOf s⟩]).1 then
            bif (V.2.spec x [⟨(.sl .byte), lineOf s⟩, ⟨(.sl .byte), endOf s⟩]).2.1 then linesF (fun x a0 a1 => V.2.spec x [⟨(.sl .byte), a0⟩, ⟨(.sl .byte), a1⟩]) m (V.2.spec x [⟨(.sl .byte), lineOf s⟩, ⟨(.sl .byte), endOf s⟩]).2.2 (restOf s) else (true, (V.2.spec x [⟨(.sl .byte), lineOf s⟩, ⟨(.sl .byte), endOf s⟩]).2.2, s)
            else (false, x, s)).2.2)
      · have eA : z63 s [13, 10] = bif (behind s).isEmpty then (-1 : Int) else (((lineOf s).length : Nat) : Int) := by
          unfold z63
          rw [anyAt_line]
          cases (behind s).isEmpty
          · simp only [cond_false]; omega
          · rfl
        rw [eA]
        cases hbe : (behind s).isEmpty with
        | true =>
          have hbn : behind s = [] := List.isEmpty_iff.1 hbe
          have hls : lineOf s = s := by have := line_behind s; rw [hbn, List.append_nil] at this; exact this
          have eE : endOf s = [] := by unfold endOf; rw [hbn]; rfl
          have eR : restOf s = [] := by unfold restOf; rw [hbn]; rfl
          rw [eE, eR, hls] at fin
          simp only [cond_true, tn, List.take_length, List.drop_length]
          rw [show z64 [] = 0 from rfl, Int.add_zero, wr (show -9223372036854775808 ≤ ((s.length : Nat) : Int) ∧ ((s.length : Nat) : Int) ≤ 9223372036854775807 by omega)]
          simp (disch := omega) only [dT, cond_true, cond_false, Bool.and_true, tn, List.take_length, List.drop_length]
          rw [hls, eE, eR]
          exact fin
        | false =>
          have eB : List.drop (lineOf s).length s = behind s := drop_line s
          simp only [cond_false, tn, List.take_length]
          rw [dF (show ¬ (((lineOf s).length : Nat) : Int) < 0 by omega), cond_false, eB, show z64 (behind s) = ((brkA (behind s) : Nat) : Int) from rfl,
            show IntKind.wrap .i64 ((((lineOf s).length : Nat) : Int) + ((brkA (behind s) : Nat) : Int)) = (((lineOf s).length + brkA (behind s) : Nat) : Int) by rw [IntWalk.i64_in _ (by omega)]; omega, tn]
          simp (disch := omega) only [dT, cond_true, cond_false, Bool.and_true]
          have eT : List.drop 0 (List.take (lineOf s).length s) = lineOf s := take_line s
          have eE : List.drop (lineOf s).length (List.take ((lineOf s).length + brkA (behind s)) s) = endOf s := by
            unfold endOf
            rw [List.drop_take, eB, Nat.add_sub_cancel_left]
          have eR : List.drop ((lineOf s).length + brkA (behind s)) s = restOf s := by
            unfold restOf
            rw [← eB, List.drop_drop]
          rw [eT, eE, eR]
          exact fin
      · cases h1 : (V.2.spec x [⟨(.sl .byte), lineOf s⟩, ⟨(.sl .byte), endOf s⟩]).1 with
        | false => rw [h1] at h; cases h
        | true =>
          rw [h1] at h
          simp only [cond_true] at h ⊢
          cases h2 : (V.2.spec x [⟨(.sl .byte), lineOf s⟩, ⟨(.sl .byte), endOf s⟩]).2.1 with
          | false => rfl
          | true =>
            rw [h2] at h
            simp only [cond_true, Bool.not_true, cond_false] at h ⊢
            exact yLines_loop V K m _ (restOf s) (by omega) h
theorem z62_math (V : Sigma Inv) : ∀ (x0 : Den V.1) (x1 : List UInt8), (z62 (fun x a0 a1 => V.2.spec x [⟨(.sl .byte), a0⟩, ⟨(.sl .byte), a1⟩]) x0 x1).1 = true → ∃ n, z62_sh V n x0 x1 = z62_ret V (z62 (fun x a0 a1 => V.2.spec x [⟨(.sl .byte), a0⟩, ⟨(.sl .byte), a1⟩]) x0 x1).2.1 (z62 (fun x a0 a1 => V.2.spec x [⟨(.sl .byte), a0⟩, ⟨(.sl .byte), a1⟩]) x0 x1).2.2 := fun x s h => ⟨s.length + 1, by
  unfold z62 at h ⊢
  cases hl : lenOk s with
  | false => rw [hl] at h; cases h
  | true =>
    rw [hl] at h
    simp only [cond_true] at h ⊢
    exact yLines_loop V (z62_ret V) (s.length + 1) x s (lenOk_le hl) h⟩
theorem linesS_step : ∀ (s cur : List UInt8), linesS false cur s = bif (behind s).isEmpty then [(cur ++ s, [])] else (cur ++ lineOf s, endOf s) :: linesS false [] (restOf s)
  | [], cur => by show [(cur, [])] = [(cur ++ [], [])]; rw [List.append_nil]
  | x :: r, cur => by
    show (bif isBrk x then (bif (x == 13) && (r.head? == some 10) then (cur, [13, 10]) :: linesS true [] r else (cur, [x]) :: linesS false [] r) else linesS false (cur ++ [x]) r) = _
    cases hb : isBrk x with
    | true =>
      have e1 : behind (x :: r) = x :: r := by unfold behind; rw [List.dropWhile_cons, hb]; rfl
      have e2 : lineOf (x :: r) = [] := by unfold lineOf; rw [List.takeWhile_cons, hb]; rfl
      unfold endOf restOf
      rw [e1, e2, List.append_nil]
      simp only [cond_true, List.isEmpty_cons, cond_false]
      cases r with
      | nil =>
        have : ((x == 13) && (([] : List UInt8).head? == some 10)) = false := by simp
        rw [this]; rfl
      | cons y r' =>
        show (bif (x == 13) && (some y == some 10) then _ else _) = (cur, (x :: y :: r').take (bif (x == 13) && (y == 10) then 2 else 1)) :: linesS false [] ((x :: y :: r').drop (bif (x == 13) && (y == 10) then 2 else 1))
        rw [show (some y == some (10 : UInt8)) = (y == 10) from rfl]
        cases h1 : x == 13 with
        | false => rfl
        | true =>
          cases h2 : y == 10 with
          | false => rfl
          | true =>
            simp only [beq_iff_eq] at h1 h2
            subst h1 h2
            rfl
    | false =>
      have e1 : behind (x :: r) = behind r := by unfold behind; rw [List.dropWhile_cons, hb]; rfl
      have e2 : lineOf (x :: r) = x :: lineOf r := by unfold lineOf; rw [List.takeWhile_cons, hb]; rfl
      have e3 : endOf (x :: r) = endOf r := by unfold endOf; rw [e1]
      have e4 : restOf (x :: r) = restOf r := by unfold restOf; rw [e1]
      rw [cond_false, linesS_step r (cur ++ [x]), e1, e2, e3, e4]
      simp
end Go.Av
