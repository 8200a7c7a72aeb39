import Derived.Test.YtejhjmmdachijaaDoorQrP3
namespace Go.Av
set_option linter.unusedVariables false
set_option linter.unusedSimpArgs false
theorem line_read_len (l : List UInt8) : (z25 l).1.length ≤ l.length := Nat.le_trans (unesc_len 0 (bareL l)).1 (bareL_len l)
theorem strangeL_len (l : List UInt8) : strangeL l ≤ l.length := Nat.le_trans (unesc_len 0 (bareL l)).2 (bareL_len l)
def readG (s : List UInt8) : List UInt8 := (linesS false [] s).flatMap readLn
theorem rest_of_nil {s : List UInt8} (h : behind s = []) : lineOf s = s ∧ endOf s = [] ∧ restOf s = [] := by
  refine ⟨?_, ?_, ?_⟩
  · have := line_behind s; rw [h, List.append_nil] at this; exact this
  · unfold endOf; rw [h]; rfl
  · unfold restOf; rw [h]; rfl
theorem readG_step (s : List UInt8) : readG s = readLn (lineOf s, endOf s) ++ readG (restOf s) := by
  unfold readG
  rw [linesS_step s []]
  cases hb : (behind s).isEmpty with
  | true =>
    obtain ⟨h1, h2, h3⟩ := rest_of_nil (List.isEmpty_iff.1 hb)
    rw [h1, h2, h3]
    show [(s, [])].flatMap readLn = readLn (s, []) ++ [([], [])].flatMap readLn
    simp only [List.flatMap_cons, List.flatMap_nil]
    rfl
  | false => rfl
def strangeG (s : List UInt8) : Nat := strangeN (linesS false [] s)
theorem strangeG_step (s : List UInt8) : strangeG s = strangeL (lineOf s) + strangeG (restOf s) := by
  unfold strangeG
  rw [linesS_step s []]
  cases hb : (behind s).isEmpty with
  | true =>
    obtain ⟨h1, h2, h3⟩ := rest_of_nil (List.isEmpty_iff.1 hb)
    rw [h1, h3]
    rfl
  | false => rfl
theorem readLn_len (l e : List UInt8) : (readLn (l, e)).length ≤ l.length + e.length := by
  unfold readLn
  rw [List.length_append]
  have := line_read_len l
  cases (z25 l).2
  · simp only [cond_false]; omega
  · simp only [cond_true, List.length_nil]; omega
theorem readG_len : ∀ (n : Nat) (s : List UInt8), s.length ≤ n → (readG s).length ≤ s.length
  | n, [], _ => Nat.le_refl _
  | 0, x :: r, h => by simp at h
  | n + 1, x :: r, h => by
    have hr := rest_lt (s := x :: r) (by simp)
    have hp := parts_len (x :: r)
    have ih := readG_len n (restOf (x :: r)) (by omega)
    rw [readG_step, List.length_append]
    have := readLn_len (lineOf (x :: r)) (endOf (x :: r))
    omega
theorem read_round (n : Nat) (out l e : List UInt8) (hl : l.length ≤ 1048576) (hr : out.length + l.length + e.length ≤ room) :
    z27_r5 n (false, (out, ())) l e = (true, true, (false, (out ++ readLn (l, e), ()))) := by
  unfold z27_r5
  have h1 := line_read_len l
  have ok : z25_ok l = true := lenOk_of hl
  simp only [cond_false]
  rw [ok]
  simp (disch := omega) only [Bool.and_true, cond_true, dT]
  unfold readLn
  cases (z25 l).2 with
  | true =>
    simp only [Bool.not_true, cond_false, cond_true, List.append_nil]
    rw [yfin_some]
    rfl
  | false =>
    simp only [Bool.not_false, cond_true, cond_false]
    rw [dT (by rw [List.length_append]; omega), cond_true, yfin_some, List.append_assoc]
    rfl
theorem read_all (k : Nat) : ∀ (m : Nat) (s out : List UInt8), s.length < m → s.length ≤ 1048576 → out.length + s.length ≤ room → linesF (z27_r5 k) m (false, (out, ())) s = (true, (false, (out ++ readG s, ())), [])
  | 0, s, out, h, _, _ => by omega
  | m + 1, [], out, _, _, _ => by
    show (true, (false, (out, ())), []) = _
    rw [show readG [] = [] from rfl, List.append_nil]
  | m + 1, x :: r, out, h, hl, hr => by
    have hlt := rest_lt (s := x :: r) (by simp)
    have hp := parts_len (x :: r)
    have hrd := readLn_len (lineOf (x :: r)) (endOf (x :: r))
    unfold linesF
    rw [show (x :: r).isEmpty = false from rfl, cond_false, read_round k out _ _ (by omega) (by omega)]
    simp only [cond_true]
    rw [read_all k m (restOf (x :: r)) _ (by omega) (by omega) (by rw [List.length_append]; omega), readG_step (x :: r), List.append_assoc]
theorem z27_math : ∀ (s0 : List UInt8), (z27_ok s0 = true) → ∃ n, z27_sh n s0 = z27_ret (z27 s0) := fun s h => ⟨0, by
  have hl := lenOk_le h
  unfold z27_sh
  have e : z62 (z27_r5 0) (false, (([] : List UInt8), ())) s = (true, (false, (readG s, ())), []) := by
    unfold z62
    rw [show lenOk s = true from h, cond_true, read_all 0 (s.length + 1) s [] (by omega) hl (by show 0 + s.length ≤ room; unfold room; omega)]
    rfl
  rw [e]
  rfl⟩
theorem strange_round (n k : Nat) (l e : List UInt8) (hl : l.length ≤ 1048576) (hk : k + l.length ≤ 4611686018427387903) :
    z31_r4 n (false, ((k : Int), ())) l e = (true, true, (false, (((k + strangeL l : Nat) : Int), ()))) := by
  unfold z31_r4
  have h1 := strangeL_len l
  have h2 := bareL_len l
  simp only [cond_false]
  rw [show z45_ok l = true from lenOk_of hl, show z46_ok (z45 l).1 = true from lenOk_of (by show (bareL l).length ≤ _; omega)]
  simp only [Bool.and_true, cond_true]
  rw [yfin_some, show ((z46 (z45 l).1).2 : Int) = ((strangeL l : Nat) : Int) from rfl, show IntKind.wrap .i64 ((k : Int) + ((strangeL l : Nat) : Int)) = ((k + strangeL l : Nat) : Int) by rw [IntWalk.i64_in _ (by omega)]; omega]
  rfl
theorem strange_all (j : Nat) : ∀ (m : Nat) (s : List UInt8) (k : Nat), s.length < m → s.length ≤ 1048576 → k + s.length ≤ 1048576 → linesF (z31_r4 j) m (false, ((k : Int), ())) s = (true, (false, (((k + strangeG s : Nat) : Int), ())), [])
  | 0, s, k, h, _, _ => by omega
  | m + 1, [], k, _, _, _ => rfl
  | m + 1, x :: r, k, h, hl, hr => by
    have hlt := rest_lt (s := x :: r) (by simp)
    have hp := parts_len (x :: r)
    have hrd := strangeL_len (lineOf (x :: r))
    unfold linesF
    rw [show (x :: r).isEmpty = false from rfl, cond_false, strange_round j k _ _ (by omega) (by omega)]
    simp only [cond_true]
    rw [strange_all j m (restOf (x :: r)) _ (by omega) (by omega) (by omega), strangeG_step (x :: r), Nat.add_assoc]
theorem z31_math : ∀ (s0 : List UInt8), (z31_ok s0 = true) → ∃ n, z31_sh n s0 = z31_ret (z31 s0) := fun s h => ⟨0, by
  have hl := lenOk_le h
  unfold z31_sh
  have e : z62 (z31_r4 0) (false, ((0 : Int), ())) s = (true, (false, (((0 + strangeG s : Nat) : Int), ())), []) := by
    unfold z62
    rw [show lenOk s = true from h, cond_true]
    exact strange_all 0 (s.length + 1) s 0 (by omega) hl (by omega)
  rw [e, Nat.zero_add]
  rfl⟩
theorem checkOk {s : List UInt8} (hl : s.length ≤ 1048576) : z12_ok s = true := lenOk_of hl
theorem z29_math : ∀ (s0 : List UInt8), (z29_ok s0 = true) → ∃ n, z29_sh n s0 = z29_ret (z29 s0).1 (z29 s0).2 := fun s h => ⟨0, by
  have hl := lenOk_le h
  unfold z29_sh z29
  rw [checkOk hl, show z27_ok s = true from h]
  by_cases hc : z12 s = 0
  · rw [hc]; rfl
  · have e1 : (z12 s != 0) = true := by simp [bne, hc]
    have e2 : (z12 s == 0) = false := by simp [hc]
    rw [e1, e2]; rfl⟩
theorem z30_math : ∀ (s0 : List UInt8), (z30_ok s0 = true) → ∃ n, z30_sh n s0 = z30_ret (z30 s0).1 (z30 s0).2 := fun s h => ⟨0, by
  have hl := lenOk_le h
  unfold z30_sh z30 z29
  rw [show z13_ok s = true from lenOk_of hl, show z28_ok s = true from h, show z13 s = z12 s from rfl]
  by_cases hc : z12 s = 0
  · rw [hc]; rfl
  · have e1 : (z12 s != 0) = true := by simp [bne, hc]
    have e2 : (z12 s == 0) = false := by simp [hc]
    rw [e1, e2]; rfl⟩
theorem z27_len (s : List UInt8) : (z27 s).length ≤ s.length := readG_len s.length s (Nat.le_refl _)
theorem z32_math : ∀ (s0 : List UInt8), (z32_ok s0 = true) → ∃ n, z32_sh n s0 = z32_ret (z32 s0) := fun s h => ⟨0, by
  have hl := lenOk_le h
  have := z27_len s
  unfold z32_sh
  rw [show z27_ok s = true from h, show z16_ok (z27 s) = true from lenOk_of (by omega)]
  rfl⟩
theorem linesS_skip (cur : List UInt8) (x : UInt8) (r : List UInt8) : linesS true cur (x :: r) = linesS false cur r := rfl
theorem readC_nil (cur : List UInt8) : (linesS false cur []).flatMap readLn = (z25 cur).1 := by
  show [(cur, [])].flatMap readLn = _
  simp only [List.flatMap_cons, List.flatMap_nil, List.append_nil]
  unfold readLn
  cases (z25 cur).2 <;> simp
theorem refRead_loop (k0 : List UInt8 → Int → Option AV) (s : List UInt8) (hl : s.length ≤ 1048576) : ∀ (d i n st : Nat) (out line : List UInt8), i + d = s.length → d + 1 < n → line.length ≤ i → out.length + line.length + d ≤ 1048576 → st + line.length + d ≤ 1048576 →
    z28_l4 k0 n s out line (st : Int) (i : Int) = k0 (out ++ (linesS false line (s.drop i)).flatMap readLn) ((st + strangeN (linesS false line (s.drop i)) : Nat) : Int)
  | d, i, 0, st, out, line, hi, hn, _, _, _ => by omega
  | d, i, n + 1, st, out, line, hi, hn, hli, hb, hs => by
    have hLine : z26_ok line = true := lenOk_of (by omega)
    have hlen : (z26 line).1.length ≤ line.length := line_read_len line
    have hstr := strangeL_len line
    have hw : IntKind.wrap .i64 ((st : Int) + (z26 line).2.2) = ((st + strangeL line : Nat) : Int) := by
      rw [show (z26 line).2.2 = ((strangeL line : Nat) : Int) from rfl, IntWalk.i64_in _ (by omega)]; omega
    show z28_l4_b _ _ n _ _ _ _ _ = _
    unfold z28_l4_b
    rw [hLine, hw, tn, dT (show (i : Int) ≤ ((s.length : Nat) : Int) by omega), cond_true]
    have hroom : room = 1073741824 := rfl
    cases d with
    | zero =>
      have he : i = s.length := by omega
      subst he
      rw [dF (by omega), cond_false, List.drop_length, readC_nil]
      simp (disch := omega) only [dT, cond_true, Bool.and_true]
      rw [show (((s.length : Nat) : Int) == ((s.length : Nat) : Int)) = true by simp, cond_true]
      rfl
    | succ d =>
      have hlt : i < s.length := by omega
      have hne : ((i : Int) == ((s.length : Nat) : Int)) = false := by simp; omega
      rw [dT (show (i : Int) < ((s.length : Nat) : Int) by omega), hne]
      simp (disch := omega) only [dT, cond_true, cond_false, Bool.and_true]
      rw [i64_succ (by omega), tn, getD_drop (d := (0 : UInt8)) hlt]
      have hstep : linesS false line (s.getD i 0 :: s.drop (i + 1)) = bif isBrk (s.getD i 0) then
          bif (s.getD i 0 == 13) && ((s.drop (i + 1)).head? == some 10) then (line, [13, 10]) :: linesS true [] (s.drop (i + 1)) else (line, [s.getD i 0]) :: linesS false [] (s.drop (i + 1))
        else linesS false (line ++ [s.getD i 0]) (s.drop (i + 1)) := rfl
      have h2 : ∀ (h2 : i + 1 < s.length), ((s.drop (i + 1)).head? == some 10) = (s.getD (i + 1) 0 == 10) := fun h2 => by
        rw [getD_drop (d := (0 : UInt8)) h2]; rfl
      have h3 : ¬ i + 1 < s.length → ((s.drop (i + 1)).head? == some (10 : UInt8)) = false := fun h3 => by rw [List.drop_eq_nil_of_le (by omega)]; rfl
      rw [hstep]
      generalize hc : s.getD i 0 = c
      have goLine : ∀ (h13 : (c != 13) = true) (h10 : (c != 10) = true), isBrk c = false := fun h13 h10 => by
        unfold isBrk; simp only [bne, Bool.not_eq_true'] at h13 h10; rw [h13, h10]; rfl
      have go1 : ∀ out', out'.length ≤ out.length + line.length + 1 → z28_l4 k0 n s out' [] ((st + strangeL line : Nat) : Int) ((i + 1 : Nat) : Int) = k0 (out' ++ (linesS false [] (s.drop (i + 1))).flatMap readLn) ((st + strangeL line + strangeN (linesS false [] (s.drop (i + 1))) : Nat) : Int) :=
        fun out' ho => refRead_loop k0 s hl d (i + 1) n (st + strangeL line) out' [] (by omega) (by omega) (by simp) (by simp only [List.length_nil]; omega) (by simp only [List.length_nil]; omega)
      have fin1 : isBrk c = true → ((c == 13) && ((s.drop (i + 1)).head? == some 10)) = false →
          (bif !((z26 line).2.1) then (bif decide (List.length (out ++ (z26 line).1) + List.length [c] ≤ room) then z28_l4 k0 n s (out ++ (z26 line).1 ++ [c]) [] ((st + strangeL line : Nat) : Int) ((i + 1 : Nat) : Int) else none)
            else z28_l4 k0 n s (out ++ (z26 line).1) [] ((st + strangeL line : Nat) : Int) ((i + 1 : Nat) : Int)) =
          k0 (out ++ List.flatMap readLn (bif isBrk c then bif (c == 13) && ((s.drop (i + 1)).head? == some 10) then (line, [13, 10]) :: linesS true [] (s.drop (i + 1)) else (line, [c]) :: linesS false [] (s.drop (i + 1)) else linesS false (line ++ [c]) (s.drop (i + 1))))
            ((st + strangeN (bif isBrk c then bif (c == 13) && ((s.drop (i + 1)).head? == some 10) then (line, [13, 10]) :: linesS true [] (s.drop (i + 1)) else (line, [c]) :: linesS false [] (s.drop (i + 1)) else linesS false (line ++ [c]) (s.drop (i + 1))) : Nat) : Int) := fun k1 k2 => by
        rw [k1, k2]
        simp only [cond_true, cond_false, List.flatMap_cons]
        have es : strangeN ((line, [c]) :: linesS false [] (s.drop (i + 1))) = strangeL line + strangeN (linesS false [] (s.drop (i + 1))) := rfl
        rw [es, ← Nat.add_assoc]
        have er : readLn (line, [c]) = (z26 line).1 ++ (bif (z26 line).2.1 then [] else [c]) := rfl
        rw [er]
        cases (z26 line).2.1 with
        | true =>
          simp only [Bool.not_true, cond_false, cond_true, List.append_nil]
          rw [go1 _ (by rw [List.length_append]; omega), List.append_assoc]
        | false =>
          simp only [Bool.not_false, cond_true, cond_false]
          rw [dT (by simp only [List.length_append, List.length_cons, List.length_nil]; omega), cond_true, go1 _ (by simp only [List.length_append, List.length_cons, List.length_nil]; omega)]
          simp only [List.append_assoc]
      by_cases h13 : c = 13
      · subst h13
        rw [show ((13 : UInt8) != 13) = false from rfl, cond_false, show ((13 : UInt8) == 13) = true from rfl, cond_true]
        by_cases hlt2 : i + 1 < s.length
        · rw [dT (show ((i + 1 : Nat) : Int) < ((s.length : Nat) : Int) by omega), cond_true, i64_succ (by omega)]
          simp (disch := omega) only [dT, cond_true, Bool.and_true]
          cases h10 : s.getD (i + 1) 0 == 10 with
          | true =>
            simp only [cond_true]
            have e1 : s.drop (i + 1) = s.getD (i + 1) 0 :: s.drop (i + 1 + 1) := getD_drop (d := (0 : UInt8)) hlt2
            rw [h2 hlt2, h10]
            simp only [Bool.and_true, cond_true, show isBrk 13 = true from rfl, show ((13 : UInt8) == 13) = true from rfl]
            rw [e1, linesS_skip]
            obtain ⟨d', rfl⟩ : ∃ d', d = d' + 1 := ⟨d - 1, by omega⟩
            have go2 : ∀ out', out'.length ≤ out.length + line.length + 2 → z28_l4 k0 n s out' [] ((st + strangeL line : Nat) : Int) ((i + 1 + 1 : Nat) : Int) = k0 (out' ++ (linesS false [] (s.drop (i + 1 + 1))).flatMap readLn) ((st + strangeL line + strangeN (linesS false [] (s.drop (i + 1 + 1))) : Nat) : Int) :=
              fun out' ho => refRead_loop k0 s hl d' (i + 1 + 1) n (st + strangeL line) out' [] (by omega) (by omega) (by simp) (by simp only [List.length_nil]; omega) (by simp only [List.length_nil]; omega)
            have es : strangeN ((line, [13, 10]) :: linesS false [] (s.drop (i + 1 + 1))) = strangeL line + strangeN (linesS false [] (s.drop (i + 1 + 1))) := rfl
            rw [es, ← Nat.add_assoc, List.flatMap_cons, show readLn (line, [13, 10]) = (z26 line).1 ++ (bif (z26 line).2.1 then [] else [13, 10]) from rfl]
            cases (z26 line).2.1 with
            | true =>
              simp only [Bool.not_true, cond_false, cond_true, List.append_nil]
              rw [go2 _ (by rw [List.length_append]; omega), List.append_assoc]
            | false =>
              simp only [Bool.not_false, cond_true, cond_false]
              rw [dT (by simp only [List.length_append, List.length_cons, List.length_nil]; omega), cond_true, dT (by simp only [List.length_append, List.length_cons, List.length_nil]; omega), cond_true, go2 _ (by simp only [List.length_append, List.length_cons, List.length_nil]; omega)]
              simp only [List.append_assoc]
              rfl
          | false =>
            simp only [cond_false]
            exact fin1 rfl (by rw [h2 hlt2, h10]; rfl)
        · rw [dF (show ¬ ((i + 1 : Nat) : Int) < ((s.length : Nat) : Int) by omega), cond_false]
          exact fin1 rfl (by rw [h3 hlt2]; rfl)
      · have e13 : (c == 13) = false := by simp [h13]
        have n13 : (c != 13) = true := by simp [bne, h13]
        rw [n13, cond_true, e13]
        by_cases h10 : c = 10
        · subst h10
          rw [show ((10 : UInt8) != 10) = false from rfl, cond_false, cond_false]
          exact fin1 rfl rfl
        · have n10 : (c != 10) = true := by simp [bne, h10]
          rw [n10, cond_true, dT (by simp only [List.length_cons, List.length_nil]; omega), cond_true, goLine n13 n10, cond_false]
          exact refRead_loop k0 s hl d (i + 1) n st out (line ++ [c]) (by omega) (by omega) (by simp; omega) (by simp only [List.length_append, List.length_cons, List.length_nil]; omega) (by simp only [List.length_append, List.length_cons, List.length_nil]; omega)
  termination_by d => d
theorem z28_math : ∀ (s0 : List UInt8), (z28_ok s0 = true) → ∃ n, z28_sh n s0 = z28_ret (z28 s0).1 (z28 s0).2 := fun s h => ⟨s.length + 2, by
  have hl := lenOk_le h
  unfold z28_sh
  have := refRead_loop (z28_k4_0 (s.length + 2)) s hl s.length 0 (s.length + 2) 0 [] [] (by omega) (by omega) (Nat.le_refl _) (by simp only [List.length_nil]; omega) (by simp only [List.length_nil]; omega)
  rw [show ((0 : Nat) : Int) = 0 from rfl] at this
  rw [this, List.drop_zero, Nat.zero_add]
  rfl⟩
end Go.Av
