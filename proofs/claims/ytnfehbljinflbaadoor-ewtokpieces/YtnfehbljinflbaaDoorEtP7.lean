/-
  Gaps and runs; pieces.
-/
import Derived.Test.YtnfehbljinflbaaDoorEtP6
namespace Go.Av
theorem gaps_contains (c : UInt8) : ([32, 9, 13, 10] : List UInt8).contains c = gapB c := by
  unfold gapB
  simp only [List.contains_cons, List.contains_nil, Bool.or_false]
theorem gaps_fun : (fun c => ([32, 9, 13, 10] : List UInt8).contains c) = gapB := funext gaps_contains
theorem dw_nil (p : UInt8 → Bool) : ∀ l : List UInt8, l.dropWhile p = [] ↔ ∀ x ∈ l, p x = true
  | [] => by simp
  | c :: l => by
    rw [List.dropWhile_cons]
    cases hc : p c with
    | true =>
      rw [if_pos rfl, dw_nil p l]
      constructor
      · intro h x hx
        rcases List.mem_cons.1 hx with rfl | hx
        · exact hc
        · exact h x hx
      · intro h x hx
        exact h x (List.mem_cons_of_mem _ hx)
    | false =>
      rw [if_neg (by simp)]
      constructor
      · intro h
        cases h
      · intro h
        have := h c (List.mem_cons_self ..)
        rw [hc] at this
        cases this
theorem dropWhile_all (p : UInt8 → Bool) : ∀ l : List UInt8, (∀ x ∈ l.dropWhile p, p x = true) → l.dropWhile p = []
  | [], _ => rfl
  | c :: l, h => by
    rw [List.dropWhile_cons] at h ⊢
    cases hc : p c with
    | true =>
      rw [hc, if_pos rfl] at h
      rw [if_pos rfl]
      exact dropWhile_all p l h
    | false =>
      rw [hc, if_neg (by simp)] at h
      have := h c (List.mem_cons_self ..)
      rw [hc] at this
      cases this
theorem trim_nil (p : UInt8 → Bool) (s : List UInt8) : (trimBy p s = []) ↔ s.all p = true := by
  rw [List.all_eq_true]
  unfold trimBy dropR
  constructor
  · intro h x hx
    rw [dw_nil] at h
    have h2 := dropWhile_all p s.reverse (fun y hy => h y (List.mem_reverse.2 hy))
    rw [dw_nil] at h2
    exact h2 x (List.mem_reverse.2 hx)
  · intro h
    rw [(dw_nil p _).2 (fun x hx => h x (List.mem_reverse.1 hx))]
    rfl
theorem gaps_ok (s : List UInt8) (h : lenOk s = true) : bytes_Trim_ok s [32, 9, 13, 10] = true := by
  unfold bytes_Trim_ok
  rw [h]
  rfl
theorem ewtok_Kind_math : ∀ (run0 : List UInt8), (ewtok_Kind_ok run0 = true) → ∃ n, ewtok_Kind_sh n run0 = ewtok_Kind_ret (ewtok_Kind run0) := fun s h => ⟨0, by
  unfold ewtok_Kind_sh ewtok_Kind kindB
  rw [gaps_ok s h, show ewform_Is_ok s = true from h, show bytes_Trim s [32, 9, 13, 10] = trimBy gapB s by unfold bytes_Trim; rw [gaps_fun]]
  cases s with
  | nil => cases ewform_Is [] <;> rfl
  | cons x r =>
    rw [dT (show (0 : Int) < (((x :: r).length : Nat) : Int) by simp only [List.length_cons]; omega)]
    have := trim_nil gapB (x :: r)
    cases ha : (x :: r).all gapB with
    | true =>
      rw [this.2 ha]
      rfl
    | false =>
      have hne : (trimBy gapB (x :: r)).length ≠ 0 := fun e => by
        rw [this.1 (List.eq_nil_of_length_eq_zero e)] at ha
        cases ha
      rw [bneI (by omega)]
      cases ewform_Is (x :: r) <;> rfl⟩
theorem take_drop_len (p : UInt8 → Bool) (s : List UInt8) : (s.takeWhile p).length + (s.dropWhile p).length = s.length := by
  have := congrArg List.length (List.takeWhile_append_dropWhile (p := p) (l := s))
  rw [List.length_append] at this
  exact this
theorem ewtok_leading_math : ∀ (s0 : List UInt8), (ewtok_leading_ok s0 = true) → ∃ n, ewtok_leading_sh n s0 = ewtok_leading_ret (ewtok_leading s0) := fun s h => ⟨0, by
  have hl := lenOk_le h
  have := take_drop_len gapB s
  unfold ewtok_leading_sh
  rw [show bytes_TrimLeft_ok s [32, 9, 13, 10] = true from gaps_ok s h, show bytes_TrimLeft s [32, 9, 13, 10] = s.dropWhile gapB by unfold bytes_TrimLeft; rw [gaps_fun]]
  rw [wr (by omega)]
  unfold ewtok_leading
  rw [show (((s.length : Nat) : Int) - (((s.dropWhile gapB).length : Nat) : Int)) = (((s.takeWhile gapB).length : Nat) : Int) by omega]
  rfl⟩
theorem any_run : ∀ (s : List UInt8) (i : Int), 0 ≤ i → (anyAt [32, 9, 13, 10] s i = -1 ∧ s.takeWhile (fun c => !(gapB c)) = s) ∨ anyAt [32, 9, 13, 10] s i = i + ((s.takeWhile fun c => !(gapB c)).length : Nat)
  | [], i, _ => .inl ⟨rfl, rfl⟩
  | x :: r, i, hi => by
    have e : anyAt [32, 9, 13, 10] (x :: r) i = bif ([32, 9, 13, 10] : List UInt8).contains x then i else anyAt [32, 9, 13, 10] r (i + 1) := rfl
    rw [e, gaps_contains, List.takeWhile_cons]
    cases gapB x with
    | true => exact .inr (by simp)
    | false =>
      rcases any_run r (i + 1) (by omega) with ⟨h1, h2⟩ | h1
      · exact .inl ⟨h1, by simpa using h2⟩
      · refine .inr ?_
        rw [cond_false, h1]
        simp
        omega
theorem ewtok_run_math : ∀ (s0 : List UInt8), (ewtok_run_ok s0 = true) → ∃ n, ewtok_run_sh n s0 = ewtok_run_ret (ewtok_run s0) := fun s h => ⟨0, by
  unfold ewtok_run_sh
  have hok : bytes_IndexAny_ok s [32, 9, 13, 10] = true := by
    unfold bytes_IndexAny_ok
    rw [show lenOk s = true from h]
    rfl
  rw [hok]
  unfold bytes_IndexAny ewtok_run
  rcases any_run s 0 (Int.le_refl _) with ⟨h1, h2⟩ | h1
  · rw [h1, h2]
    rfl
  · rw [h1, dF (by omega), Int.zero_add]
    rfl⟩
theorem alike_eq : ∀ (s : List UInt8), s ≠ [] → (bif decide (ewtok_run s > ewtok_leading s) then ewtok_run s else ewtok_leading s) = ((alike s : Nat) : Int)
  | [], h => absurd rfl h
  | c :: r, _ => by
    unfold ewtok_run ewtok_leading
    show _ = (((r.takeWhile fun x => gapB x == gapB c).length + 1 : Nat) : Int)
    rw [List.takeWhile_cons, List.takeWhile_cons]
    cases hc : gapB c with
    | true =>
      have e : (fun x => gapB x == true) = gapB := funext fun x => by cases gapB x <;> rfl
      rw [e]
      simp only [Bool.not_true, Bool.false_eq_true, if_false, if_true, List.length_nil, List.length_cons]
      rw [dF (by omega)]
      rfl
    | false =>
      have e : (fun x => gapB x == false) = fun x => !(gapB x) := funext fun x => by cases gapB x <;> rfl
      rw [e]
      simp only [Bool.not_false, Bool.false_eq_true, if_false, if_true, List.length_nil, List.length_cons]
      rw [dT (by omega)]
      rfl
theorem alike_le (s : List UInt8) : alike s ≤ s.length := by
  cases s with
  | nil => exact Nat.le_refl _
  | cons c r =>
    unfold alike
    have := take_drop_len (fun x => gapB x == gapB c) r
    simp only [List.length_cons]
    omega
theorem alike_pos {s : List UInt8} (h : s ≠ []) : 1 ≤ alike s := by
  cases s with
  | nil => exact absurd rfl h
  | cons c r => exact Nat.le_add_left _ _
theorem piecesF_cons (f : Nat) {s : List UInt8} (h : s ≠ []) : piecesF (f + 1) s = (kindB (s.take (alike s)), (s.take (alike s), ())) :: piecesF f (s.drop (alike s)) := by
  show (if s = [] then [] else _) = _
  rw [if_neg h]
theorem piecesF_nil : ∀ f : Nat, piecesF f [] = []
  | 0 => rfl
  | _ + 1 => rfl
theorem Pieces_loop (k0 : List PieceT → Option AV) : ∀ (f : Nat) (s : List UInt8) (l : List PieceT) (n : Nat), s.length ≤ f → f < n → l.length + s.length ≤ 1048576 →
    ewtok_Pieces_l2 k0 n s l = k0 (l ++ piecesF f s)
  | f, s, l, 0, _, hn, _ => by omega
  | f, [], l, n + 1, hs, hn, hl => by
    show ewtok_Pieces_l2_b k0 (ewtok_Pieces_l2 k0 n) n _ _ = _
    unfold ewtok_Pieces_l2_b
    rw [piecesF_nil, List.append_nil]
    rfl
  | 0, c :: r, l, n + 1, hs, hn, hl => by simp at hs
  | f + 1, c :: r, l, n + 1, hs, hn, hl => by
    show ewtok_Pieces_l2_b k0 (ewtok_Pieces_l2 k0 n) n _ _ = _
    unfold ewtok_Pieces_l2_b
    rw [alike_eq (c :: r) (by simp), piecesF_cons f (by simp : (c :: r) ≠ [])]
    have h1 := alike_pos (by simp : (c :: r) ≠ [])
    have h2 := alike_le (c :: r)
    generalize hcr : c :: r = s at *
    have hsl : 0 < s.length := by rw [← hcr]; simp
    have okl : ewtok_leading_ok s = true := lenOk_of (by omega)
    have okr : ewtok_run_ok s = true := lenOk_of (by omega)
    have htl : (s.take (alike s)).length ≤ 1048576 := by rw [List.length_take]; omega
    have okk : ewtok_Kind_ok (s.take (alike s)) = true := lenOk_of htl
    have okc : bytes_Clone_ok (s.take (alike s)) = true := lenOk_of htl
    have hts : s.take s.length = s := List.take_length
    have ih := Pieces_loop k0 f (s.drop (alike s)) (l ++ [(kindB (s.take (alike s)), (s.take (alike s), ()))]) n (by simp; omega) (by omega) (by simp; omega)
    have hr : decide (l.length + ([(kindB (s.take (alike s)), (s.take (alike s), ()))] : List PieceT).length ≤ room) = true := dT (by unfold room; simp; omega)
    simp (disch := omega) only [dT, cond_true, Bool.and_true, tn, okl, okr, List.drop_zero, okk, okc, hts, show ewtok_Kind (s.take (alike s)) = kindB (s.take (alike s)) from rfl, show bytes_Clone (s.take (alike s)) = s.take (alike s) from rfl, hr, both_self]
    rw [ih, List.append_assoc]
    rfl
theorem ewtok_Pieces_math : ∀ (s0 : List UInt8), (ewtok_Pieces_ok s0 = true) → ∃ n, ewtok_Pieces_sh n s0 = ewtok_Pieces_ret (ewtok_Pieces s0) := fun s h => ⟨s.length + 1, by
  have hl := lenOk_le h
  unfold ewtok_Pieces_sh
  exact Pieces_loop (ewtok_Pieces_k2_0 (s.length + 1)) s.length s [] (s.length + 1) (Nat.le_refl _) (by omega) (by simpa using hl)⟩
end Go.Av
