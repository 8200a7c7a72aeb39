import Derived.Test.YtejhjmmdachijaaDoorQrP4
namespace Go.Av
set_option linter.unusedVariables false
set_option linter.unusedSimpArgs false
theorem z24_math : ∃ n, z24_sh n  = z24_ret z24 := ⟨0, by kernel_rfl⟩
theorem z7_math : ∀ (l0 : List UInt8), ∃ n, z7_sh n l0 = z7_ret (z7 l0) := fun s => ⟨0, by
  unfold z7_sh
  by_cases hl : (1000 : Int) < ((s.length : Nat) : Int)
  · rw [dT hl]; rfl
  · have hk : lenOk s = true := lenOk_of (by omega)
    have h1 := line_read_len s
    rw [dF hl, show z25_ok s = true from hk, show z26_ok s = true from hk, show (z26 s).1 = (z25 s).1 from rfl, show (z26 s).2.1 = (z25 s).2 from rfl,
      show z18_ok (z25 s).1 (z25 s).1 = true from lenOk_of (by omega), like_self]
    cases (z25 s).2 <;> rfl⟩
def plainQ (c : UInt8) : Bool := (c != 61) && ((c != 32) && (c != 9))
theorem plain_blank {c : UInt8} (h : plainQ c = true) : blank c = false := by
  unfold plainQ at h; unfold blank
  simp only [bne, Bool.and_eq_true, Bool.not_eq_true'] at h
  rw [h.2.1, h.2.2]; rfl
theorem plain_sign {c : UInt8} (h : plainQ c = true) : (c == 61) = false := by
  unfold plainQ at h
  simp only [bne, Bool.and_eq_true, Bool.not_eq_true'] at h
  exact h.1
theorem take_sign {x : UInt8} {r : List UInt8} (h : (x == 61) = false) : (z50 (x :: r) 0 61).2 = false := by
  unfold z50
  cases decide ((0 : Int) ≤ 0) && decide ((0 : Int) ≤ ((x :: r).length : Int) - 3)
  · rfl
  · show (takeAt (x :: r) 0 61).2 = false
    unfold takeAt
    rw [show ((x :: r).getD 0 0 == 61) = false from h]
    rfl
theorem unesc_plain : ∀ l : List UInt8, l.all plainQ = true → unescS 0 l = (l, 0)
  | [], _ => rfl
  | x :: r, h => by
    rw [List.all_cons, Bool.and_eq_true] at h
    show (bif (z50 (x :: r) 0 61).2 then _ else (x :: (unescS 0 r).1, (unescS 0 r).2 + (bif x == 61 then 1 else 0)) : List UInt8 × Nat) = _
    rw [take_sign (plain_sign h.1), cond_false, unesc_plain r h.2, plain_sign h.1]
    rfl
theorem dropR_last {p : UInt8 → Bool} {l : List UInt8} (h : ∀ c, l.getLast? = some c → p c = false) : dropR p l = l := by
  rcases List.eq_nil_or_concat l with rfl | ⟨t, x, rfl⟩
  · rfl
  · rw [List.concat_eq_append] at h ⊢
    rw [dropR_snoc, h x (by simp)]
    rfl
theorem last_mem {l : List UInt8} {c : UInt8} (h : l.getLast? = some c) : c ∈ l := List.mem_of_getLast? h
theorem line_plain {l : List UInt8} (h : l.all plainQ = true) : z25 l = (l, false) := by
  rw [List.all_eq_true] at h
  have e1 : dropR blank l = l := dropR_last fun c hc => plain_blank (h c (last_mem hc))
  have e2 : softEnd l = false := by
    unfold softEnd
    cases hc : l.getLast? with
    | none => rfl
    | some c =>
      show (some c == some 61) = false
      have := plain_sign (h c (last_mem hc))
      simpa using this
  have e3 : bareL l = l := by unfold bareL; rw [e1, e2]; rfl
  unfold z25
  rw [e3, e1, e2, unesc_plain l (List.all_eq_true.2 h)]
theorem all_part {p : UInt8 → Bool} {s a b : List UInt8} (h : s.all p = true) (e : a ++ b = s) : a.all p = true ∧ b.all p = true := by
  rw [← e, List.all_append, Bool.and_eq_true] at h; exact h
theorem end_rest (s : List UInt8) : endOf s ++ restOf s = behind s := List.take_append_drop _ _
theorem readG_plain : ∀ (n : Nat) (s : List UInt8), s.length ≤ n → s.all plainQ = true → readG s = s
  | n, [], _, _ => rfl
  | 0, x :: r, h, _ => by simp at h
  | n + 1, x :: r, h, hp => by
    have hr := rest_lt (s := x :: r) (by simp)
    obtain ⟨h1, h2⟩ := all_part hp (line_behind (x :: r))
    obtain ⟨h3, h4⟩ := all_part h2 (end_rest (x :: r))
    rw [readG_step, readG_plain n (restOf (x :: r)) (by omega) h4]
    unfold readLn
    rw [line_plain h1]
    show (lineOf (x :: r) ++ endOf (x :: r)) ++ restOf (x :: r) = _
    rw [List.append_assoc, end_rest, line_behind]
theorem short_loop (k0 : List UInt8 → List UInt8 → List UInt8 → Option AV) (s a : List UInt8) (hl : s.length ≤ 1048576) : ∀ (d i n : Nat) (out : List UInt8), i + d = s.length → d < n → out.length ≤ i →
    z8_l6 k0 n s a out s ((s.length : Nat) : Int) (i : Nat) = k0 s a (out ++ (s.drop i).filter plainQ)
  | d, i, 0, out, hi, hn, _ => by omega
  | 0, i, n + 1, out, hi, hn, _ => by
    show z8_l6_b _ _ n _ _ _ _ _ _ = _
    unfold z8_l6_b
    rw [dF (by omega), cond_false, List.drop_eq_nil_of_le (by omega), List.filter_nil, List.append_nil]
  | d + 1, i, n + 1, out, hi, hn, ho => by
    have hlt : i < s.length := by omega
    have hroom : room = 1073741824 := rfl
    show z8_l6_b _ _ n _ _ _ _ _ _ = _
    unfold z8_l6_b
    rw [i64_succ (by omega), tn, getD_drop (d := (0 : UInt8)) hlt, List.filter_cons]
    simp (disch := (first | omega | (simp; omega))) only [dT, cond_true, Bool.and_true]
    have hpl : plainQ (s.getD i 0) = ((s.getD i 0 != 61) && ((s.getD i 0 != 32) && (s.getD i 0 != 9))) := rfl
    rw [short_loop k0 s a hl d (i + 1) n out (by omega) (by omega) (by omega), short_loop k0 s a hl d (i + 1) n (out ++ [s.getD i 0]) (by omega) (by omega) (by simp; omega), hpl]
    cases (s.getD i 0 != 61) <;> cases (s.getD i 0 != 32) <;> cases (s.getD i 0 != 9) <;> simp
theorem z8_math : ∀ (s0 : List UInt8), ∃ n, z8_sh n s0 = z8_ret (z8 s0) := fun s => ⟨100000, by
  unfold z8_sh
  by_cases hl : (1000 : Int) < ((s.length : Nat) : Int)
  · rw [dT hl]; rfl
  · have hk : lenOk s = true := lenOk_of (by omega)
    have h1 := z27_len s
    have h2 : (s.filter plainQ).length ≤ s.length := List.length_filter_le _ _
    have h3 : z27 (s.filter plainQ) = s.filter plainQ := readG_plain _ _ (Nat.le_refl _) (by rw [List.all_eq_true]; intro c hc; exact (List.mem_filter.1 hc).2)
    rw [dF hl, show z27_ok s = true from hk]
    simp only [Bool.and_true, cond_true, cond_false]
    refine (short_loop (z8_k6_0 100000) s (z27 s) (by omega) s.length 0 100000 [] (by omega) (by omega) (Nat.le_refl _)).trans ?_
    rw [List.nil_append, List.drop_zero]
    unfold z8_k6_0
    rw [dT (by omega), show z27_ok (s.filter plainQ) = true from lenOk_of (by omega), h3, show z18_ok (s.filter plainQ) (s.filter plainQ) = true from lenOk_of (by omega), like_self]
    rfl⟩
end Go.Av
