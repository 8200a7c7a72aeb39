/-
  The shallow readings compute what EcM says: lengths of encoded-words.
-/
import Derived.Test.YtopepdfipgfakaaEcP4
namespace Go.Av
theorem flatMap_le {α β : Type} {f : α → List β} {b : Nat} (hf : ∀ x, (f x).length ≤ b) : ∀ l : List α, (l.flatMap f).length ≤ b * l.length
  | [] => by simp
  | x :: r => by
    have h1 := flatMap_le hf r
    have h2 := hf x
    rw [List.flatMap_cons, List.length_append, List.length_cons, Nat.mul_succ]
    omega
theorem codec_len (cs : Int) (t : List Int) (hl : t.length ≤ 1048576) : (codec_Lay cs t).1.length ≤ 4194304 := by
  have h1 : (utfall_Lay t).1.length ≤ 4194304 := by
    unfold utfall_Lay
    have := flatMap_le put_len t
    cases !(scalar_Right t) with
    | true => exact Nat.zero_le _
    | false => show (t.flatMap fun c => (utfone_Put [] c).1).length ≤ _; omega
  have h2 : (latnine_Lay t).1.length ≤ 4194304 := by
    unfold latnine_Lay
    cases t.all latnine_Has <;> simp <;> omega
  have h3 : (winone_Lay t).1.length ≤ 4194304 := by
    unfold winone_Lay
    cases decide (0 ≤ winone_Lacks t) <;> simp <;> omega
  have h4 : (latin_Lay t).1.length ≤ 4194304 := by
    unfold latin_Lay
    cases latin_Lacks t != -1 <;> simp <;> omega
  unfold codec_Lay
  cases (reper_Size cs == 0) <;> cases reper_All cs t <;> cases (cs == (5 : Int)) <;> cases (cs == (3 : Int)) <;> cases (cs == (4 : Int)) <;> first | exact Nat.zero_le _ | assumption
theorem lay13_len (cs : Int) (t : List Int) (hl : t.length ≤ 1048576) : (ref13_Lay cs t).1.length ≤ 4194304 := by
  have h1 := flatMap_le (octets_len cs) t
  unfold ref13_Lay
  cases (decide (cs < 1) || decide (5 < cs)) <;> cases t.all (fun c => (ref13_octets cs c).length != 0) <;> first | exact Nat.zero_le _ | (show (t.flatMap (ref13_octets cs)).length ≤ _; omega)
theorem ewcost_of_math : ∀ (code0 : Int), ∃ n r, ewcost_of_sh n code0 = some r ∧ Picks (ewcost_of code0) r := fun code => by
  by_cases h1 : code = 1
  · subst h1; exact ⟨0, _, rfl, fun _ => rfl, fun h => by cases h⟩
  · by_cases h2 : code = 2
    · subst h2; exact ⟨0, _, rfl, (fun h => by cases h), fun _ => ⟨fun _ => rfl, fun h => by cases h⟩⟩
    · refine ⟨0, .nilIface, ?_, ?_, ?_⟩
      · show (bif code == 1 then _ else bif code == 2 then _ else _) = _
        rw [beqF h1, beqF h2]; rfl
      · intro h; rw [beqF h1] at h; cases h
      · intro _
        refine ⟨?_, fun _ => rfl⟩
        intro h; rw [beqF h2] at h; cases h
theorem _ewcost_byB__letter_math : ∀ (x0 : Unit), ∃ n, _ewcost_byB__letter_sh n x0 = _ewcost_byB__letter_ret (_ewcost_byB__letter x0) := fun _ => ⟨0, rfl⟩
theorem _ewcost_byQ__letter_math : ∀ (x0 : Unit), ∃ n, _ewcost_byQ__letter_sh n x0 = _ewcost_byQ__letter_ret (_ewcost_byQ__letter x0) := fun _ => ⟨0, rfl⟩
theorem ewcost_measure_v0_math : ∀ (s1 : List UInt8), ∃ n, ewcost_measure_v0_sh n s1 = ewcost_measure_v0_ret (bcode_Len ((List.length s1 : Nat) : Int)) true := fun _ => ⟨0, rfl⟩
theorem ewcost_measure_v1_math : ∀ (s1 : List UInt8), ewcost_measure_ok s1 = true → ∃ n, ewcost_measure_v1_sh n s1 = ewcost_measure_v1_ret (qword_Len s1) true := fun s h => ⟨0, by
  unfold ewcost_measure_v1_sh
  rw [show qword_Len_ok s = true from h]
  rfl⟩
theorem ewcost_measure_v2_math : ∀ (s1 : List UInt8), ∃ n, ewcost_measure_v2_sh n s1 = ewcost_measure_v2_ret 0 false := fun _ => ⟨0, rfl⟩
theorem measure_ok_of {s : List UInt8} (h : s.length ≤ 4194304) : ewcost_measure_ok s = true := by
  unfold ewcost_measure_ok qword_Len_ok; exact dT h
theorem ewcost_text_math : ∀ (charset0 : Int) (code1 : Int) (t2 : List Int), (ewcost_text_ok charset0 code1 t2 = true) → ∃ n, ewcost_text_sh n charset0 code1 t2 = ewcost_text_ret (ewcost_text charset0 code1 t2).1 (ewcost_text charset0 code1 t2).2 := fun cs code t h => ⟨0, by
  have hl := lenOk_le (l := t) h
  unfold ewcost_text_sh ewcost_text
  rw [show codec_Lay_ok cs t = true from h, measure_ok_of (codec_len cs t hl)]
  by_cases h0 : (codec_Lay cs t).2 = 10
  · rw [h0]; rfl
  · rw [beqF h0]
    by_cases h1 : code = 1
    · subst h1
      cases (codec_Lay cs t).2 != 0 <;> rfl
    · by_cases h2 : code = 2
      · subst h2
        cases (codec_Lay cs t).2 != 0 <;> rfl
      · rw [beqF h1, beqF h2, bneT h1, bneT h2]
        rfl⟩
theorem ewcost_Len_math : ∀ (charset0 : Int) (code1 : Int) (t2 : List Int), (ewcost_Len_ok charset0 code1 t2 = true) → ∃ n, ewcost_Len_sh n charset0 code1 t2 = ewcost_Len_ret (ewcost_Len charset0 code1 t2).1 (ewcost_Len charset0 code1 t2).2 := fun cs code t h => ⟨0, by
  unfold ewcost_Len_sh ewcost_Len
  rw [show ewcost_text_ok cs code t = true from h]
  cases (ewcost_text cs code t).2 != 0 <;> rfl⟩
theorem ewcost_Text_math : ∀ (charset0 : Int) (code1 : Int) (t2 : List Int), (ewcost_Text_ok charset0 code1 t2 = true) → ∃ n, ewcost_Text_sh n charset0 code1 t2 = ewcost_Text_ret (ewcost_Text charset0 code1 t2) := fun cs code t h => ⟨0, by
  unfold ewcost_Text_sh ewcost_Text
  rw [show ewcost_text_ok cs code t = true from h]
  rfl⟩
theorem ewcost_Saved_math : ∀ (charset0 : Int) (t1 : List Int), (ewcost_Saved_ok charset0 t1 = true) → ∃ n, ewcost_Saved_sh n charset0 t1 = ewcost_Saved_ret (ewcost_Saved charset0 t1) := fun cs t h => ⟨0, by
  unfold ewcost_Saved_sh ewcost_Saved
  rw [show ewcost_Text_ok cs 1 t = true from h, show ewcost_Text_ok cs 2 t = true from h]
  rfl⟩
theorem ewcost_Better_math : ∀ (charset0 : Int) (t1 : List Int), (ewcost_Better_ok charset0 t1 = true) → ∃ n, ewcost_Better_sh n charset0 t1 = ewcost_Better_ret (ewcost_Better charset0 t1).1 (ewcost_Better charset0 t1).2 := fun cs t h => ⟨0, by
  unfold ewcost_Better_sh ewcost_Better
  rw [show ewcost_text_ok cs 1 t = true from h, show ewcost_Saved_ok cs t = true from h]
  cases (ewcost_text cs 1 t).2 != 0 <;> cases decide (0 ≤ ewcost_Saved cs t) <;> rfl⟩
theorem ewcost_Fits_math : ∀ (charset0 : Int) (code1 : Int) (t2 : List Int) (room3 : Int), (ewcost_Fits_ok charset0 code1 t2 room3 = true) → ∃ n, ewcost_Fits_sh n charset0 code1 t2 room3 = ewcost_Fits_ret (ewcost_Fits charset0 code1 t2 room3) := fun cs code t room h => ⟨0, by
  unfold ewcost_Fits_sh ewcost_Fits
  rw [show ewcost_Len_ok cs code t = true from h]
  cases ((ewcost_Len cs code t).2 == 0) <;> cases decide ((0 : Int) < ((List.length t : Nat) : Int)) <;> rfl⟩
theorem take_ok {t : List Int} (h : lenOk t = true) (n : Nat) : lenOk (t.take n) = true := lenOk_of (by rw [List.length_take]; have := lenOk_le h; omega)
theorem prefix_loop (k0 : Int → Option AV) (cs code : Int) (t : List Int) (rm : Int) (h : lenOk t = true) : ∀ (d i n : Nat), i + d = t.length → d < n →
    ewcost_Prefix_l2 k0 n cs code t rm (i : Nat) = k0 ((prefixAt (fun u => ewcost_Fits cs code u rm) t d i : Nat) : Int)
  | d, i, 0, hi, hn => by omega
  | 0, i, n + 1, hi, hn => by
    show ewcost_Prefix_l2_b _ _ n _ _ _ _ _ = _
    unfold ewcost_Prefix_l2_b
    rw [dF (by omega)]
    rfl
  | d + 1, i, n + 1, hi, hn => by
    have hl := lenOk_le h
    show ewcost_Prefix_l2_b _ _ n _ _ _ _ _ = _
    unfold ewcost_Prefix_l2_b
    rw [i64_succ (by omega), prefix_loop k0 cs code t rm h d (i + 1) n (by omega) (by omega), show Int.toNat ((0 : Nat) : Int) = 0 from rfl, List.drop_zero, tn,
      show ewcost_Fits_ok cs code (t.take (i + 1)) rm = true from take_ok h _]
    simp (disch := omega) only [dT, cond_true, Bool.and_true]
    rw [show prefixAt (fun u => ewcost_Fits cs code u rm) t (d + 1) i = bif ewcost_Fits cs code (t.take (i + 1)) rm then prefixAt (fun u => ewcost_Fits cs code u rm) t d (i + 1) else i from rfl]
    show (bif ewcost_Fits cs code (t.take (i + 1)) rm then _ else _) = k0 ((bif ewcost_Fits cs code (t.take (i + 1)) rm then _ else _ : Nat) : Int)
    cases ewcost_Fits cs code (t.take (i + 1)) rm <;> rfl
theorem ewcost_Prefix_math : ∀ (charset0 : Int) (code1 : Int) (t2 : List Int) (room3 : Int), (ewcost_Prefix_ok charset0 code1 t2 room3 = true) → ∃ n, ewcost_Prefix_sh n charset0 code1 t2 room3 = ewcost_Prefix_ret (ewcost_Prefix charset0 code1 t2 room3) := fun cs code t rm h => ⟨t.length + 1, by
  unfold ewcost_Prefix_sh ewcost_Prefix
  exact prefix_loop (ewcost_Prefix_k2_0 (t.length + 1)) cs code t rm h t.length 0 (t.length + 1) (by omega) (by omega)⟩
theorem ref29_Lay_math : ∀ (charset0 : Int) (code1 : Int) (s2 : List UInt8), (ref29_Lay_ok charset0 code1 s2 = true) → ∃ n, ref29_Lay_sh n charset0 code1 s2 = ref29_Lay_ret (ref29_Lay charset0 code1 s2).1 (ref29_Lay charset0 code1 s2).2 := fun cs code s h => ⟨0, by
  have h' := h
  unfold ref29_Lay_ok at h
  have hl : s.length ≤ 4194304 := by simpa using h
  have hn : (ref11_Name cs).length ≤ 12 := name_len cs
  have hb := lay14_len s
  have hq := lay20_len s
  have hq2 := qLen_le s
  unfold bLen at hb
  unfold ref29_Lay_sh ref29_Lay
  rw [show ref20_Lay_ok s = true from h', show ref14_Lay_ok s = true from h']
  have hz : (((s.length : Nat) : Int) == 0) = (s.length == 0) := by cases s.length <;> rfl
  rw [hz]
  simp (disch := (first | omega | (unfold room; simp; omega) | (simp; omega))) only [dT, cond_true, Bool.and_true]
  by_cases h1 : code = 1
  · subst h1
    simp only [show ((1 : Int) != 1) = false from rfl, show ((1 : Int) != 2) = true from rfl, show ((1 : Int) == 2) = false from rfl, Bool.false_and, Bool.false_or, cond_false, cond_true, ← List.append_assoc]
    cases decide (cs < 1) <;> cases decide (5 < cs) <;> cases (s.length == 0) <;> simp only [Bool.or_self, Bool.or_true, Bool.or_false, cond_true, cond_false]
    rw [show decide ((75 : Int) < ((([61, 63] ++ ref11_Name cs ++ [63, 66, 63] ++ ref14_Lay s ++ [63, 61] : List UInt8).length : Nat) : Int)) = decide (75 < ([61, 63] ++ ref11_Name cs ++ [63, 66, 63] ++ ref14_Lay s ++ [63, 61] : List UInt8).length) by congr 1; simp; omega]
    cases decide (75 < ([61, 63] ++ ref11_Name cs ++ [63, 66, 63] ++ ref14_Lay s ++ [63, 61] : List UInt8).length) <;> rfl
  · by_cases h2 : code = 2
    · subst h2
      simp only [show ((2 : Int) != 1) = true from rfl, show ((2 : Int) != 2) = false from rfl, show ((2 : Int) == 2) = true from rfl, Bool.and_false, Bool.false_or, cond_false, cond_true, ← List.append_assoc]
      cases decide (cs < 1) <;> cases decide (5 < cs) <;> cases (s.length == 0) <;> simp only [Bool.or_self, Bool.or_true, Bool.or_false, cond_true, cond_false]
      rw [show decide ((75 : Int) < ((([61, 63] ++ ref11_Name cs ++ [63, 81, 63] ++ ref20_Lay s ++ [63, 61] : List UInt8).length : Nat) : Int)) = decide (75 < ([61, 63] ++ ref11_Name cs ++ [63, 81, 63] ++ ref20_Lay s ++ [63, 61] : List UInt8).length) by congr 1; simp; omega]
      cases decide (75 < ([61, 63] ++ ref11_Name cs ++ [63, 81, 63] ++ ref20_Lay s ++ [63, 61] : List UInt8).length) <;> rfl
    · simp only [bneT h1, bneT h2, Bool.and_self, Bool.true_or, cond_true]
      cases decide (cs < 1) <;> cases decide (5 < cs) <;> rfl⟩
theorem ref30_Len_math : ∀ (charset0 : Int) (code1 : Int) (t2 : List Int), (ref30_Len_ok charset0 code1 t2 = true) → ∃ n, ref30_Len_sh n charset0 code1 t2 = ref30_Len_ret (ref30_Len charset0 code1 t2).1 (ref30_Len charset0 code1 t2).2 := fun cs code t h => ⟨0, by
  have hl := lenOk_le (l := t) h
  have hc := lay13_len cs t hl
  unfold ref30_Len_sh ref30_Len
  rw [show ref13_Lay_ok cs t = true from h, show ref14_Lay_ok (ref13_Lay cs t).1 = true from dT hc, show ref20_Lay_ok (ref13_Lay cs t).1 = true from dT hc]
  by_cases h0 : (ref13_Lay cs t).2 = 10
  · rw [h0]; rfl
  · rw [beqF h0]
    by_cases h1 : code = 1
    · subst h1
      cases (ref13_Lay cs t).2 != 0 <;> rfl
    · by_cases h2 : code = 2
      · subst h2
        cases (ref13_Lay cs t).2 != 0 <;> rfl
      · rw [bneT h1, bneT h2]
        rfl⟩
theorem ref30_Text_math : ∀ (charset0 : Int) (code1 : Int) (t2 : List Int), (ref30_Text_ok charset0 code1 t2 = true) → ∃ n, ref30_Text_sh n charset0 code1 t2 = ref30_Text_ret (ref30_Text charset0 code1 t2) := fun cs code t h => ⟨0, by
  unfold ref30_Text_sh ref30_Text
  rw [show ref30_Len_ok cs code t = true from h]
  cases (ref30_Len cs code t).2 != 0 <;> rfl⟩
theorem ref30_Better_math : ∀ (charset0 : Int) (t1 : List Int), (ref30_Better_ok charset0 t1 = true) → ∃ n, ref30_Better_sh n charset0 t1 = ref30_Better_ret (ref30_Better charset0 t1).1 (ref30_Better charset0 t1).2 := fun cs t h => ⟨0, by
  unfold ref30_Better_sh ref30_Better
  rw [show ref30_Len_ok cs 1 t = true from h, show ref30_Len_ok cs 2 t = true from h]
  cases (ref30_Len cs 1 t).2 != 0 <;> cases decide ((ref30_Len cs 2 t).1 ≤ (ref30_Len cs 1 t).1) <;> rfl⟩
theorem ref30_Fits_math : ∀ (charset0 : Int) (code1 : Int) (t2 : List Int) (room3 : Int), (ref30_Fits_ok charset0 code1 t2 room3 = true) → ∃ n, ref30_Fits_sh n charset0 code1 t2 room3 = ref30_Fits_ret (ref30_Fits charset0 code1 t2 room3) := fun cs code t rm h => ⟨0, by
  unfold ref30_Fits_sh ref30_Fits
  rw [show ref30_Len_ok cs code t = true from h]
  cases ((ref30_Len cs code t).2 == 0) <;> cases decide ((0 : Int) < ((List.length t : Nat) : Int)) <;> cases decide ((ref30_Len cs code t).1 ≤ rm) <;> rfl⟩
theorem prefix30_loop (k0 : List Int → Option AV) (ret : Int → Option AV) (cs code : Int) (t : List Int) (rm : Int) (h : lenOk t = true) (hk : k0 t = ret ((t.length : Nat) : Int)) : ∀ (d i n : Nat), i + d = t.length → d < n →
    ref30_Prefix_l2 ret k0 n cs code t rm ((i + 1 : Nat) : Int) = ret ((prefixAt (fun u => ref30_Fits cs code u rm) t d i : Nat) : Int)
  | d, i, 0, hi, hn => by omega
  | 0, i, n + 1, hi, hn => by
    show ref30_Prefix_l2_b _ _ _ n _ _ _ _ _ = _
    unfold ref30_Prefix_l2_b
    rw [dF (by omega), cond_false, hk]
    unfold prefixAt
    congr 1; omega
  | d + 1, i, n + 1, hi, hn => by
    have hl := lenOk_le h
    show ref30_Prefix_l2_b _ _ _ n _ _ _ _ _ = _
    unfold ref30_Prefix_l2_b
    rw [i64_succ (by omega), prefix30_loop k0 ret cs code t rm h hk d (i + 1) n (by omega) (by omega), show Int.toNat ((0 : Nat) : Int) = 0 from rfl, List.drop_zero, tn,
      show ref30_Fits_ok cs code (t.take (i + 1)) rm = true from take_ok h _, show IntKind.wrap .i64 (((i + 1 : Nat) : Int) - 1) = (i : Int) from by rw [IntWalk.i64_in _ (by omega)]; omega]
    simp (disch := omega) only [dT, cond_true, Bool.and_true]
    rw [show prefixAt (fun u => ref30_Fits cs code u rm) t (d + 1) i = bif ref30_Fits cs code (t.take (i + 1)) rm then prefixAt (fun u => ref30_Fits cs code u rm) t d (i + 1) else i from rfl]
    show (bif !(ref30_Fits cs code (t.take (i + 1)) rm) then _ else _) = ret ((bif ref30_Fits cs code (t.take (i + 1)) rm then _ else _ : Nat) : Int)
    cases ref30_Fits cs code (t.take (i + 1)) rm <;> rfl
theorem ref30_Prefix_math : ∀ (charset0 : Int) (code1 : Int) (t2 : List Int) (room3 : Int), (ref30_Prefix_ok charset0 code1 t2 room3 = true) → ∃ n, ref30_Prefix_sh n charset0 code1 t2 room3 = ref30_Prefix_ret (ref30_Prefix charset0 code1 t2 room3) := fun cs code t rm h => ⟨t.length + 1, by
  unfold ref30_Prefix_sh ref30_Prefix
  exact prefix30_loop (ref30_Prefix_k2_0 (t.length + 1)) ref30_Prefix_ret cs code t rm h rfl t.length 0 (t.length + 1) (by omega) (by omega)⟩
end Go.Av
