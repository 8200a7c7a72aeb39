/-
  The shallow readings compute what EcM says: texts in charsets, labels.
-/
import Derived.Test.YtopepdfipgfakaaEcP2
namespace Go.Av
/-- A loop that goes through a list, puts something behind another for each, and may break off. -/
theorem app_rule {α β : Type} {t : List α} {dv : α} {f : α → List β} {q : α → Bool} {k0 : List β → Option AV} {R : Option AV} {L : Nat → List β → Int → Option AV} {b : Nat} (hf : ∀ x, (f x).length ≤ b)
    (hL : ∀ (n i : Nat) (out : List β), i < t.length → out.length + b ≤ room → L (n + 1) out (i : Int) = bif q (t.getD i dv) then L n (out ++ f (t.getD i dv)) ((i + 1 : Nat) : Int) else R) (hE : ∀ n out, L (n + 1) out ((t.length : Nat) : Int) = k0 out) :
    ∀ (d i n : Nat) (out : List β), i + d = t.length → d < n → out.length + b * d ≤ room → L n out (i : Int) = bif (t.drop i).all q then k0 (out ++ (t.drop i).flatMap f) else R
  | d, i, 0, out, hi, hn, _ => by omega
  | 0, i, n + 1, out, hi, hn, _ => by
    obtain rfl : i = t.length := by omega
    rw [hE, List.drop_eq_nil_of_le (by omega)]
    simp
  | d + 1, i, n + 1, out, hi, hn, hb => by
    have hlt : i < t.length := by omega
    have hx := hf (t.getD i dv)
    have hb' : b * (d + 1) = b * d + b := by rw [Nat.mul_succ]
    have h0 : 0 ≤ b * d := Nat.zero_le _
    rw [hL n i out hlt (by omega), app_rule (α := α) (β := β) hf hL hE d (i + 1) n _ (by omega) (by omega) (by rw [List.length_append]; omega), getD_drop (d := dv) hlt]
    simp only [List.all_cons, List.flatMap_cons, List.append_assoc]
    cases q (t.getD i dv) <;> rfl
theorem flatMap_one {α β : Type} (g : α → β) : ∀ l : List α, l.flatMap (fun x => [g x]) = l.map g
  | [] => rfl
  | x :: r => by rw [List.flatMap_cons, flatMap_one g r]; rfl

theorem reper_Has_math : ∀ (charset0 : Int) (c1 : Int), ∃ n, reper_Has_sh n charset0 c1 = reper_Has_ret (reper_Has charset0 c1) := fun cs c => ⟨0, by
  unfold reper_Has_sh reper_Has
  cases (cs == (1 : Int)) <;> cases (cs == (2 : Int)) <;> cases (cs == (3 : Int)) <;> cases (cs == (4 : Int)) <;> cases (cs == (5 : Int)) <;> cases decide ((0 : Int) ≤ c) <;> rfl⟩
theorem ref12_Has_math : ∀ (charset0 : Int) (c1 : Int), ∃ n, ref12_Has_sh n charset0 c1 = ref12_Has_ret (ref12_Has charset0 c1) := fun cs c => ⟨0, by
  unfold ref12_Has_sh ref12_Has
  cases (cs == (1 : Int)) <;> cases (cs == (2 : Int)) <;> cases (cs == (3 : Int)) <;> cases (cs == (4 : Int)) <;> cases (cs == (5 : Int)) <;> cases decide ((0 : Int) ≤ c) <;> rfl⟩
theorem reper_Size_math : ∀ (charset0 : Int), ∃ n, reper_Size_sh n charset0 = reper_Size_ret (reper_Size charset0) := fun cs => ⟨0, by
  unfold reper_Size_sh reper_Size
  by_cases h : cs = 2
  · subst h; rfl
  · rw [beqF h]
    cases (cs == (1 : Int)) <;> cases (cs == (3 : Int)) <;> cases (cs == (4 : Int)) <;> cases (cs == (5 : Int)) <;> rfl⟩
theorem reper_All_math : ∀ (charset0 : Int) (t1 : List Int), (reper_All_ok charset0 t1 = true) → ∃ n, reper_All_sh n charset0 t1 = reper_All_ret (reper_All charset0 t1) := fun cs t h => ⟨0, by
  unfold reper_All_sh reper_All
  rw [show reper_Lacks_ok cs t = true from h]
  cases decide (0 < reper_Size cs) <;> rfl⟩
theorem latnine_Lay_math : ∀ (t0 : List Int), (latnine_Lay_ok t0 = true) → ∃ n, latnine_Lay_sh n t0 = latnine_Lay_ret (latnine_Lay t0).1 (latnine_Lay t0).2 := fun t h => ⟨t.length + 1, by
  have hl := lenOk_le (l := t) h
  unfold latnine_Lay_sh latnine_Lay
  have := app_rule (t := t) (dv := 0) (f := fun c => [(latnine_Put c).1]) (q := latnine_Has) (b := 1) (k0 := latnine_Lay_k3_0 (t.length + 1)) (R := latnine_Lay_ret [] 9)
    (L := fun n out i => latnine_Lay_l3 latnine_Lay_ret (latnine_Lay_k3_0 (t.length + 1)) n out t ((t.length : Nat) : Int) i) (fun x => by simp) (fun n i out hi hb => by
      show latnine_Lay_l3_b _ _ _ n _ _ _ _ = _
      unfold latnine_Lay_l3_b
      simp (disch := omega) only [dT, cond_true, Bool.and_true, tn, i64_succ, List.length_cons, List.length_nil, Nat.zero_add]
      show (bif !(latnine_Has (t.getD i 0)) then _ else _) = _
      cases latnine_Has (t.getD i 0) <;> rfl) (fun n out => by
      show latnine_Lay_l3_b _ _ _ n _ _ _ _ = _
      unfold latnine_Lay_l3_b
      rw [dF (by omega)]
      rfl) t.length 0 (t.length + 1) [] (by omega) (by omega) (by unfold room; simp; omega)
  refine this.trans ?_
  rw [List.drop_zero, flatMap_one]
  cases t.all latnine_Has <;> rfl⟩
theorem winone_Lay_math : ∀ (t0 : List Int), (winone_Lay_ok t0 = true) → ∃ n, winone_Lay_sh n t0 = winone_Lay_ret (winone_Lay t0).1 (winone_Lay t0).2 := fun t h => ⟨t.length + 1, by
  have hl := lenOk_le (l := t) h
  unfold winone_Lay_sh winone_Lay
  rw [show winone_Lacks_ok t = true from h]
  cases decide (0 ≤ winone_Lacks t) with
  | true => rfl
  | false =>
    have := app_rule (t := t) (dv := 0) (f := fun c => [(winone_Put c).1]) (q := fun _ => true) (b := 1) (k0 := winone_Lay_k5_0 (t.length + 1)) (R := none)
      (L := fun n out i => winone_Lay_l5 (winone_Lay_k5_0 (t.length + 1)) n out t ((t.length : Nat) : Int) i) (fun x => by simp) (fun n i out hi hb => by
        show winone_Lay_l5_b _ _ n _ _ _ _ = _
        unfold winone_Lay_l5_b
        simp (disch := omega) only [dT, cond_true, Bool.and_true, tn, i64_succ, List.length_cons, List.length_nil, Nat.zero_add]) (fun n out => by
        show winone_Lay_l5_b _ _ n _ _ _ _ = _
        unfold winone_Lay_l5_b
        rw [dF (by omega)]
        rfl) t.length 0 (t.length + 1) [] (by omega) (by omega) (by unfold room; simp; omega)
    simp (disch := (first | omega | (unfold room; omega))) only [dT, cond_true, cond_false, Bool.and_true]
    refine this.trans ?_
    rw [List.drop_zero, flatMap_one, List.all_eq_true.2 (fun _ _ => rfl)]
    rfl⟩
theorem put_len (c : Int) : (utfone_Put [] c).1.length ≤ 4 := by
  unfold utfone_Put
  rcases utfone_Len_cases c with e | e | e | e | e <;> rw [e] <;> simp
theorem utfall_Lay_math : ∀ (t0 : List Int), (utfall_Lay_ok t0 = true) → ∃ n, utfall_Lay_sh n t0 = utfall_Lay_ret (utfall_Lay t0).1 (utfall_Lay t0).2 := fun t h => ⟨t.length + 1, by
  have hl := lenOk_le (l := t) h
  unfold utfall_Lay_sh utfall_Lay
  rw [show scalar_Right_ok t = true from h]
  cases !(scalar_Right t) with
  | true => rfl
  | false =>
    have := app_rule (t := t) (dv := 0) (f := fun c => (utfone_Put [] c).1) (q := fun _ => true) (b := 4) (k0 := utfall_Lay_k5_0 (t.length + 1)) (R := none)
      (L := fun n out i => utfall_Lay_l5 (utfall_Lay_k5_0 (t.length + 1)) n out t ((t.length : Nat) : Int) i) put_len (fun n i out hi hb => by
        show utfall_Lay_l5_b _ _ n _ _ _ _ = _
        unfold utfall_Lay_l5_b
        have hp := put_len (t.getD i 0)
        rw [show utfone_Put_ok ([] : List UInt8) (t.getD (Int.toNat (i : Int)) 0) = true from rfl]
        simp (disch := omega) only [dT, cond_true, Bool.and_true, tn, i64_succ]) (fun n out => by
        show utfall_Lay_l5_b _ _ n _ _ _ _ = _
        unfold utfall_Lay_l5_b
        rw [dF (by omega)]
        rfl) t.length 0 (t.length + 1) [] (by omega) (by omega) (by unfold room; simp; omega)
    simp only [cond_true, cond_false, Bool.and_true]
    refine this.trans ?_
    rw [List.drop_zero, List.all_eq_true.2 (fun _ _ => rfl)]
    rfl⟩
theorem codec_Lay_math : ∀ (charset0 : Int) (t1 : List Int), (codec_Lay_ok charset0 t1 = true) → ∃ n, codec_Lay_sh n charset0 t1 = codec_Lay_ret (codec_Lay charset0 t1).1 (codec_Lay charset0 t1).2 := fun cs t h => ⟨0, by
  unfold codec_Lay_sh codec_Lay
  rw [show reper_All_ok cs t = true from h, show utfall_Lay_ok t = true from h, show latnine_Lay_ok t = true from h, show winone_Lay_ok t = true from h, show latin_Lay_ok t = true from h]
  cases (reper_Size cs == 0) <;> cases reper_All cs t <;> cases (cs == (5 : Int)) <;> cases (cs == (3 : Int)) <;> cases (cs == (4 : Int)) <;> rfl⟩
theorem ref13_octets_math : ∀ (charset0 : Int) (c1 : Int), ∃ n, ref13_octets_sh n charset0 c1 = ref13_octets_ret (ref13_octets charset0 c1) := fun cs c => ⟨0, by
  unfold ref13_octets_sh ref13_octets
  cases ref12_Has cs c <;> cases (cs == (1 : Int)) <;> cases (cs == (2 : Int)) <;> cases (cs == (3 : Int)) <;> cases (cs == (4 : Int)) <;> rfl⟩
theorem oct04_len (c : Int) : (ref04_Octets c).length ≤ 4 := by
  unfold ref04_Octets
  cases ref03_Is c <;> cases decide (c < (128 : Int)) <;> cases decide (c < (2048 : Int)) <;> cases decide (c < (65536 : Int)) <;> simp
theorem octets_len (cs c : Int) : (ref13_octets cs c).length ≤ 4 := by
  unfold ref13_octets
  have := oct04_len c
  cases ref12_Has cs c <;> cases (cs == (1 : Int)) <;> cases (cs == (2 : Int)) <;> cases (cs == (3 : Int)) <;> cases (cs == (4 : Int)) <;> simp [this]
theorem ref13_Lay_math : ∀ (charset0 : Int) (t1 : List Int), (ref13_Lay_ok charset0 t1 = true) → ∃ n, ref13_Lay_sh n charset0 t1 = ref13_Lay_ret (ref13_Lay charset0 t1).1 (ref13_Lay charset0 t1).2 := fun cs t h => ⟨t.length + 1, by
  have hl := lenOk_le (l := t) h
  unfold ref13_Lay_sh ref13_Lay
  cases decide (cs < 1) <;> cases decide (5 < cs)
  · have := app_rule (t := t) (dv := 0) (f := ref13_octets cs) (q := fun c => (ref13_octets cs c).length != 0) (b := 4) (k0 := ref13_Lay_k5_0 (t.length + 1)) (R := ref13_Lay_ret [] 9)
      (L := fun n out i => ref13_Lay_l5 ref13_Lay_ret (ref13_Lay_k5_0 (t.length + 1)) n cs t out i) (octets_len cs) (fun n i out hi hb => by
        show ref13_Lay_l5_b _ _ _ n _ _ _ _ = _
        unfold ref13_Lay_l5_b
        have hp := octets_len cs (t.getD i 0)
        simp (disch := omega) only [dT, cond_true, Bool.and_true, tn, i64_succ]
        rw [show ((((ref13_octets cs (t.getD i 0)).length : Nat) : Int) == 0) = !((ref13_octets cs (t.getD i 0)).length != 0) from by
          cases (ref13_octets cs (t.getD i 0)).length <;> rfl]
        cases (ref13_octets cs (t.getD i 0)).length != 0 <;> rfl) (fun n out => by
        show ref13_Lay_l5_b _ _ _ n _ _ _ _ = _
        unfold ref13_Lay_l5_b
        rw [dF (by omega)]
        rfl) t.length 0 (t.length + 1) [] (by omega) (by omega) (by unfold room; simp; omega)
    refine this.trans ?_
    rw [List.drop_zero]
    simp only [Bool.or_self, cond_false, List.nil_append]
    cases t.all (fun c => (ref13_octets cs c).length != 0) <;> rfl
  · rfl
  · rfl
  · rfl⟩
/-! ### labels -/
theorem label_Names_math : ∀ (charset0 : Int), ∃ n, label_Names_sh n charset0 = label_Names_ret (label_Names charset0) := fun cs => ⟨0, by
  unfold label_Names_sh label_Names
  cases (cs == (1 : Int)) <;> cases (cs == (2 : Int)) <;> cases (cs == (3 : Int)) <;> cases (cs == (4 : Int)) <;> cases (cs == (5 : Int)) <;> rfl⟩
theorem ref11_Names_math : ∀ (charset0 : Int), ∃ n, ref11_Names_sh n charset0 = ref11_Names_ret (ref11_Names charset0) := fun cs => ⟨0, by
  unfold ref11_Names_sh ref11_Names label_Names
  cases (cs == (1 : Int)) <;> cases (cs == (2 : Int)) <;> cases (cs == (3 : Int)) <;> cases (cs == (4 : Int)) <;> cases (cs == (5 : Int)) <;> rfl⟩
theorem label_Name_math : ∀ (charset0 : Int), ∃ n, label_Name_sh n charset0 = label_Name_ret (label_Name charset0) := fun cs => ⟨0, by
  unfold label_Name_sh label_Name label_Names
  cases (cs == (1 : Int)) <;> cases (cs == (2 : Int)) <;> cases (cs == (3 : Int)) <;> cases (cs == (4 : Int)) <;> cases (cs == (5 : Int)) <;> rfl⟩
theorem ref11_Name_math : ∀ (charset0 : Int), ∃ n, ref11_Name_sh n charset0 = ref11_Name_ret (ref11_Name charset0) := fun cs => ⟨0, by
  unfold ref11_Name_sh ref11_Name ref11_Names label_Name label_Names
  cases (cs == (1 : Int)) <;> cases (cs == (2 : Int)) <;> cases (cs == (3 : Int)) <;> cases (cs == (4 : Int)) <;> cases (cs == (5 : Int)) <;> rfl⟩
theorem label_IsCharset_math : ∀ (n0 : Int), ∃ n, label_IsCharset_sh n n0 = label_IsCharset_ret (label_IsCharset n0) := fun cs => ⟨0, by
  unfold label_IsCharset_sh label_IsCharset
  cases decide ((1 : Int) ≤ cs) <;> rfl⟩
theorem ewform_letter_math : ∀ (n0 : Int), ∃ n, ewform_letter_sh n n0 = ewform_letter_ret (ewform_letter n0) := fun cs => ⟨0, by
  unfold ewform_letter_sh ewform_letter
  cases (cs == (1 : Int)) <;> cases (cs == (2 : Int)) <;> rfl⟩
theorem name_len (cs : Int) : (label_Name cs).length ≤ 12 := by
  unfold label_Name label_Names
  cases (cs == (1 : Int)) <;> cases (cs == (2 : Int)) <;> cases (cs == (3 : Int)) <;> cases (cs == (4 : Int)) <;> cases (cs == (5 : Int)) <;> decide
theorem letter_len (n : Int) : (ewform_letter n).length ≤ 1 := by
  unfold ewform_letter
  cases (n == (1 : Int)) <;> cases (n == (2 : Int)) <;> decide
theorem ewform_frame_math : ∀ (charset0 : Int) (code1 : Int), ∃ n, ewform_frame_sh n charset0 code1 = ewform_frame_ret (ewform_frame charset0 code1) := fun cs n => ⟨0, by
  unfold ewform_frame_sh ewform_frame
  have h1 := name_len cs
  have h2 := letter_len n
  simp (disch := (simp; omega)) only [dT, cond_true]⟩
theorem ewform_Over_math : ∀ (charset0 : Int), ∃ n, ewform_Over_sh n charset0 = ewform_Over_ret (ewform_Over charset0) := fun cs => ⟨0, by
  unfold ewform_Over_sh ewform_Over ewform_frame
  have h1 := name_len cs
  cases label_IsCharset cs with
  | false => rfl
  | true =>
    show ewform_Over_ret _ = ewform_Over_ret _
    congr 1
    rw [show ewform_letter 2 = [81] from rfl]
    simp only [List.length_append, List.length_cons, List.length_nil]
    have e : ∀ k : Nat, k ≤ 100 → IntKind.wrap .i64 (IntKind.wrap .i64 ((k : Int) + 1) + 1) = ((k + 2 : Nat) : Int) := fun k hk => by
      rw [IntWalk.i64_in ((k : Int) + 1) (by omega), IntWalk.i64_in _ (by omega)]; omega
    rw [e _ (by omega)]
    simp only [Bool.not_true, cond_false]
    omega⟩
theorem ref29_Over_math : ∀ (charset0 : Int), ∃ n, ref29_Over_sh n charset0 = ref29_Over_ret (ref29_Over charset0) := fun cs => ⟨0, by
  unfold ref29_Over_sh ref29_Over ewform_Over label_IsCharset
  have h1 := name_len cs
  have e : IntKind.wrap .i64 (7 + (((ref11_Name cs).length : Nat) : Int)) = (((label_Name cs).length + 7 : Nat) : Int) := by
    rw [show ref11_Name cs = label_Name cs from rfl, IntWalk.i64_in _ (by omega)]; omega
  rw [e, show decide (cs < 1) = !(decide (1 ≤ cs)) by rw [← decide_not]; congr 1; simp, show decide (5 < cs) = !(decide (cs ≤ 5)) by rw [← decide_not]; congr 1; simp]
  cases decide ((1 : Int) ≤ cs) <;> cases decide (cs ≤ 5) <;> rfl⟩
end Go.Av
