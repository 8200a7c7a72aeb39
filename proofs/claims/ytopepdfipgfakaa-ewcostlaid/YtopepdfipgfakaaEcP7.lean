/-
  The statements of the layer are true.
-/
import Derived.Test.YtopepdfipgfakaaEcP6
namespace Go.Av
theorem codec_err {cs : Int} {t : List Int} : (ref13_Lay cs t).2 = 0 ∨ (ref13_Lay cs t).2 = 9 ∨ (ref13_Lay cs t).2 = 10 := by
  unfold ref13_Lay
  cases (decide (cs < 1) || decide (5 < cs)) <;> cases t.all (fun c => (ref13_octets cs c).length != 0) <;> simp
theorem over_range (cs : Int) : 0 ≤ ewform_Over cs ∧ ewform_Over cs ≤ 19 := by
  unfold ewform_Over
  have := name_len cs
  cases label_IsCharset cs
  · show 0 ≤ (0 : Int) ∧ (0 : Int) ≤ 19; constructor <;> decide
  · show 0 ≤ (((label_Name cs).length + 7 : Nat) : Int) ∧ (((label_Name cs).length + 7 : Nat) : Int) ≤ 19
    omega
/-- How long a text is in a code. -/
def codeLen (code : Int) (s : List UInt8) : Nat := bif code == 1 then bLen s.length else qLen s
theorem codeLen_le (code : Int) (s : List UInt8) : codeLen code s ≤ 4 * s.length + 4 := by
  unfold codeLen bLen
  have := qLen_le s
  cases (code == 1)
  · show qLen s ≤ _; omega
  · show 4 * ((s.length + 2) / 3) ≤ _; omega
/-- What is told of a text. -/
def told (cs code : Int) (t : List Int) : Int × Int :=
  bif (ref13_Lay cs t).2 == 10 then (0, 10) else bif (code != 1) && (code != 2) then (0, 3) else bif (ref13_Lay cs t).2 != 0 then (0, (ref13_Lay cs t).2)
  else ((codeLen code (ref13_Lay cs t).1 : Nat), 0)
theorem text_told (cs code : Int) (t : List Int) (h : i32s t = true) (hl : t.length ≤ 1048576) : ewcost_text cs code t = told cs code t := by
  have h1 := lay13_len cs t hl
  unfold ewcost_text told codeLen
  rw [lay_eq cs t h, bcode_of _ (by omega)]
  cases (code == 1) <;> rfl
theorem told_err (cs code : Int) (t : List Int) : (told cs code t).2 ≠ 0 → (told cs code t).1 = 0 := by
  unfold told
  cases ((ref13_Lay cs t).2 == 10) <;> cases ((code != 1) && (code != 2)) <;> cases ((ref13_Lay cs t).2 != 0) <;> simp
theorem told_ok {cs code : Int} {t : List Int} (h : (told cs code t).2 = 0) : (ref13_Lay cs t).2 = 0 ∧ (code = 1 ∨ code = 2) ∧ (told cs code t).1 = (codeLen code (ref13_Lay cs t).1 : Nat) := by
  unfold told at h ⊢
  by_cases h0 : (ref13_Lay cs t).2 = 10
  · rw [beqT h0] at h; cases h
  · rw [beqF h0] at h ⊢
    cases hc : ((code != 1) && (code != 2)) with
    | true => rw [hc] at h; cases h
    | false =>
      rw [hc] at h
      by_cases h2 : (ref13_Lay cs t).2 = 0
      · refine ⟨h2, ?_, ?_⟩
        · by_cases h3 : code = 1
          · exact .inl h3
          · right
            rw [bneT h3, Bool.true_and] at hc
            by_cases h4 : code = 2
            · exact h4
            · rw [bneT h4] at hc; cases hc
        · rw [bneF h2]; rfl
      · rw [bneT h2] at h
        exact absurd h h2
theorem told_range (cs code : Int) (t : List Int) (hl : t.length ≤ 1048576) : 0 ≤ (told cs code t).1 ∧ (told cs code t).1 ≤ 16777220 := by
  by_cases h : (told cs code t).2 = 0
  · have h1 := told_ok h
    have h2 := lay13_len cs t hl
    have h3 := codeLen_le code (ref13_Lay cs t).1
    rw [h1.2.2]; omega
  · rw [told_err cs code t h]; decide
/-- The length of an encoded-word. -/
def lenE (cs code : Int) (t : List Int) : Int × Int := bif (told cs code t).2 != 0 then (0, (told cs code t).2) else ((told cs code t).1 + ewform_Over cs, 0)
theorem len_E (cs code : Int) (t : List Int) (h : i32s t = true) (hl : t.length ≤ 1048576) : ewcost_Len cs code t = lenE cs code t := by
  have h1 := told_range cs code t hl
  have h2 := over_range cs
  unfold ewcost_Len lenE
  rw [text_told cs code t h hl, IntWalk.i64_in _ (by omega)]
theorem len30_E (cs code : Int) (t : List Int) (hl : t.length ≤ 1048576) : ref30_Len cs code t = lenE cs code t := by
  have h0 := lay13_len cs t hl
  have h2 := over_range cs
  have h3 := codeLen_le code (ref13_Lay cs t).1
  unfold ref30_Len lenE told ref29_Over
  rw [lay14_len, lay20_len]
  unfold codeLen at h3 ⊢
  have hb : bLen (ref13_Lay cs t).1.length ≤ 100000000 := by unfold bLen; omega
  have hq := qLen_le (ref13_Lay cs t).1
  rw [IntWalk.i64_in (ewform_Over cs + ((bLen (ref13_Lay cs t).1.length : Nat) : Int)) (by omega), IntWalk.i64_in (ewform_Over cs + ((qLen (ref13_Lay cs t).1 : Nat) : Int)) (by omega)]
  by_cases e0 : (ref13_Lay cs t).2 = 10
  · rw [beqT e0]; rfl
  · rw [beqF e0]
    cases ((code != 1) && (code != 2)) with
    | true => rfl
    | false =>
      by_cases e1 : (ref13_Lay cs t).2 = 0
      · rw [bneF e1]
        cases (code == 1) <;> simp [Int.add_comm]
      · rw [bneT e1]
        show (0, (ref13_Lay cs t).2) = bif (ref13_Lay cs t).2 != 0 then (0, (ref13_Lay cs t).2) else _
        rw [bneT e1]; rfl
theorem told_code {cs : Int} {t : List Int} : (told cs 1 t).2 = (told cs 2 t).2 := by
  unfold told
  cases ((ref13_Lay cs t).2 == 10) <;> cases ((ref13_Lay cs t).2 != 0) <;> rfl
theorem text30 (cs code : Int) (t : List Int) (hl : t.length ≤ 1048576) : ref30_Text cs code t = (told cs code t).1 := by
  have h1 := told_range cs code t hl
  have h2 := over_range cs
  unfold ref30_Text ref29_Over
  rw [len30_E cs code t hl]
  unfold lenE
  by_cases h : (told cs code t).2 = 0
  · rw [bneF h]
    show IntKind.wrap .i64 ((told cs code t).1 + ewform_Over cs - ewform_Over cs) = _
    rw [IntWalk.i64_in _ (by omega)]; omega
  · rw [bneT h]
    show (bif (told cs code t).2 != 0 then 0 else _) = _
    rw [bneT h, told_err cs code t h]; rfl
theorem better_eq (cs : Int) (t : List Int) (h : i32s t = true) (hl : t.length ≤ 1048576) : ewcost_Better cs t = ref30_Better cs t := by
  have h1 := told_range cs 1 t hl
  have h2 := told_range cs 2 t hl
  have h3 := over_range cs
  unfold ewcost_Better ref30_Better ewcost_Saved ewcost_Text
  rw [len30_E cs 1 t hl, len30_E cs 2 t hl, text_told cs 1 t h hl, text_told cs 2 t h hl, IntWalk.i64_in _ (by omega)]
  unfold lenE
  rw [← told_code]
  by_cases h0 : (told cs 1 t).2 = 0
  · rw [bneF h0]
    show (bif decide (0 ≤ (told cs 1 t).1 - (told cs 2 t).1) then _ else _) = (bif decide ((told cs 2 t).1 + ewform_Over cs ≤ (told cs 1 t).1 + ewform_Over cs) then _ else _)
    rw [show decide (0 ≤ (told cs 1 t).1 - (told cs 2 t).1) = decide ((told cs 2 t).1 + ewform_Over cs ≤ (told cs 1 t).1 + ewform_Over cs) by congr 1; apply propext; omega]
  · rw [bneT h0]
    show _ = bif (told cs 1 t).2 != 0 then (0, (told cs 1 t).2) else _
    rw [bneT h0]; rfl
theorem fits_eq (cs code : Int) (t : List Int) (rm : Int) (h : i32s t = true) (hl : t.length ≤ 1048576) : ewcost_Fits cs code t rm = ref30_Fits cs code t rm := by
  unfold ewcost_Fits ref30_Fits
  rw [len_E cs code t h hl, len30_E cs code t hl]
  congr 1
  congr 1
  rw [Bool.eq_iff_iff]
  simp only [Bool.and_eq_true, decide_eq_true_eq]
  by_cases hr : 75 < rm
  · rw [dT hr]; show _ ≤ (75 : Int) ↔ _; omega
  · rw [dF hr]; show _ ≤ rm ↔ _; omega
theorem i32s_take {t : List Int} (h : i32s t = true) (n : Nat) : i32s (t.take n) = true := by
  unfold i32s at h ⊢
  rw [List.all_eq_true] at h ⊢
  exact fun c hc => h c (List.mem_of_mem_take hc)
theorem prefixAt_of {p q : List Int → Bool} (t : List Int) (h : ∀ n, p (t.take n) = q (t.take n)) : ∀ d n, prefixAt p t d n = prefixAt q t d n
  | 0, _ => rfl
  | d + 1, n => by
    show (bif p (t.take (n + 1)) then prefixAt p t d (n + 1) else n) = bif q (t.take (n + 1)) then prefixAt q t d (n + 1) else n
    rw [h, prefixAt_of t h d]
theorem prefix_eq (cs code : Int) (t : List Int) (rm : Int) (h : i32s t = true) (hl : t.length ≤ 1048576) : ewcost_Prefix cs code t rm = ref30_Prefix cs code t rm := by
  unfold ewcost_Prefix ref30_Prefix
  rw [prefixAt_of (q := fun u => ref30_Fits cs code u rm) t (fun n => fits_eq cs code (t.take n) rm (i32s_take h n) (by rw [List.length_take]; omega))]
theorem prefixAt_facts (p : List Int → Bool) (t : List Int) : ∀ (d n : Nat), n ≤ prefixAt p t d n ∧ prefixAt p t d n ≤ n + d ∧ (n < prefixAt p t d n → p (t.take (prefixAt p t d n)) = true) ∧ (prefixAt p t d n < n + d → p (t.take (prefixAt p t d n + 1)) = false)
  | 0, n => by unfold prefixAt; refine ⟨Nat.le_refl _, Nat.le_refl _, fun h => absurd h (Nat.lt_irrefl _), fun h => absurd h (by omega)⟩
  | d + 1, n => by
    rw [show prefixAt p t (d + 1) n = bif p (t.take (n + 1)) then prefixAt p t d (n + 1) else n from rfl]
    cases hp : p (t.take (n + 1)) with
    | false =>
      show n ≤ n ∧ n ≤ n + (d + 1) ∧ (n < n → _) ∧ (n < n + (d + 1) → _)
      exact ⟨Nat.le_refl _, by omega, fun h => absurd h (Nat.lt_irrefl _), fun _ => hp⟩
    | true =>
      show n ≤ prefixAt p t d (n + 1) ∧ prefixAt p t d (n + 1) ≤ n + (d + 1) ∧ (n < prefixAt p t d (n + 1) → _) ∧ (prefixAt p t d (n + 1) < n + (d + 1) → _)
      obtain ⟨h1, h2, h3, h4⟩ := prefixAt_facts p t d (n + 1)
      refine ⟨by omega, by omega, fun _ => ?_, fun hlt => h4 (by omega)⟩
      by_cases e : n + 1 < prefixAt p t d (n + 1)
      · exact h3 e
      · have : prefixAt p t d (n + 1) = n + 1 := by omega
        rw [this]; exact hp
end Go.Av
