/-
  What the program lays in a charset is what the document lays; the lengths are the same.
-/
import Derived.Test.YtopepdfipgfakaaEcP5
namespace Go.Av
theorem i32s_mem {t : List Int} (h : i32s t = true) {c : Int} (hc : c ∈ t) : -2147483648 ≤ c ∧ c ≤ 2147483647 := by
  unfold i32s at h
  rw [List.all_eq_true] at h
  simpa using h c hc
theorem u32_of {c : Int} (h : -2147483648 ≤ c ∧ c ≤ 2147483647) : IntKind.wrap .u32 c = if 0 ≤ c then c else c + 4294967296 := by
  by_cases h0 : 0 ≤ c
  · rw [if_pos h0, IntWalk.u32_in c (by omega)]
  · rw [if_neg h0]
    have : IntKind.wrap .u32 c = c % 4294967296 := rfl
    rw [this]; omega
theorem scalar_eq {c : Int} (h : -2147483648 ≤ c ∧ c ≤ 2147483647) : scalar_Is c = ref03_Is c := by
  unfold scalar_Is ref03_Is
  rw [show ref03_Surrogate c = scalar_Surrogate c from rfl, ← Bool.and_assoc, u32_of h]
  congr 1
  rw [Bool.eq_iff_iff]
  simp only [Bool.and_eq_true, decide_eq_true_eq]
  split <;> omega
theorem latin_eq {c : Int} (h : -2147483648 ≤ c ∧ c ≤ 2147483647) : latin_Has c = (ref08_Put c).2 := by
  unfold latin_Has ref08_Put
  rw [u32_of h]
  have : decide ((if 0 ≤ c then c else c + 4294967296) < 256) = (decide (0 ≤ c) && decide (c < 256)) := by
    rw [Bool.eq_iff_iff]
    simp only [Bool.and_eq_true, decide_eq_true_eq]
    split <;> omega
  rw [this]
  cases (decide (0 ≤ c) && decide (c < 256)) <;> rfl
theorem has_eq (cs : Int) {c : Int} (h : -2147483648 ≤ c ∧ c ≤ 2147483647) : reper_Has cs c = ref12_Has cs c := by
  unfold reper_Has ref12_Has
  rw [latin_eq h, scalar_eq h]
  rfl
theorem lack_all (p : Int → Bool) : ∀ (t : List Int) (i : Int), 0 ≤ i → (lackAt p t i = -1 ∧ t.all p = true) ∨ (0 ≤ lackAt p t i ∧ t.all p = false)
  | [], _, _ => .inl ⟨rfl, rfl⟩
  | x :: r, i, hi => by
    rw [show lackAt p (x :: r) i = bif p x then lackAt p r (i + 1) else i from rfl, List.all_cons]
    cases p x with
    | true => simpa using lack_all p r (i + 1) (by omega)
    | false => exact .inr ⟨hi, rfl⟩
theorem lack_beq (p : Int → Bool) (t : List Int) : (lackAt p t 0 == -1) = t.all p := by
  rcases lack_all p t 0 (by omega) with ⟨h1, h2⟩ | ⟨h1, h2⟩
  · rw [h1, h2]; rfl
  · rw [h2, beqF (by omega)]
theorem lack_bne (p : Int → Bool) (t : List Int) : (lackAt p t 0 != -1) = !(t.all p) := by rw [← lack_beq]; rfl
theorem lack_le (p : Int → Bool) (t : List Int) : decide (0 ≤ lackAt p t 0) = !(t.all p) := by
  rcases lack_all p t 0 (by omega) with ⟨h1, h2⟩ | ⟨h1, h2⟩
  · rw [h1, h2]; rfl
  · rw [h2, dT h1]; rfl
theorem all_of {p q : Int → Bool} {t : List Int} (h : ∀ c ∈ t, p c = q c) : t.all p = t.all q := by
  rw [Bool.eq_iff_iff, List.all_eq_true, List.all_eq_true]
  exact ⟨fun k c hc => by rw [← h c hc]; exact k c hc, fun k c hc => by rw [h c hc]; exact k c hc⟩
theorem flatMap_of {f g : Int → List UInt8} : ∀ {t : List Int}, (∀ c ∈ t, f c = g c) → t.flatMap f = t.flatMap g
  | [], _ => rfl
  | x :: r, h => by rw [List.flatMap_cons, List.flatMap_cons, h x (by simp), flatMap_of fun c hc => h c (by simp [hc])]
theorem lead2 : ∀ i : Fin 32, (192 : UInt8) ||| oct8 ((i.val : Nat) : Int) = oct8 (192 + ((i.val : Nat) : Int)) := by decide +kernel
theorem lead3 : ∀ i : Fin 16, (224 : UInt8) ||| oct8 ((i.val : Nat) : Int) = oct8 (224 + ((i.val : Nat) : Int)) := by decide +kernel
theorem lead4 : ∀ i : Fin 8, (240 : UInt8) ||| oct8 ((i.val : Nat) : Int) = oct8 (240 + ((i.val : Nat) : Int)) := by decide +kernel
theorem foll_small : ∀ i : Fin 256, foll ((i.val : Nat) : Int) = oct8 (128 + ((i.val : Nat) : Int) % 64) := by decide +kernel
theorem oct8_mod (n : Int) : oct8 n = oct8 (n % 256) := by
  unfold oct8
  have : IntKind.wrap .u8 n = n % 256 := rfl
  have h2 : IntKind.wrap .u8 (n % 256) = n % 256 % 256 := rfl
  rw [this, h2]; congr 1; congr 1; omega
theorem foll_of (n : Int) : foll n = oct8 (128 + n % 64) := by
  have h := foll_small ⟨(n % 256).toNat, by omega⟩
  simp only [Int.toNat_of_nonneg (show 0 ≤ n % 256 by omega)] at h
  rw [show n % 256 % 64 = n % 64 by omega] at h
  rw [← h]
  unfold foll
  rw [← oct8_mod]
theorem put_eq {c : Int} (h : ref03_Is c = true) (h32 : -2147483648 ≤ c ∧ c ≤ 2147483647) : (utfone_Put [] c).1 = ref04_Octets c := by
  have hs := (scalar_eq h32).trans h
  have hr : 0 ≤ c ∧ c ≤ 1114111 := by
    unfold ref03_Is at h
    simp only [Bool.and_eq_true, decide_eq_true_eq] at h
    exact ⟨h.1, h.2.1⟩
  unfold utfone_Put utfone_Len ref04_Octets
  rw [hs, h]
  simp only [Bool.not_true, cond_false, foll_of, Int.fdiv_eq_ediv_of_nonneg _ (show (0 : Int) ≤ 2 ^ 18 by decide), Int.fdiv_eq_ediv_of_nonneg _ (show (0 : Int) ≤ 2 ^ 12 by decide), Int.fdiv_eq_ediv_of_nonneg _ (show (0 : Int) ≤ 2 ^ 6 by decide), Int.fdiv_eq_ediv_of_nonneg _ (show (0 : Int) ≤ 2 ^ 0 by decide)]
  rw [show (2 : Int) ^ 18 = 262144 from rfl, show (2 : Int) ^ 12 = 4096 from rfl, show (2 : Int) ^ 6 = 64 from rfl, show (2 : Int) ^ 0 = 1 from rfl, Int.ediv_one]
  by_cases h1 : c < 128
  · rw [dT h1]
    show [(0 : UInt8) ||| oct8 c] = [oct8 c]
    rw [UInt8.zero_or]
  · rw [dF h1]
    by_cases h2 : c < 2048
    · rw [dT h2]
      have := lead2 ⟨(c / 64).toNat, by omega⟩
      simp only [Int.toNat_of_nonneg (show 0 ≤ c / 64 by omega)] at this
      show [(192 : UInt8) ||| oct8 (c / 64), oct8 (128 + c % 64)] = _
      rw [this]; rfl
    · rw [dF h2]
      by_cases h3 : c < 65536
      · rw [dT h3]
        have := lead3 ⟨(c / 4096).toNat, by omega⟩
        simp only [Int.toNat_of_nonneg (show 0 ≤ c / 4096 by omega)] at this
        show [(224 : UInt8) ||| oct8 (c / 4096), oct8 (128 + c / 64 % 64), oct8 (128 + c % 64)] = _
        rw [this]; rfl
      · rw [dF h3]
        have := lead4 ⟨(c / 262144).toNat, by omega⟩
        simp only [Int.toNat_of_nonneg (show 0 ≤ c / 262144 by omega)] at this
        show [(240 : UInt8) ||| oct8 (c / 262144), oct8 (128 + c / 4096 % 64), oct8 (128 + c / 64 % 64), oct8 (128 + c % 64)] = _
        rw [this]; rfl
theorem octets_ne {cs c : Int} (h : cs = 1 ∨ cs = 2 ∨ cs = 3 ∨ cs = 4 ∨ cs = 5) : ((ref13_octets cs c).length != 0) = ref12_Has cs c := by
  unfold ref13_octets
  cases hh : ref12_Has cs c with
  | false => rfl
  | true =>
    rcases h with rfl | rfl | rfl | rfl | rfl
    · rfl
    · rfl
    · rfl
    · rfl
    · have h3 : ref03_Is c = true := hh
      show ((ref04_Octets c).length != 0) = true
      unfold ref04_Octets
      rw [h3]
      cases decide (c < (128 : Int)) <;> cases decide (c < (2048 : Int)) <;> cases decide (c < (65536 : Int)) <;> rfl
theorem size_of {cs : Int} (h : cs = 1 ∨ cs = 2 ∨ cs = 3 ∨ cs = 4 ∨ cs = 5) : 0 < reper_Size cs := by
  rcases h with rfl | rfl | rfl | rfl | rfl <;> decide
/-- THE OCTETS ARE THE DOCUMENT'S. -/
theorem lay_eq (cs : Int) (t : List Int) (h : i32s t = true) : codec_Lay cs t = ref13_Lay cs t := by
  by_cases hcs : cs = 1 ∨ cs = 2 ∨ cs = 3 ∨ cs = 4 ∨ cs = 5
  · have hsz := size_of hcs
    unfold codec_Lay ref13_Lay reper_All reper_Lacks
    rw [beqF (show reper_Size cs ≠ 0 by omega), dT hsz, lack_beq, dF (show ¬ cs < 1 by omega), dF (show ¬ 5 < cs by omega), all_of (q := ref12_Has cs) (fun c hc => has_eq cs (i32s_mem h hc)), all_of (p := fun c => (ref13_octets cs c).length != 0) (q := ref12_Has cs) (fun c _ => octets_ne hcs)]
    cases ha : t.all (ref12_Has cs) with
    | false => rfl
    | true =>
      rw [List.all_eq_true] at ha
      show (bif cs == 5 then utfall_Lay t else _) = (t.flatMap (ref13_octets cs), 0)
      rcases hcs with rfl | rfl | rfl | rfl | rfl
      · show latin_Lay t = _
        have h2 : t.all latin_Has = true := List.all_eq_true.2 fun c hc => by
          have := ha c hc
          rw [latin_eq (i32s_mem h hc)]
          unfold ref08_Put
          have h3 : (decide (0 ≤ c) && decide (c < 128)) = true := this
          simp only [Bool.and_eq_true, decide_eq_true_eq] at h3
          rw [dT h3.1, dT (show c < 256 by omega)]; rfl
        unfold latin_Lay latin_Lacks
        rw [lack_bne, h2]
        show (t.map _, (0 : Int)) = _
        rw [← flatMap_one]
        congr 1
        exact flatMap_of fun c hc => by
          unfold ref13_octets
          rw [ha c hc]; rfl
      · show latin_Lay t = _
        have h2 : t.all latin_Has = true := List.all_eq_true.2 fun c hc => by rw [latin_eq (i32s_mem h hc)]; exact ha c hc
        unfold latin_Lay latin_Lacks
        rw [lack_bne, h2]
        show (t.map _, (0 : Int)) = _
        rw [← flatMap_one]
        congr 1
        exact flatMap_of fun c hc => by
          have h3 : (ref08_Put c).2 = true := ha c hc
          unfold ref13_octets
          rw [ha c hc]
          show _ = [(ref08_Put c).1]
          unfold ref08_Put at h3 ⊢
          cases h4 : (decide (0 ≤ c) && decide (c < 256)) with
          | false => rw [h4] at h3; cases h3
          | true =>
            simp only [Bool.and_eq_true, decide_eq_true_eq] at h4
            rw [IntWalk.u8_in c (by omega)]; rfl
      · show latnine_Lay t = _
        unfold latnine_Lay
        rw [show t.all latnine_Has = true from List.all_eq_true.2 ha]
        show (t.map _, (0 : Int)) = _
        rw [← flatMap_one]
        congr 1
        exact flatMap_of fun c hc => by
          unfold ref13_octets
          rw [ha c hc]; rfl
      · show winone_Lay t = _
        unfold winone_Lay winone_Lacks
        rw [lack_le, show t.all winone_Has = true from List.all_eq_true.2 ha]
        show (t.map _, (0 : Int)) = _
        rw [← flatMap_one]
        congr 1
        exact flatMap_of fun c hc => by
          unfold ref13_octets
          rw [ha c hc]; rfl
      · show utfall_Lay t = _
        unfold utfall_Lay scalar_Right
        rw [lack_beq, show t.all scalar_Is = true from List.all_eq_true.2 fun c hc => (scalar_eq (i32s_mem h hc)).trans (ha c hc)]
        show (t.flatMap _, (0 : Int)) = _
        congr 1
        exact flatMap_of fun c hc => by
          have h3 : ref03_Is c = true := ha c hc
          unfold ref13_octets
          rw [ha c hc, put_eq h3 (i32s_mem h hc)]; rfl
  · simp only [not_or] at hcs
    obtain ⟨h1, h2, h3, h4, h5⟩ := hcs
    unfold codec_Lay ref13_Lay reper_Size
    simp only [beqF h1, beqF h2, beqF h3, beqF h4, beqF h5, cond_false]
    rw [show (decide (cs < 1) || decide (5 < cs)) = true by simp; omega]
    rfl
end Go.Av
