/-
  The shallow readings compute what EcM says: places where something is lacking, charsets.
-/
import Derived.Test.YtopepdfipgfakaaEcP1
namespace Go.Av
theorem slices_IndexFunc___rune_rune__math : ∀ (t : List Int), (slices_IndexFunc___rune_rune__ok t = true) → ∃ n, slices_IndexFunc___rune_rune__sh n t = slices_IndexFunc___rune_rune__ret (slices_IndexFunc___rune_rune_ t) := fun t h => ⟨t.length + 1, by
  have hl := lenOk_le (l := t) h
  unfold slices_IndexFunc___rune_rune__sh slices_IndexFunc___rune_rune_
  refine lack_top (lack_rule (L := fun n i => slices_IndexFunc___rune_rune__l2 slices_IndexFunc___rune_rune__ret (slices_IndexFunc___rune_rune__k2_0 (t.length + 1)) n t ((t.length : Nat) : Int) i) hl (fun n i hi => ?_) (fun n => ?_) t.length 0 (t.length + 1) (by omega) (by omega)) rfl
  · show slices_IndexFunc___rune_rune__l2_b _ _ _ n _ _ _ = _
    unfold slices_IndexFunc___rune_rune__l2_b
    simp (disch := omega) only [dT, cond_true, Bool.and_true, tn, i64_succ]
    unfold scalar_First_1
    cases scalar_Is (t.getD i 0) <;> rfl
  · show slices_IndexFunc___rune_rune__l2_b _ _ _ n _ _ _ = _
    unfold slices_IndexFunc___rune_rune__l2_b
    rw [dF (by omega)]
    rfl⟩
theorem winone_Lacks_math : ∀ (t : List Int), (winone_Lacks_ok t = true) → ∃ n, winone_Lacks_sh n t = winone_Lacks_ret (winone_Lacks t) := fun t h => ⟨t.length + 1, by
  have hl := lenOk_le (l := t) h
  unfold winone_Lacks_sh winone_Lacks
  refine lack_top (lack_rule (L := fun n i => winone_Lacks_l2 winone_Lacks_ret (winone_Lacks_k2_0 (t.length + 1)) n t ((t.length : Nat) : Int) i) hl (fun n i hi => ?_) (fun n => ?_) t.length 0 (t.length + 1) (by omega) (by omega)) rfl
  · show winone_Lacks_l2_b _ _ _ n _ _ _ = _
    unfold winone_Lacks_l2_b
    simp (disch := omega) only [dT, cond_true, Bool.and_true, tn, i64_succ]
    cases winone_Has (t.getD i 0) <;> rfl
  · show winone_Lacks_l2_b _ _ _ n _ _ _ = _
    unfold winone_Lacks_l2_b
    rw [dF (by omega)]
    rfl⟩
theorem latin_Lacks_math : ∀ (t : List Int), (latin_Lacks_ok t = true) → ∃ n, latin_Lacks_sh n t = latin_Lacks_ret (latin_Lacks t) := fun t h => ⟨t.length + 1, by
  have hl := lenOk_le (l := t) h
  unfold latin_Lacks_sh latin_Lacks
  refine lack_top (lack_rule (L := fun n i => latin_Lacks_l2 latin_Lacks_ret (latin_Lacks_k2_0 (t.length + 1)) n t ((t.length : Nat) : Int) i) hl (fun n i hi => ?_) (fun n => ?_) t.length 0 (t.length + 1) (by omega) (by omega)) rfl
  · show latin_Lacks_l2_b _ _ _ n _ _ _ = _
    unfold latin_Lacks_l2_b
    simp (disch := omega) only [dT, cond_true, Bool.and_true, tn, i64_succ]
    cases latin_Has (t.getD i 0) <;> rfl
  · show latin_Lacks_l2_b _ _ _ n _ _ _ = _
    unfold latin_Lacks_l2_b
    rw [dF (by omega)]
    rfl⟩
theorem reper_Lacks_math : ∀ (cs : Int) (t : List Int), (reper_Lacks_ok cs t = true) → ∃ n, reper_Lacks_sh n cs t = reper_Lacks_ret (reper_Lacks cs t) := fun cs t h => ⟨t.length + 1, by
  have hl := lenOk_le (l := t) h
  unfold reper_Lacks_sh reper_Lacks
  refine lack_top (lack_rule (L := fun n i => reper_Lacks_l2 reper_Lacks_ret (reper_Lacks_k2_0 (t.length + 1)) n cs t ((t.length : Nat) : Int) i) hl (fun n i hi => ?_) (fun n => ?_) t.length 0 (t.length + 1) (by omega) (by omega)) rfl
  · show reper_Lacks_l2_b _ _ _ n _ _ _ _ = _
    unfold reper_Lacks_l2_b
    simp (disch := omega) only [dT, cond_true, Bool.and_true, tn, i64_succ]
    cases reper_Has cs (t.getD i 0) <;> rfl
  · show reper_Lacks_l2_b _ _ _ n _ _ _ _ = _
    unfold reper_Lacks_l2_b
    rw [dF (by omega)]
    rfl⟩
theorem scalar_First_math : ∀ (t0 : List Int), (scalar_First_ok t0 = true) → ∃ n, scalar_First_sh n t0 = scalar_First_ret (scalar_First t0) := fun t h => ⟨0, by
  unfold scalar_First_sh
  rw [show slices_IndexFunc___rune_rune__ok t = true from h]
  rfl⟩
theorem scalar_Right_math : ∀ (t0 : List Int), (scalar_Right_ok t0 = true) → ∃ n, scalar_Right_sh n t0 = scalar_Right_ret (scalar_Right t0) := fun t h => ⟨0, by
  unfold scalar_Right_sh
  rw [show scalar_First_ok t = true from h]
  rfl⟩
theorem utfone_Len_math : ∀ (c0 : Int), ∃ n, utfone_Len_sh n c0 = utfone_Len_ret (utfone_Len c0) := fun c => ⟨0, by
  unfold utfone_Len_sh utfone_Len
  cases scalar_Is c <;> cases decide (c < (128 : Int)) <;> cases decide (c < (2048 : Int)) <;> cases decide (c < (65536 : Int)) <;> rfl⟩
theorem utfone_lead_math : ∀ (n0 : Int), ∃ n, utfone_lead_sh n n0 = utfone_lead_ret (utfone_lead n0) := fun c => ⟨0, by
  unfold utfone_lead_sh utfone_lead
  cases (c == (2 : Int)) <;> cases (c == (3 : Int)) <;> cases (c == (4 : Int)) <;> rfl⟩
theorem utfone_Len_cases (c : Int) : utfone_Len c = 0 ∨ utfone_Len c = 1 ∨ utfone_Len c = 2 ∨ utfone_Len c = 3 ∨ utfone_Len c = 4 := by
  unfold utfone_Len
  cases scalar_Is c <;> cases decide (c < (128 : Int)) <;> cases decide (c < (2048 : Int)) <;> cases decide (c < (65536 : Int)) <;> simp
theorem utfone_Put_math : ∀ (b0 : List UInt8) (c1 : Int), (utfone_Put_ok b0 c1 = true) → ∃ n, utfone_Put_sh n b0 c1 = utfone_Put_ret (utfone_Put b0 c1).1 (utfone_Put b0 c1).2 := fun b c h => ⟨0, by
  have hl := lenOk_le (l := b) h
  unfold utfone_Put_sh utfone_Put
  rw [show bytes_Clone_ok b = true from h, show bytes_Clone b = b from rfl]
  have hr : ∀ (l m : List UInt8), l.length ≤ 1048580 → m.length ≤ 10 → decide (l.length + m.length ≤ room) = true := fun l m h1 h2 => dT (by unfold room; omega)
  rcases utfone_Len_cases c with e | e | e | e | e <;> rw [e]
  · rfl
  · rw [hr b _ (by omega) (by simp)]; rfl
  · simp only [show ((2:Int) == 0) = false from rfl, show ((2:Int) == 4) = false from rfl, show ((2:Int) == 3) = false from rfl, show ((2:Int) == 2) = true from rfl, cond_false, cond_true]
    rw [hr b _ (by omega) (by simp), hr (b ++ _) _ (by simp; omega) (by simp)]
    simp only [List.append_assoc]; rfl
  · simp only [show ((3:Int) == 0) = false from rfl, show ((3:Int) == 4) = false from rfl, show ((3:Int) == 3) = true from rfl, cond_false, cond_true]
    rw [hr b _ (by omega) (by simp), hr (b ++ _) _ (by simp; omega) (by simp), hr (b ++ _ ++ _) _ (by simp; omega) (by simp)]
    simp only [List.append_assoc]; rfl
  · simp only [show ((4:Int) == 0) = false from rfl, show ((4:Int) == 4) = true from rfl, cond_false, cond_true]
    rw [hr b _ (by omega) (by simp), hr (b ++ _) _ (by simp; omega) (by simp), hr (b ++ _ ++ _) _ (by simp; omega) (by simp), hr (b ++ _ ++ _ ++ _) _ (by simp; omega) (by simp)]
    simp only [List.append_assoc]; rfl⟩
theorem i64_of {c : Int} (h0 : 0 ≤ c) (h1 : c ≤ 1114111) : IntKind.wrap .i64 c = c := IntWalk.i64_in c (by omega)
theorem ref04_Octets_math : ∀ (c0 : Int), ∃ n, ref04_Octets_sh n c0 = ref04_Octets_ret (ref04_Octets c0) := fun c => ⟨0, by
  unfold ref04_Octets_sh ref04_Octets
  cases h : ref03_Is c with
  | false => rfl
  | true =>
    unfold ref03_Is at h
    simp only [Bool.and_eq_true, decide_eq_true_eq] at h
    have e1 : Int.tdiv c 64 = c / 64 := Int.tdiv_eq_ediv_of_nonneg h.1
    have e2 : Int.tdiv c 4096 = c / 4096 := Int.tdiv_eq_ediv_of_nonneg h.1
    have e3 : Int.tdiv c 262144 = c / 262144 := Int.tdiv_eq_ediv_of_nonneg h.1
    have e4 : Int.tmod c 64 = c % 64 := Int.tmod_eq_emod_of_nonneg h.1
    have e5 : Int.tmod (c / 64) 64 = c / 64 % 64 := Int.tmod_eq_emod_of_nonneg (by omega)
    have e6 : Int.tmod (c / 4096) 64 = c / 4096 % 64 := Int.tmod_eq_emod_of_nonneg (by omega)
    rw [i64_of h.1 h.2.1, e1, e2, e3, e4, i64_of (c := c / 64) (by omega) (by omega), i64_of (c := c / 4096) (by omega) (by omega), i64_of (c := c / 262144) (by omega) (by omega), e5, e6,
      i64_of (c := 192 + c / 64) (by omega) (by omega), i64_of (c := 128 + c % 64) (by omega) (by omega), i64_of (c := 224 + c / 4096) (by omega) (by omega), i64_of (c := 128 + c / 64 % 64) (by omega) (by omega),
      i64_of (c := 240 + c / 262144) (by omega) (by omega), i64_of (c := 128 + c / 4096 % 64) (by omega) (by omega)]
    cases decide (c < (128 : Int)) <;> cases decide (c < (2048 : Int)) <;> cases decide (c < (65536 : Int)) <;> rfl⟩
theorem latnine_others_math : ∃ n, latnine_others_sh n  = latnine_others_ret latnine_others := ⟨0, rfl⟩
theorem winone_others_math : ∃ n, winone_others_sh n  = winone_others_ret winone_others := ⟨0, rfl⟩
theorem put_cond {β : Type} (ret : UInt8 → Bool → β) (b : Bool) (x y : UInt8 × Bool) : ret (bif b then x else y).1 (bif b then x else y).2 = bif b then ret x.1 x.2 else ret y.1 y.2 := by cases b <;> rfl
theorem latnine_Put_math : ∀ (c0 : Int), ∃ n, latnine_Put_sh n c0 = latnine_Put_ret (latnine_Put c0).1 (latnine_Put c0).2 := fun c => ⟨9, by
  unfold latnine_Put
  simp only [put_cond]
  rw [show (bif decide (c < 0) || decide (256 ≤ c) then latnine_Put_ret (0, false).1 (0, false).2 else latnine_Put_ret (oct8 c, true).1 (oct8 c, true).2) = latnine_Put_k2_0 9 c from by
    unfold latnine_Put_k2_0
    cases decide (c < (0 : Int)) <;> cases decide ((256 : Int) ≤ c) <;> rfl]
  rfl⟩
theorem latnine_Has_math : ∀ (c0 : Int), ∃ n, latnine_Has_sh n c0 = latnine_Has_ret (latnine_Has c0) := fun _ => ⟨0, rfl⟩
theorem winone_Put_math : ∀ (c0 : Int), ∃ n, winone_Put_sh n c0 = winone_Put_ret (winone_Put c0).1 (winone_Put c0).2 := fun c => ⟨0, by
  unfold winone_Put_sh winone_Put
  rw [show slices_Index___rune_rune__ok winone_others c = true from by show lenOk winone_others = true; decide]
  have h1 : decide (0 ≤ c) = false → decide (c < 256) = true := by simp; omega
  have h2 : decide (c < 128) = true → decide (c < 256) = true := by simp; omega
  have h3 : decide (160 ≤ c) = true → decide (0 ≤ c) = true := by simp; omega
  have h4 : decide (160 ≤ c) = true → decide (c < 128) = false := by simp; omega
  have h5 : decide (160 ≤ c) = false → decide (c < 256) = true := by simp; omega
  simp only [put_cond]
  revert h1 h2 h3 h4 h5
  cases decide ((0 : Int) ≤ c) <;> cases decide (c < (128 : Int)) <;> cases decide ((160 : Int) ≤ c) <;> cases decide (c < (256 : Int)) <;> cases decide (slices_Index___rune_rune_ winone_others c < (0 : Int)) <;> intro h1 h2 h3 h4 h5 <;> first | rfl | (exfalso; revert h1 h2 h3 h4 h5; decide)⟩
theorem winone_Has_math : ∀ (c0 : Int), ∃ n, winone_Has_sh n c0 = winone_Has_ret (winone_Has c0) := fun _ => ⟨0, rfl⟩
theorem latin_Has_math : ∀ (c0 : Int), ∃ n, latin_Has_sh n c0 = latin_Has_ret (latin_Has c0) := fun _ => ⟨0, rfl⟩
theorem set_step {α β : Type} (f : α → β) (t : List α) (z : β) (i : Nat) (h : i < t.length) (d : α) :
    ((t.take i).map f ++ List.replicate (t.length - i) z).set i (f (t.getD i d)) = (t.take (i + 1)).map f ++ List.replicate (t.length - (i + 1)) z := by
  rw [List.set_append_right _ _ (by simp; omega)]
  have h1 : ((t.take i).map f).length = i := by simp; omega
  rw [h1, Nat.sub_self, show t.length - i = (t.length - (i + 1)) + 1 by omega, List.replicate_succ, List.set_cons_zero, List.take_succ_eq_append_getElem h, List.map_append, List.append_assoc]
  simp [List.getD, h]

theorem latin_Lay_loop (k0 : List UInt8 → Option AV) (t : List Int) (hl : t.length ≤ 1048576) : ∀ (d i n : Nat), i + d = t.length → d < n →
    latin_Lay_l5 k0 n ((t.take i).map (fun c => UInt8.ofNat (Int.toNat (IntKind.wrap .u8 c))) ++ List.replicate (t.length - i) 0) t (t.length : Nat) (i : Nat) = k0 (t.map fun c => UInt8.ofNat (Int.toNat (IntKind.wrap .u8 c)))
  | d, i, 0, hi, hn => by omega
  | 0, i, n + 1, hi, hn => by
    show latin_Lay_l5_b k0 (latin_Lay_l5 k0 n) n _ t _ _ = _
    unfold latin_Lay_l5_b
    obtain rfl : i = t.length := by omega
    rw [decide_eq_false (by omega), cond_false, List.take_length, Nat.sub_self]
    simp
  | d + 1, i, n + 1, hi, hn => by
    show latin_Lay_l5_b k0 (latin_Lay_l5 k0 n) n _ t _ _ = _
    unfold latin_Lay_l5_b
    have hlt : i < t.length := by omega
    have hl2 : ((t.take i).map (fun c => UInt8.ofNat (Int.toNat (IntKind.wrap .u8 c))) ++ List.replicate (t.length - i) (0 : UInt8)).length = t.length := by simp; omega
    have ih := latin_Lay_loop k0 t hl d (i + 1) n (by omega) (by omega)
    rw [dec_lt, decide_eq_true hlt, cond_true, dec_nonneg, Bool.true_and, cond_true, Bool.true_and, dec_lt, hl2, decide_eq_true hlt, cond_true, i64_succ (by omega), toNat_nat,
      set_step (fun c => UInt8.ofNat (Int.toNat (IntKind.wrap .u8 c))) t 0 i hlt 0]
    exact ih

theorem latin_Lay_math : ∀ (t0 : List Int), (latin_Lay_ok t0 = true) → ∃ n, latin_Lay_sh n t0 = latin_Lay_ret (latin_Lay t0).1 (latin_Lay t0).2 := fun t h => ⟨t.length + 1, by
  have hl := lenOk_le h
  unfold latin_Lay_sh latin_Lay
  rw [show latin_Lacks_ok t = true from h, Bool.and_true, cond_true]
  cases latin_Lacks t != -1 with
  | true => rfl
  | false =>
    have := latin_Lay_loop (latin_Lay_k5_0 (t.length + 1)) t hl t.length 0 (t.length + 1) (by omega) (by omega)
    rw [cond_false, cond_false, dec_nonneg, decide_eq_true (Int.le_refl _), decide_eq_true (by unfold room; omega)]
    unfold latin_Lay_k5_0 at this ⊢
    simpa using this⟩

theorem ref08_Sign_math : ∀ (x0 : UInt8), ∃ n, ref08_Sign_sh n x0 = ref08_Sign_ret (ref08_Sign x0) := fun _ => ⟨0, rfl⟩
theorem sign_of_nat (i : Int) (h0 : 0 ≤ i) (h1 : i < 256) : ref08_Sign (UInt8.ofNat (Int.toNat (IntKind.wrap .u8 i))) = i := by
  unfold ref08_Sign
  rw [IntWalk.u8_in i (by omega), UInt8.toNat_ofNat', Nat.mod_eq_of_lt (by omega), IntWalk.i32_in _ (by omega)]
  omega

theorem ref08_Put_loop (ret : UInt8 → Bool → Option AV) (k0 : Option AV) (c : Int) : ∀ (d : Nat) (i : Int) (n : Nat), i = 256 - d → 0 ≤ i → d < n →
    ref08_Put_l2 ret k0 n c i = bif decide (i ≤ c) && decide (c < 256) then ret (UInt8.ofNat c.toNat) true else k0
  | d, i, 0, hi, h0, hn => by omega
  | 0, i, n + 1, hi, h0, hn => by
    obtain rfl : i = 256 := by omega
    have h1 : (decide ((256 : Int) ≤ c) && decide (c < 256)) = false := by
      simp only [Bool.and_eq_false_iff, decide_eq_false_iff_not]; omega
    rw [h1]
    rfl
  | d + 1, i, n + 1, hi, h0, hn => by
    have hlt : i < 256 := by omega
    show ref08_Put_l2_b ret k0 (ref08_Put_l2 ret k0 n) n c i = _
    unfold ref08_Put_l2_b
    rw [decide_eq_true hlt, cond_true, sign_of_nat i h0 hlt, IntWalk.i64_in (i + 1) (by omega), ref08_Put_loop ret k0 c d (i + 1) n (by omega) (by omega) (by omega)]
    by_cases e : i = c
    · subst e
      have h1 : (i != 65533) = true := by simp only [bne_iff_ne, ne_eq]; omega
      rw [beq_self_eq_true, cond_true, h1, cond_true, decide_eq_true (Int.le_refl i), decide_eq_true hlt, IntWalk.u8_in i (by omega)]
      rfl
    · have h1 : (i == c) = false := by simp [e]
      have h2 : decide (i + 1 ≤ c) = decide (i ≤ c) := by simp only [decide_eq_decide]; omega
      rw [h1, cond_false, h2]

theorem ref08_Put_math : ∀ (c0 : Int), ∃ n, ref08_Put_sh n c0 = ref08_Put_ret (ref08_Put c0).1 (ref08_Put c0).2 := fun c => ⟨257, by
  unfold ref08_Put_sh ref08_Put
  rw [ref08_Put_loop _ _ c 256 0 257 (by omega) (by omega) (by omega)]
  cases decide (0 ≤ c) && decide (c < 256) <;> rfl⟩

theorem i32_byte (x : UInt8) : IntKind.wrap .i32 ((UInt8.toNat x : Nat) : Int) = ((UInt8.toNat x : Nat) : Int) := IntWalk.i32_in _ (by have := x.toNat_lt; omega)
theorem ref09_Sign_math : ∀ (x0 : UInt8), ∃ n, ref09_Sign_sh n x0 = ref09_Sign_ret (ref09_Sign x0) := fun x => ⟨0, by
  unfold ref09_Sign_sh ref09_Sign
  rw [i32_byte]
  cases (x == (164 : UInt8)) <;> cases (x == (166 : UInt8)) <;> cases (x == (168 : UInt8)) <;> cases (x == (180 : UInt8)) <;> cases (x == (184 : UInt8)) <;> cases (x == (188 : UInt8)) <;> cases (x == (189 : UInt8)) <;> cases (x == (190 : UInt8)) <;> rfl⟩
theorem ref10_Sign_math : ∀ (x0 : UInt8), ∃ n, ref10_Sign_sh n x0 = ref10_Sign_ret (ref10_Sign x0) := fun x => ⟨0, by
  unfold ref10_Sign_sh ref10_Sign
  rw [i32_byte]
  have hx := x.toNat_lt
  by_cases h1 : x < 128
  · rw [dT h1]; rfl
  · by_cases h2 : 159 < x
    · rw [dF h1, dT h2]; rfl
    · rw [dF h1, dF h2]
      have h3 : 128 ≤ x.toNat := by have := UInt8.not_lt.1 h1; exact UInt8.le_iff_toNat_le.1 this
      have h4 : x.toNat ≤ 159 := by have := UInt8.not_lt.1 h2; exact UInt8.le_iff_toNat_le.1 this
      have h5 : (x - 128).toNat = x.toNat - 128 := UInt8.toNat_sub_of_le _ _ (UInt8.not_lt.1 h1)
      rw [h5]
      simp (disch := (first | omega | (simp; omega))) only [dT, Bool.and_true, cond_true, cond_false, Bool.or_false, tn]
      rfl⟩
/-- The first octet of 256 whose sign it is. -/
theorem put_rule {sign : UInt8 → Int} {put : Int → UInt8 × Bool} {c : Int} {L : Nat → Int → Option AV} {ret : UInt8 → Bool → Option AV}
    (hL : ∀ n i : Nat, i < 256 → L (n + 1) (i : Int) = bif sign (UInt8.ofNat i) == c then (bif c != 65533 then ret (UInt8.ofNat i) true else L n ((i + 1 : Nat) : Int)) else L n ((i + 1 : Nat) : Int)) (hE : ∀ n, L (n + 1) ((256 : Nat) : Int) = ret 0 false)
    (hA : ∀ i : Nat, i < 256 → sign (UInt8.ofNat i) = c → c ≠ 65533 → put c = (UInt8.ofNat i, true)) (hB : (put c).2 = true → sign (put c).1 = c ∧ c ≠ 65533) (hC : (put c).2 = false → (put c).1 = 0) :
    ∀ d i n : Nat, i + d = 256 → d < n → (∀ j : Nat, j < i → ¬ (sign (UInt8.ofNat j) = c ∧ c ≠ 65533)) → L n (i : Int) = ret (put c).1 (put c).2
  | d, i, 0, hi, hn, _ => by omega
  | 0, i, n + 1, hi, hn, hno => by
    obtain rfl : i = 256 := by omega
    rw [hE]
    cases h : (put c).2 with
    | true =>
      have := hB h
      exact absurd (by simpa using this) (hno (put c).1.toNat (put c).1.toNat_lt)
    | false => rw [hC h]
  | d + 1, i, n + 1, hi, hn, hno => by
    have ih : ¬ (sign (UInt8.ofNat i) = c ∧ c ≠ 65533) → L n ((i + 1 : Nat) : Int) = ret (put c).1 (put c).2 := fun h => put_rule hL hE hA hB hC d (i + 1) n (by omega) (by omega) fun j hj => by
      by_cases e : j = i
      · subst e; exact h
      · exact hno j (by omega)
    rw [hL n i (by omega)]
    by_cases h1 : sign (UInt8.ofNat i) = c
    · by_cases h2 : c = 65533
      · rw [beqT h1, bneF h2, cond_true, cond_false, ih (fun h => h.2 h2)]
      · rw [beqT h1, bneT h2, cond_true, cond_true, hA i (by omega) h1 h2]
    · rw [beqF h1, cond_false, ih (fun h => h1 h.1)]
theorem oct8_nat (i : Nat) (h : i < 256) : UInt8.ofNat (Int.toNat (IntKind.wrap .u8 (i : Int))) = UInt8.ofNat i := by
  rw [IntWalk.u8_in _ (by omega)]; simp
theorem oct8_of (i : Nat) (h : i < 256) : oct8 (i : Int) = UInt8.ofNat i := oct8_nat i h
theorem nine_A : ∀ i : Fin 256, latnine_Put (ref09_Sign (UInt8.ofNat i.val)) = (UInt8.ofNat i.val, true) := by decide +kernel
theorem nine_B : ∀ i : Fin 256, ((latnine_Put ((i.val : Nat) : Int)).2 = true → ref09_Sign (latnine_Put ((i.val : Nat) : Int)).1 = ((i.val : Nat) : Int)) ∧ ((latnine_Put ((i.val : Nat) : Int)).2 = false → (latnine_Put ((i.val : Nat) : Int)).1 = 0) := by decide +kernel
theorem nine_C : ∀ c ∈ ([8364, 352, 353, 381, 382, 338, 339, 376] : List Int), (latnine_Put c).2 = true ∧ ref09_Sign (latnine_Put c).1 = c ∧ c ≠ 65533 := by decide +kernel
theorem nine_out {c : Int} (h : c ∉ ([8364, 352, 353, 381, 382, 338, 339, 376] : List Int)) (hc : c < 0 ∨ 256 ≤ c) : latnine_Put c = (0, false) := by
  simp only [List.mem_cons, List.not_mem_nil, or_false, not_or] at h
  obtain ⟨h1, h2, h3, h4, h5, h6, h7, h8⟩ := h
  unfold latnine_Put
  simp (disch := omega) only [beqF, cond_false]
  rw [show (decide (c < 0) || decide (256 ≤ c)) = true by simp; omega]
  rfl
theorem nine_facts (c : Int) : ((latnine_Put c).2 = true → ref09_Sign (latnine_Put c).1 = c ∧ c ≠ 65533) ∧ ((latnine_Put c).2 = false → (latnine_Put c).1 = 0) := by
  by_cases h : c ∈ ([8364, 352, 353, 381, 382, 338, 339, 376] : List Int)
  · have := nine_C c h
    exact ⟨fun _ => this.2, fun e => by rw [this.1] at e; cases e⟩
  · by_cases hc : c < 0 ∨ 256 ≤ c
    · rw [nine_out h hc]; exact ⟨(fun e => by cases e), fun _ => rfl⟩
    · have hb := nine_B ⟨c.toNat, by omega⟩
      simp only [Int.toNat_of_nonneg (show 0 ≤ c by omega)] at hb
      exact ⟨fun e => ⟨hb.1 e, by omega⟩, hb.2⟩
theorem ref09_Put_math : ∀ (c0 : Int), ∃ n, ref09_Put_sh n c0 = ref09_Put_ret (ref09_Put c0).1 (ref09_Put c0).2 := fun c => ⟨257, by
  unfold ref09_Put_sh ref09_Put
  refine put_rule (sign := ref09_Sign) (put := latnine_Put) (L := fun n i => ref09_Put_l2 ref09_Put_ret (ref09_Put_k2_0 257) n c i) (fun n i hi => ?_) (fun n => rfl) (fun i hi h1 h2 => ?_) (nine_facts c).1 (nine_facts c).2 256 0 257 (by omega) (by omega) (fun j hj => by omega)
  · show ref09_Put_l2_b _ _ _ n _ _ = _
    unfold ref09_Put_l2_b
    simp (disch := omega) only [dT, cond_true, i64_succ, oct8_nat]
  · have := nine_A ⟨i, hi⟩
    rw [← h1]
    exact this⟩
theorem win_A : ∀ i : Fin 256, ref10_Sign (UInt8.ofNat i.val) ≠ 65533 → winone_Put (ref10_Sign (UInt8.ofNat i.val)) = (UInt8.ofNat i.val, true) := by decide +kernel
theorem win_B : ∀ i : Fin 256, ((winone_Put ((i.val : Nat) : Int)).2 = true → ref10_Sign (winone_Put ((i.val : Nat) : Int)).1 = ((i.val : Nat) : Int)) ∧ ((winone_Put ((i.val : Nat) : Int)).2 = false → (winone_Put ((i.val : Nat) : Int)).1 = 0) := by decide +kernel
theorem win_C : ∀ c ∈ winone_others, 256 ≤ c → (winone_Put c).2 = true ∧ ref10_Sign (winone_Put c).1 = c ∧ c ≠ 65533 := by decide +kernel
theorem lack_mem (c : Int) : ∀ (l : List Int) (i : Int), 0 ≤ i → c ∉ l → lackAt (fun x => !(c == x)) l i = -1
  | [], _, _, _ => rfl
  | x :: r, i, hi, h => by
    simp only [List.mem_cons, not_or] at h
    unfold lackAt
    rw [beqF h.1]
    exact lack_mem c r (i + 1) (by omega) h.2
theorem win_out {c : Int} (h : c ∉ winone_others) (hc : c < 0 ∨ 256 ≤ c) : winone_Put c = (0, false) := by
  unfold winone_Put slices_Index___rune_rune_
  rw [lack_mem c _ 0 (by omega) h, show ((decide (0 ≤ c) && decide (c < 128)) || (decide (160 ≤ c) && decide (c < 256))) = false by simp; omega]
  cases decide (c < 256) <;> rfl
theorem win_facts (c : Int) : ((winone_Put c).2 = true → ref10_Sign (winone_Put c).1 = c ∧ c ≠ 65533) ∧ ((winone_Put c).2 = false → (winone_Put c).1 = 0) := by
  by_cases hc : c < 0 ∨ 256 ≤ c
  · by_cases h : c ∈ winone_others
    · by_cases h0 : c < 0
      · have : ∀ c ∈ winone_others, 0 ≤ c := by decide +kernel
        have := this c h
        omega
      · have := win_C c h (by omega)
        exact ⟨fun _ => this.2, fun e => by rw [this.1] at e; cases e⟩
    · rw [win_out h hc]; exact ⟨(fun e => by cases e), fun _ => rfl⟩
  · have hb := win_B ⟨c.toNat, by omega⟩
    simp only [Int.toNat_of_nonneg (show 0 ≤ c by omega)] at hb
    exact ⟨fun e => ⟨hb.1 e, by omega⟩, hb.2⟩
theorem ref10_Put_math : ∀ (c0 : Int), ∃ n, ref10_Put_sh n c0 = ref10_Put_ret (ref10_Put c0).1 (ref10_Put c0).2 := fun c => ⟨257, by
  unfold ref10_Put_sh ref10_Put
  refine put_rule (sign := ref10_Sign) (put := winone_Put) (L := fun n i => ref10_Put_l2 ref10_Put_ret (ref10_Put_k2_0 257) n c i) (fun n i hi => ?_) (fun n => rfl) (fun i hi h1 h2 => ?_) (win_facts c).1 (win_facts c).2 256 0 257 (by omega) (by omega) (fun j hj => by omega)
  · show ref10_Put_l2_b _ _ _ n _ _ = _
    unfold ref10_Put_l2_b
    simp (disch := omega) only [dT, cond_true, i64_succ, oct8_nat]
  · have := win_A ⟨i, hi⟩
    rw [← h1] at h2 ⊢
    exact this h2⟩
end Go.Av
