/-
  Texts cut at an octet; the small functions of the layers 'ewform' and 'ewtok'.
-/
import Derived.Test.YtnfehbljinflbaaDoorEtP4
namespace Go.Av
theorem bytes_TrimLeft_math : ∀ (s0 : List UInt8) (cutset1 : List UInt8), (bytes_TrimLeft_ok s0 cutset1 = true) → ∃ n, bytes_TrimLeft_sh n s0 cutset1 = bytes_TrimLeft_ret (bytes_TrimLeft s0 cutset1) := fun s cs h => ⟨0, by
  unfold bytes_TrimLeft_ok at h
  simp only [Bool.and_eq_true, decide_eq_true_eq] at h
  obtain ⟨h1, h2, h3, h4⟩ := h
  have hls := lenOk_le h1
  unfold bytes_TrimLeft_sh
  cases s with
  | nil => rfl
  | cons x r =>
    have hcs : (cs == ([] : List UInt8)) = false := by cases cs with
      | nil => simp at h2
      | cons a b => rfl
    have hlen : (x :: r).length = r.length + 1 := rfl
    have hm : bytes_makeASCIISet_ok cs = true := by unfold bytes_makeASCIISet_ok; rw [h3, h4]; rfl
    have e : bytes_trimLeftASCII (x :: r) (bytes_makeASCIISet cs).1 = bytes_TrimLeft (x :: r) cs := by
      unfold bytes_trimLeftASCII bytes_TrimLeft
      have e : (fun c => __bytes_asciiSet__contains (bytes_makeASCIISet cs).1 c) = fun c => cs.contains c := funext fun c => set_contains cs c
      rw [e]
    rw [bneI (by omega), hcs, bneI (by omega), hm, show (bytes_makeASCIISet cs).2 = true from rfl, show bytes_trimLeftASCII_ok (x :: r) (bytes_makeASCIISet cs).1 = true from h1, e]
    rfl⟩
theorem fin_of {P : UInt8 → Prop} (h : ∀ i : Fin 256, P (UInt8.ofNat i.val)) (c : UInt8) : P c := by
  have := h ⟨c.toNat, c.toNat_lt⟩
  simpa using this
theorem lower_facts : ∀ i : Fin 256, (bif decide ((65 : UInt8) ≤ UInt8.ofNat i.val) then (bif decide (UInt8.ofNat i.val ≤ (90 : UInt8)) then UInt8.ofNat i.val + 32 else UInt8.ofNat i.val) else UInt8.ofNat i.val) = octet_Lower (UInt8.ofNat i.val) := by decide +kernel
theorem ref01_Lower_math : ∀ (c0 : UInt8), ∃ n, ref01_Lower_sh n c0 = ref01_Lower_ret (ref01_Lower c0) := fun c => ⟨0, by
  have h := fin_of (P := fun c => (bif decide ((65 : UInt8) ≤ c) then (bif decide (c ≤ (90 : UInt8)) then c + 32 else c) else c) = octet_Lower c) lower_facts c
  unfold ref01_Lower_sh ref01_Lower
  rw [← h]
  cases decide ((65 : UInt8) ≤ c) <;> cases decide (c ≤ (90 : UInt8)) <;> rfl⟩
theorem len_one {s : List UInt8} (h : s.length = 1) : ∃ c, s = [c] := List.length_eq_one_iff.1 h
theorem bytes_Count_math : ∀ (s0 : List UInt8) (sep1 : List UInt8), (bytes_Count_ok s0 sep1 = true) → ∃ n, bytes_Count_sh n s0 sep1 = bytes_Count_ret (bytes_Count s0 sep1) := fun s sep h => ⟨0, by
  unfold bytes_Count_ok at h
  simp only [Bool.and_eq_true, decide_eq_true_eq] at h
  obtain ⟨c, rfl⟩ := len_one h.2
  rfl⟩

/-! Texts cut at an octet. -/
theorem cutC_cons (c : UInt8) (cur : List UInt8) (x : UInt8) (r : List UInt8) : cutC c cur (x :: r) = bif x == c then cur :: cutC c [] r else cutC c (cur ++ [x]) r := rfl
theorem cutC_none (c : UInt8) : ∀ (s cur : List UInt8), c ∉ s → cutC c cur s = [cur ++ s]
  | [], cur, _ => by rw [List.append_nil]; rfl
  | x :: r, cur, h => by
    have hx : (x == c) = false := beq_eq_false_iff_ne.2 (fun e => h (by rw [e]; exact List.mem_cons_self ..))
    rw [cutC_cons, hx, cond_false, cutC_none c r _ (fun hm => h (List.mem_cons_of_mem _ hm)), List.append_assoc]
    rfl
theorem cutC_at (c : UInt8) (r : List UInt8) : ∀ (x cur : List UInt8), c ∉ x → cutC c cur (x ++ c :: r) = (cur ++ x) :: cutC c [] r
  | [], cur, _ => by
    show cutC c cur (c :: r) = _
    rw [cutC_cons, beq_self_eq_true, cond_true, List.append_nil]
  | y :: x, cur, h => by
    have hx : (y == c) = false := beq_eq_false_iff_ne.2 (fun e => h (by rw [e]; exact List.mem_cons_self ..))
    show cutC c cur (y :: (x ++ c :: r)) = _
    rw [cutC_cons, hx, cond_false, cutC_at c r x _ (fun hm => h (List.mem_cons_of_mem _ hm)), List.append_assoc]
    rfl
theorem indexByte_at (c : UInt8) (r : List UInt8) : ∀ (x : List UInt8), c ∉ x → Lib.indexByte (x ++ c :: r) c = (x.length : Int)
  | [], _ => by simp [Lib.indexByte]
  | y :: x, h => by
    have hx : (y == c) = false := beq_eq_false_iff_ne.2 (fun e => h (by rw [e]; exact List.mem_cons_self ..))
    have ih := indexByte_at c r x (fun hm => h (List.mem_cons_of_mem _ hm))
    show Lib.indexByte (y :: (x ++ c :: r)) c = _
    unfold Lib.indexByte
    rw [ih, hx]
    have e : ((x.length : Int) == -1) = false := by simp
    simp [e]
theorem gen_loop (m : Nat) (c : UInt8) (N : Nat) (hN : N ≤ 1048576) : ∀ (d : Nat) (s : List UInt8) (done : List (List UInt8)) (n : Nat), s.count c = d → d < n → done.length + d = N → s.length ≤ 1048576 →
    bytes_genSplit_l11 (bytes_genSplit_k11_0 m) n s [c] 0 (N : Nat) (done ++ List.replicate (d + 1) []) (done.length : Nat) = bytes_genSplit_ret (done ++ cutC c [] s)
  | d, s, done, 0, _, hn, _, _ => by omega
  | 0, s, done, n + 1, hc, hn, hd, hs => by
    show bytes_genSplit_l11_b (bytes_genSplit_k11_0 m) (bytes_genSplit_l11 (bytes_genSplit_k11_0 m) n) n _ _ _ _ _ _ = _
    unfold bytes_genSplit_l11_b
    have hmem : c ∉ s := List.count_eq_zero.1 hc
    rw [dF (by omega), cond_false]
    unfold bytes_genSplit_k11_0
    have hset : List.set (done ++ List.replicate (0 + 1) ([] : List UInt8)) done.length s = done ++ [s] := by
      rw [List.set_append_right _ _ (Nat.le_refl _), Nat.sub_self]
      rfl
    have hlen : (done ++ List.replicate (0 + 1) ([] : List UInt8)).length = done.length + 1 := by simp
    rw [tn, hset, hlen, i64_succ (by omega)]
    have hl2 : (done ++ [s]).length = done.length + 1 := by simp
    rw [hl2]
    simp (disch := omega) only [dT, cond_true, Bool.and_true, tn]
    rw [List.drop_zero, List.take_of_length_le (by omega), cutC_none c s [] hmem]
    rfl
  | d + 1, s, done, n + 1, hc, hn, hd, hs => by
    show bytes_genSplit_l11_b (bytes_genSplit_k11_0 m) (bytes_genSplit_l11 (bytes_genSplit_k11_0 m) n) n _ _ _ _ _ _ = _
    unfold bytes_genSplit_l11_b
    have hmem : c ∈ s := List.count_pos_iff.1 (by omega)
    obtain ⟨x, r, rfl, hx⟩ := List.eq_append_cons_of_mem hmem
    have hi : bytes_Index (x ++ c :: r) [c] = (x.length : Int) := by
      unfold bytes_Index
      rw [Lib.index_one, indexByte_at c r x hx]
    have hlen : (x ++ c :: r).length = x.length + (r.length + 1) := by simp
    have hok : bytes_Index_ok (x ++ c :: r) [c] = true := by
      unfold bytes_Index_ok
      rw [lenOk_of hs]
      rfl
    have hcr : r.count c = d := by
      rw [List.count_append, List.count_eq_zero.2 hx, List.count_cons_self] at hc
      omega
    have hdl : (done ++ List.replicate (d + 1 + 1) ([] : List UInt8)).length = done.length + (d + 2) := by simp
    have hset : List.set (done ++ List.replicate (d + 1 + 1) ([] : List UInt8)) done.length x = (done ++ [x]) ++ List.replicate (d + 1) [] := by
      rw [List.set_append_right _ _ (Nat.le_refl _), Nat.sub_self, List.append_assoc]
      rfl
    have h1 : (([c] : List UInt8).length : Nat) = 1 := rfl
    have hw : IntKind.wrap .i64 ((x.length : Int) + 0) = (x.length : Int) := by rw [wr (by omega)]; omega
    have hw2 : IntKind.wrap .i64 ((x.length : Int) + ((1 : Nat) : Int)) = ((x.length + 1 : Nat) : Int) := by rw [wr (by omega)]; omega
    have ih := gen_loop m c N hN d r (done ++ [x]) n hcr (by omega) (by simp; omega) (by omega)
    rw [hi, hok, h1, hw, hw2, hdl, hlen]
    simp (disch := omega) only [dT, dF, cond_true, cond_false, Bool.and_true, tn, i64_succ]
    have e1 : (x ++ c :: r).take (x.length + (r.length + 1)) = x ++ c :: r := List.take_of_length_le (by omega)
    have e2 : (x ++ c :: r).take x.length = x := List.take_left
    have e3 : (x ++ c :: r).drop (x.length + 1) = r := by
      rw [← List.drop_drop, List.drop_left]
      rfl
    rw [e1, e2, e3, List.drop_zero, hset, cutC_at c r x [] hx]
    rw [show (done ++ [x]).length = done.length + 1 by simp] at ih
    rw [ih, List.append_assoc]
    rfl
theorem bytes_genSplit_math : ∀ (s0 : List UInt8) (sep1 : List UInt8) (sepSave2 : Int) (n3 : Int), (bytes_genSplit_ok s0 sep1 sepSave2 n3 = true) → ∃ n, bytes_genSplit_sh n s0 sep1 sepSave2 n3 = bytes_genSplit_ret (bytes_genSplit s0 sep1 sepSave2 n3) := fun s sep save k h => ⟨s.length + 1, by
  unfold bytes_genSplit_ok at h
  simp only [Bool.and_eq_true, decide_eq_true_eq, beq_iff_eq] at h
  obtain ⟨⟨h1, h2⟩, rfl, rfl⟩ := h
  obtain ⟨c, rfl⟩ := len_one h2
  have hl := lenOk_le h1
  have hc : s.count c ≤ s.length := List.count_le_length
  unfold bytes_genSplit_sh
  have hok : bytes_Count_ok s [c] = true := by unfold bytes_Count_ok; rw [h1]; rfl
  have hcnt : bytes_Count s [c] = ((s.count c : Nat) : Int) := rfl
  have hw1 : IntKind.wrap .i64 (((s.length : Nat) : Int) + 1) = ((s.length + 1 : Nat) : Int) := by rw [wr (by omega)]; omega
  have hw2 : IntKind.wrap .i64 (((s.count c : Nat) : Int) + 1) = ((s.count c + 1 : Nat) : Int) := by rw [wr (by omega)]; omega
  have hw3 : IntKind.wrap .i64 (((s.count c + 1 : Nat) : Int) - 1) = ((s.count c : Nat) : Int) := by rw [wr (by omega)]; omega
  have hroom : ((s.count c + 1 : Nat) : Int) ≤ (room : Int) := by unfold room; omega
  rw [show (((-1 : Int)) == 0) = false from rfl, show ((((([c] : List UInt8)).length : Nat) : Int) == 0) = false from rfl, show decide ((-1 : Int) < 0) = true from rfl, hok, hcnt, hw1, hw2]
  simp only [cond_false, cond_true, Bool.and_true]
  rw [dF (show ¬ ((s.length + 1 : Nat) : Int) < ((s.count c + 1 : Nat) : Int) by omega), cond_false, hw3, dT hroom, tn]
  simp (disch := omega) only [dT, cond_true, Bool.and_true]
  exact gen_loop (s.length + 1) c (s.count c) (by omega) (s.count c) s [] (s.length + 1) rfl (by omega) (by simp) hl⟩
theorem bytes_Split_math : ∀ (s0 : List UInt8) (sep1 : List UInt8), (bytes_Split_ok s0 sep1 = true) → ∃ n, bytes_Split_sh n s0 sep1 = bytes_Split_ret (bytes_Split s0 sep1) := fun s sep h => ⟨0, by
  unfold bytes_Split_sh
  have : bytes_genSplit_ok s sep 0 (-1) = true := by
    unfold bytes_genSplit_ok
    rw [show (lenOk s && decide (sep.length = 1)) = true from h]
    rfl
  rw [this]
  rfl⟩
theorem fold_one (s : List UInt8) (c : UInt8) : (octet_Fold s == [c]) = (match s with | [x] => octet_Lower x == c | _ => false) := by
  unfold octet_Fold
  match s with
  | [] => rfl
  | [x] => simp
  | x :: y :: r => simp
theorem ewform_code_math : ∀ (s0 : List UInt8), (ewform_code_ok s0 = true) → ∃ n, ewform_code_sh n s0 = ewform_code_ret (ewform_code s0) := fun s h => ⟨0, by
  unfold ewform_code_sh
  rw [show octet_Fold_ok s = true from h, fold_one, fold_one]
  match s with
  | [] => rfl
  | [x] =>
    show (bif octet_Lower x == 98 then _ else bif octet_Lower x == 113 then _ else _) = ewform_code_ret (bif octet_Lower x == 98 then 1 else bif octet_Lower x == 113 then 2 else 0)
    cases (octet_Lower x == 98) <;> cases (octet_Lower x == 113) <;> rfl
  | x :: y :: r => rfl⟩
theorem ewform_full_math : ∀ (s0 : List UInt8) (kinds1 : Int), (ewform_full_ok s0 kinds1 = true) → ∃ n, ewform_full_sh n s0 kinds1 = ewform_full_ret (ewform_full s0 kinds1) := fun s k h => ⟨0, by
  unfold ewform_full_sh
  rw [show octet_All_ok s k = true from h]
  cases s with
  | nil => rfl
  | cons x r =>
    rw [dT (by simp only [List.length_cons]; omega)]
    rfl⟩
theorem ref32_gap_math : ∀ (c0 : UInt8), ∃ n, ref32_gap_sh n c0 = ref32_gap_ret (ref32_gap c0) := fun c => ⟨0, by
  unfold ref32_gap_sh ref32_gap gapB
  cases (c == 32) <;> cases (c == 9) <;> cases (c == 13) <;> rfl⟩
theorem ref29_code_math : ∀ (c0 : UInt8), ∃ n, ref29_code_sh n c0 = ref29_code_ret (ref29_code c0) := fun c => ⟨0, by
  unfold ref29_code_sh ref29_code codeC ref01_Lower
  cases (octet_Lower c == 98) <;> cases (octet_Lower c == 113) <;> rfl⟩
end Go.Av
