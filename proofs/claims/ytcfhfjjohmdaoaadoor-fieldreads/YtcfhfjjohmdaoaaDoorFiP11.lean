/-
  The law FieldBack.
-/
import Derived.Test.YtcfhfjjohmdaoaaDoorFiP10
namespace Go.Av
theorem read_lay (l : List FieldT) (behind : List UInt8) (h : ∀ x ∈ l, field_check x = 0) :
    field_Read (joinCL (l.map layLine) ++ 13 :: 10 :: behind) = (l, 0) ∧ field_Body (joinCL (l.map layLine) ++ 13 :: 10 :: behind) = behind := by
  have hp : field_parts (joinCL (l.map layLine) ++ 13 :: 10 :: behind) = (l.map layLine, behind) := by
    unfold field_parts
    rw [parts_lay behind l [] _ h (by omega)]
    rfl
  obtain ⟨h1, h2⟩ := ok_lay l h
  refine ⟨?_, ?_⟩
  · unfold field_Read field_Raw
    rw [hp]
    show (okFields (l.map layLine), (badFields (l.map layLine) : Int)) = (l, 0)
    rw [h1, h2]
    rfl
  · unfold field_Body
    rw [hp]
theorem join_le : ∀ (l : List FieldT), (∀ f ∈ l, f.1.length ≤ 100 ∧ f.2.1.length ≤ 200) → (joinCL (l.map layLine)).length ≤ 304 * l.length
  | [], _ => Nat.le_refl _
  | f :: l, h => by
    have ih := join_le l (fun x hx => h x (List.mem_cons_of_mem _ hx))
    obtain ⟨h1, h2⟩ := h f (List.mem_cons_self ..)
    have e : joinCL ((f :: l).map layLine) = layLine f ++ [13, 10] ++ joinCL (l.map layLine) := rfl
    rw [e]
    have e2 : (layLine f).length = f.1.length + 2 + f.2.1.length := by unfold layLine; simp; omega
    simp only [List.length_append, List.length_cons, List.length_nil, e2]
    omega
theorem not_far {l : List FieldT} (h : law48_far l = false) : l.length ≤ 20 ∧ ∀ f ∈ l, f.1.length ≤ 100 ∧ f.2.1.length ≤ 200 := by
  unfold law48_far at h
  rw [Bool.or_eq_false_iff] at h
  obtain ⟨h1, h2⟩ := h
  have hl : l.length ≤ 20 := by simpa using h2
  rw [List.take_of_length_le hl] at h1
  refine ⟨hl, fun f hf => ?_⟩
  have := List.any_eq_false.1 h1 f hf
  simp only [Bool.or_eq_true, decide_eq_true_eq, not_or] at this
  omega
theorem fcopy_loop (l0 : List FieldT) (behind : List UInt8) (k0 : List FieldT → List UInt8 → List FieldT → Option AV) (L : List FieldT) (hl : L.length ≤ 1000) : ∀ (d i n : Nat) (out : List FieldT), i + d = L.length → d < n → out.length + d ≤ 1000 →
    law48_FieldBack_l5 k0 n l0 behind out L (L.length : Nat) (i : Nat) = k0 l0 behind (out ++ L.drop i)
  | d, i, 0, out, hi, hn, hb => by omega
  | 0, i, n + 1, out, hi, hn, hb => by
    show law48_FieldBack_l5_b k0 (law48_FieldBack_l5 k0 n) n _ _ _ _ _ _ = _
    unfold law48_FieldBack_l5_b
    rw [dF (by omega), cond_false, List.drop_eq_nil_of_le (by omega), List.append_nil]
  | d + 1, i, n + 1, out, hi, hn, hb => by
    show law48_FieldBack_l5_b k0 (law48_FieldBack_l5 k0 n) n _ _ _ _ _ _ = _
    unfold law48_FieldBack_l5_b
    have hlt : i < L.length := by omega
    rw [getD_drop (d := (([] : List UInt8), (([] : List UInt8), ()))) hlt]
    generalize hg : List.getD L i (([] : List UInt8), (([] : List UInt8), ())) = f
    have r3 : decide (out.length + ([f] : List FieldT).length ≤ room) = true := dT (by unfold room; simp; omega)
    have ih := fcopy_loop l0 behind k0 L hl d (i + 1) n (out ++ [f]) (by omega) (by omega) (by simp; omega)
    simp (disch := omega) only [dT, cond_true, Bool.and_true, tn, i64_succ, hg, r3]
    rw [ih, List.append_assoc]
    rfl
theorem law48_FieldBack_math : ∀ (l0 : List FieldT) (behind1 : List UInt8), ∃ n, law48_FieldBack_sh n l0 behind1 = law48_FieldBack_ret (law48_FieldBack l0 behind1) := fun l behind => ⟨l.length + 1, by
  unfold law48_FieldBack_sh
  rw [show law48_far_ok l = true from rfl]
  cases hfar : law48_far l with
  | true => rfl
  | false =>
    obtain ⟨hl, hm⟩ := not_far hfar
    by_cases hb : (300 : Int) < ((behind.length : Nat) : Int)
    · rw [dT hb]; rfl
    · rw [dF hb]
      have hb' : behind.length ≤ 300 := by omega
      have hj := join_le l hm
      refine (fcopy_loop l behind (law48_FieldBack_k5_0 (l.length + 1)) l (by omega) l.length 0 (l.length + 1) [] (by omega) (by omega) (by simp; omega)).trans ?_
      rw [List.nil_append, List.drop_zero]
      unfold law48_FieldBack_k5_0
      have hok : l.all fOk = true := List.all_eq_true.2 (fun f hf => by
        obtain ⟨h1, h2⟩ := hm f hf
        unfold fOk
        rw [lenOk_of (by omega), lenOk_of (by omega)]
        rfl)
      have o1 : field_Lay_ok l = true := by
        unfold field_Lay_ok
        rw [hok, decide_eq_true (by omega)]
        rfl
      rw [o1]
      by_cases h0 : firstBad l = 0
      · have hc := firstBad_zero l h0
        obtain ⟨e1, e2⟩ := read_lay l behind hc
        have hlay : field_Lay l = (joinCL (l.map layLine) ++ [13, 10], 0) := by
          unfold field_Lay
          rw [bneF h0, cond_false]
        rw [hlay]
        have ha : (([] : List UInt8) ++ (joinCL (l.map layLine) ++ [13, 10])) ++ behind = joinCL (l.map layLine) ++ 13 :: 10 :: behind := by simp
        have r1 : decide (([] : List UInt8).length + (joinCL (l.map layLine) ++ [13, 10]).length ≤ room) = true := dT (by unfold room; simp; omega)
        have r2 : decide ((([] : List UInt8) ++ (joinCL (l.map layLine) ++ [13, 10])).length + behind.length ≤ room) = true := dT (by unfold room; simp; omega)
        have o2 : field_Read_ok (joinCL (l.map layLine) ++ 13 :: 10 :: behind) = true := by unfold field_Read_ok; exact decide_eq_true (by simp; omega)
        have o3 : field_Body_ok (joinCL (l.map layLine) ++ 13 :: 10 :: behind) = true := lenOk_of (by simp; omega)
        have o4 : law48_same_ok l l = true := by
          unfold law48_same_ok
          rw [hok, lenOk_of (by omega)]
          rfl
        have o5 : ref01_Like_ok behind behind = true := lenOk_of (by omega)
        rw [r1, r2, ha, o2, e1, e2, o3, o5, like_self']
        simp only [o4, same_self]
        rfl
      · have hlay : field_Lay l = ([], firstBad l) := by
          unfold field_Lay
          rw [bneT h0, cond_true]
        rw [hlay]
        simp only [bneT h0]
        rfl⟩
end Go.Av
