/-
  The laws of the layer 'ewtok'.
-/
import Derived.Test.YtnfehbljinflbaaDoorEtP9
namespace Go.Av
theorem bneK {a b : Int} : (a != b) = !(a == b) := rfl
theorem piecesF_mem : ∀ (f : Nat) (s : List UInt8) (p : PieceT), p ∈ piecesF f s → p.2.1 ≠ [] ∧ p.1 = kindB p.2.1 ∧ p.2.1.length ≤ s.length
  | 0, s, p, h => by cases h
  | f + 1, s, p, h => by
    by_cases hs : s = []
    · subst hs
      cases h
    · rw [piecesF_cons f hs] at h
      have h1 := alike_pos hs
      have h2 := alike_le s
      rcases List.mem_cons.1 h with rfl | h
      · refine ⟨fun e => ?_, rfl, by simp only [List.length_take]; omega⟩
        have := congrArg List.length e
        simp only [List.length_take, List.length_nil] at this
        omega
      · obtain ⟨k1, k2, k3⟩ := piecesF_mem f _ p h
        rw [List.length_drop] at k3
        exact ⟨k1, k2, by omega⟩
theorem joinP_pieces : ∀ (f : Nat) (s : List UInt8), s.length ≤ f → joinP (piecesF f s) = s
  | 0, s, h => by
    have : s = [] := List.eq_nil_of_length_eq_zero (by omega)
    subst this
    rfl
  | f + 1, s, h => by
    by_cases hs : s = []
    · subst hs
      rfl
    · have h1 := alike_pos hs
      rw [piecesF_cons f hs, joinP_cons, joinP_pieces f (s.drop (alike s)) (by rw [List.length_drop]; omega)]
      exact List.take_append_drop _ _
theorem all_tw (g : Bool) : ∀ r : List UInt8, ∀ x ∈ r.takeWhile (fun x => gapB x == g), gapB x = g
  | [], x, h => by cases h
  | c :: r, x, h => by
    rw [List.takeWhile_cons] at h
    cases hc : (gapB c == g) with
    | true =>
      rw [hc, if_pos rfl] at h
      rcases List.mem_cons.1 h with rfl | h
      · exact beq_iff_eq.1 hc
      · exact all_tw g r x h
    | false =>
      rw [hc, if_neg (by simp)] at h
      cases h
theorem take_alike (c : UInt8) (r : List UInt8) : (c :: r).take (alike (c :: r)) = c :: r.takeWhile (fun x => gapB x == gapB c) := by
  show (c :: r).take ((r.takeWhile fun x => gapB x == gapB c).length + 1) = _
  rw [List.take_succ_cons]
  congr 1
  have := List.takeWhile_append_dropWhile (p := fun x => gapB x == gapB c) (l := r)
  have h2 : r.take (r.takeWhile fun x => gapB x == gapB c).length = ((r.takeWhile fun x => gapB x == gapB c) ++ (r.dropWhile fun x => gapB x == gapB c)).take (r.takeWhile fun x => gapB x == gapB c).length := by rw [this]
  rw [h2, List.take_left]
theorem drop_alike (c : UInt8) (r : List UInt8) : (c :: r).drop (alike (c :: r)) = r.dropWhile (fun x => gapB x == gapB c) := by
  show (c :: r).drop ((r.takeWhile fun x => gapB x == gapB c).length + 1) = _
  rw [List.drop_succ_cons]
  have := List.takeWhile_append_dropWhile (p := fun x => gapB x == gapB c) (l := r)
  have h2 : r.drop (r.takeWhile fun x => gapB x == gapB c).length = ((r.takeWhile fun x => gapB x == gapB c) ++ (r.dropWhile fun x => gapB x == gapB c)).drop (r.takeWhile fun x => gapB x == gapB c).length := by rw [this]
  rw [h2, List.drop_left]
theorem head_kind (c : UInt8) (r : List UInt8) : (kindB ((c :: r).take (alike (c :: r))) == 1) = gapB c := by
  rw [take_alike]
  unfold kindB
  have hall : (c :: r.takeWhile fun x => gapB x == gapB c).all gapB = gapB c := by
    rw [List.all_cons]
    cases hc : gapB c with
    | false => rfl
    | true =>
      rw [Bool.true_and, List.all_eq_true]
      exact all_tw true r
  rw [hall]
  cases gapB c with
  | true => rfl
  | false =>
    show ((bif ewform_Is _ then (3 : Int) else 2) == 1) = false
    cases ewform_Is _ <;> rfl
theorem dw_head (g : Bool) : ∀ (r : List UInt8) (c' : UInt8) (r' : List UInt8), r.dropWhile (fun x => gapB x == g) = c' :: r' → gapB c' = !g
  | [], c', r', h => by cases h
  | c :: r, c', r', h => by
    rw [List.dropWhile_cons] at h
    cases hc : (gapB c == g) with
    | true =>
      rw [hc, if_pos rfl] at h
      exact dw_head g r c' r' h
    | false =>
      rw [hc, if_neg (by simp)] at h
      injection h with e1 e2
      subst e1
      cases hg : gapB c <;> cases g <;> rw [hg] at hc <;> first | rfl | cases hc
theorem alt : ∀ (f : Nat) (s : List UInt8) (i : Nat), s.length ≤ f → i + 1 < (piecesF f s).length → (((List.getD (piecesF f s) i d0).1 == 1) == ((List.getD (piecesF f s) (i + 1) d0).1 == 1)) = false
  | 0, s, i, _, h => by cases h
  | f + 1, [], i, _, h => by cases h
  | f + 1, c :: r, 0, hf, h => by
    rw [piecesF_cons f (by simp : (c :: r) ≠ [])] at h ⊢
    rw [drop_alike] at h ⊢
    show ((kindB ((c :: r).take (alike (c :: r))) == 1) == ((List.getD (piecesF f (r.dropWhile fun x => gapB x == gapB c)) 0 d0).1 == 1)) = false
    rw [head_kind]
    cases hd : r.dropWhile (fun x => gapB x == gapB c) with
    | nil =>
      rw [hd, piecesF_nil] at h
      simp at h
    | cons c' r' =>
      have hg := dw_head (gapB c) r c' r' hd
      match f, hf, h with
      | 0, hf, _ =>
        have hle : (c' :: r').length ≤ r.length := by rw [← hd]; exact dropWhile_le _ _
        simp only [List.length_cons] at hle hf
        omega
      | f + 1, _, _ =>
        rw [piecesF_cons f (by simp : (c' :: r') ≠ [])]
        show (gapB c == (kindB ((c' :: r').take (alike (c' :: r'))) == 1)) = false
        rw [head_kind, hg]
        cases gapB c <;> rfl
  | f + 1, c :: r, i + 1, hf, h => by
    have h1 := alike_pos (by simp : (c :: r) ≠ [])
    rw [piecesF_cons f (by simp : (c :: r) ≠ [])] at h ⊢
    simp only [List.length_cons] at h hf
    exact alt f ((c :: r).drop (alike (c :: r))) i (by rw [List.length_drop, List.length_cons]; omega) (by omega)
theorem getD_mem {α : Type} {l : List α} {i : Nat} (h : i < l.length) (d : α) : List.getD l i d ∈ l := by
  rw [List.getD_eq_getElem?_getD, List.getElem?_eq_getElem h]; exact List.getElem_mem _
theorem showF_mem (l : List PieceT) : ∀ (d i : Nat) (x : PieceT), i + d = l.length → x ∈ showF l d i → x ∈ l
  | 0, i, x, _, h => by cases h
  | d + 1, i, x, hi, h => by
    have e : showF l (d + 1) i = bif hiddenB l i then showF l d (i + 1) else l.getD i d0 :: showF l d (i + 1) := rfl
    rw [e] at h
    cases hb : hiddenB l i with
    | true =>
      rw [hb, cond_true] at h
      exact showF_mem l d (i + 1) x (by omega) h
    | false =>
      rw [hb, cond_false] at h
      rcases List.mem_cons.1 h with rfl | h
      · exact getD_mem (by omega) _
      · exact showF_mem l d (i + 1) x (by omega) h
theorem shown_count (l : List PieceT) : ∀ (d i : Nat), i + d = l.length → (showF l d i).countP (fun p => p.1 != 1) = (l.drop i).countP (fun p => p.1 != 1)
  | 0, i, h => by rw [List.drop_eq_nil_of_le (by omega)]; rfl
  | d + 1, i, h => by
    have ih := shown_count l d (i + 1) (by omega)
    have e : showF l (d + 1) i = bif hiddenB l i then showF l d (i + 1) else l.getD i d0 :: showF l d (i + 1) := rfl
    rw [e, getD_drop (d := d0) (show i < l.length by omega), List.countP_cons]
    cases hb : hiddenB l i with
    | true =>
      have hk : ((List.getD l i d0).1 == 1) = true := by
        have hb' : ((List.getD l i d0).1 == 1 && (decide (0 < i) && (decide (i + 1 < l.length) && ((List.getD l (i - 1) d0).1 == 3 && (List.getD l (i + 1) d0).1 == 3)))) = true := hb
        rw [Bool.and_eq_true] at hb'
        exact hb'.1
      rw [cond_true, ih, show ((List.getD l i d0).1 != 1) = false by rw [bneK, hk]; rfl]
      simp
    | false =>
      rw [cond_false, List.countP_cons, ih]
theorem psame_self (a : List PieceT) : law32_same a a = true := by unfold law32_same; exact decide_eq_true rfl
theorem plike_self (a : List UInt8) : ref01_Like a a = true := by unfold ref01_Like; exact decide_eq_true rfl
theorem psame_ok {l : List PieceT} (h1 : l.length ≤ 1048576) (h2 : ∀ p ∈ l, p.2.1.length ≤ 1048576) : law32_same_ok l l = true := by
  unfold law32_same_ok
  rw [lenOk_of h1, show l.all pOk = true from List.all_eq_true.2 (fun p hp => by unfold pOk; exact lenOk_of (h2 p hp))]
  rfl
theorem pw_loop (k0 : List UInt8 → Int → Option AV) (s : List UInt8) (L : List PieceT) (hl : L.length ≤ 1048576) : ∀ (d i n m : Nat), i + d = L.length → d < n → m + d ≤ 1048576 →
    law32_EwtokPieces_l5 k0 n s (m : Nat) L (L.length : Nat) (i : Nat) = k0 s ((m + (L.drop i).countP (fun p => p.1 == 3) : Nat) : Int)
  | d, i, 0, m, hi, hn, hm => by omega
  | 0, i, n + 1, m, hi, hn, hm => by
    show law32_EwtokPieces_l5_b k0 (law32_EwtokPieces_l5 k0 n) n _ _ _ _ _ = _
    unfold law32_EwtokPieces_l5_b
    rw [dF (by omega), cond_false, List.drop_eq_nil_of_le (by omega)]
    rfl
  | d + 1, i, n + 1, m, hi, hn, hm => by
    show law32_EwtokPieces_l5_b k0 (law32_EwtokPieces_l5 k0 n) n _ _ _ _ _ = _
    unfold law32_EwtokPieces_l5_b
    have hlt : i < L.length := by omega
    have h1 := pw_loop k0 s L hl d (i + 1) n m (by omega) (by omega) (by omega)
    have h2 := pw_loop k0 s L hl d (i + 1) n (m + 1) (by omega) (by omega) (by omega)
    rw [getD_drop (d := d0) hlt, List.countP_cons]
    simp (disch := omega) only [dT, cond_true, Bool.and_true, tn, i64_succ]
    cases ((List.getD L i d0).1 == 3) with
    | true => rw [cond_true, h2]; congr 2; simp; omega
    | false => rw [cond_false, h1]; congr 2
theorem law32_EwtokPieces_math : ∀ (s0 : List UInt8), ∃ n, law32_EwtokPieces_sh n s0 = law32_EwtokPieces_ret (law32_EwtokPieces s0) := fun s => ⟨s.length + 1, by
  unfold law32_EwtokPieces_sh
  by_cases h : (500 : Int) < ((s.length : Nat) : Int)
  · rw [dT h]; rfl
  · have hl : s.length ≤ 500 := by omega
    have hp := pieces_len s
    have hls : lenOk s = true := lenOk_of (by omega)
    rw [dF h, show ref32_Pieces_ok s = true from hls, show ref32_Pieces s = pieces s from rfl]
    refine (pw_loop (law32_EwtokPieces_k5_0 (s.length + 1)) s (pieces s) (by omega) (pieces s).length 0 (s.length + 1) 0 (by omega) (by omega) (by omega)).trans ?_
    rw [List.drop_zero, Nat.zero_add]
    have hm : ∀ p ∈ pieces s, p.2.1.length ≤ 1048576 := fun p hp => by
      have := (piecesF_mem _ _ p hp).2.2
      omega
    have hsl := showF_len (pieces s) (pieces s).length 0
    have o1 := psame_ok (by omega) hm
    have o2 : law32_same_ok (shownL (pieces s)) (shownL (pieces s)) = true := psame_ok (by unfold shownL; omega) (fun p hp => hm p (showF_mem _ _ _ p (by omega) hp))
    unfold law32_EwtokPieces_k5_0
    rw [show ewtok_Pieces_ok s = true from hls, show ref32_Pieces_ok s = true from hls, show ewtok_Pieces s = pieces s from rfl, show ref32_Pieces s = pieces s from rfl, o1, psame_self,
      show ewtok_Shown_ok s = true from hls, show ref32_Shown_ok s = true from hls, show ewtok_Shown s = shownL (pieces s) from rfl, show ref32_Shown s = shownL (pieces s) from rfl, o2, psame_self,
      show ewtok_Kind_ok s = true from hls, show ref32_Kind_ok s = true from hls, show ewtok_Kind s = kindB s from rfl, show ref32_Kind s = kindB s from rfl, beqI (rfl : kindB s = kindB s), show ewtok_Words_ok s = true from hls, beqI (show ewtok_Words s = (((pieces s).countP (fun p => p.1 == 3) : Nat) : Int) from rfl)]
    rfl⟩
theorem eta_piece (f : PieceT) : ((f.1, (f.2.1, ())) : PieceT) = f := rfl
theorem copy_loop (ret : Bool → Option AV) (k0 : List PieceT → List PieceT → List UInt8 → Option AV) (l L : List PieceT) (hl : L.length ≤ 40) : ∀ (d i n : Nat) (x : List PieceT) (all : List UInt8), i + d = L.length → d < n → x.length + d ≤ 40 → all.length + 200 * d ≤ 8000 →
    law32_EwtokHidden_l6 ret k0 n l x all L (L.length : Nat) (i : Nat) = ret true ∨ ((∀ f ∈ L.drop i, f.2.1.length ≤ 200) ∧ law32_EwtokHidden_l6 ret k0 n l x all L (L.length : Nat) (i : Nat) = k0 l (x ++ L.drop i) (all ++ joinP (L.drop i)))
  | d, i, 0, x, all, hi, hn, hx, ha => by omega
  | 0, i, n + 1, x, all, hi, hn, hx, ha => by
    refine .inr ⟨fun f hf => (by rw [List.drop_eq_nil_of_le (by omega)] at hf; cases hf), ?_⟩
    show law32_EwtokHidden_l6_b ret k0 (law32_EwtokHidden_l6 ret k0 n) n _ _ _ _ _ _ = _
    unfold law32_EwtokHidden_l6_b
    rw [dF (by omega), cond_false, List.drop_eq_nil_of_le (by omega), List.append_nil]
    show k0 l x all = k0 l x (all ++ [])
    rw [List.append_nil]
  | d + 1, i, n + 1, x, all, hi, hn, hx, ha => by
    have hlt : i < L.length := by omega
    have e0 : law32_EwtokHidden_l6 ret k0 (n + 1) l x all L (L.length : Nat) (i : Nat) = law32_EwtokHidden_l6_b ret k0 (law32_EwtokHidden_l6 ret k0 n) n l x all L (L.length : Nat) (i : Nat) := rfl
    rw [e0]
    unfold law32_EwtokHidden_l6_b
    rw [getD_drop (d := d0) hlt, joinP_cons]
    by_cases hb : 200 < (List.getD L i d0).2.1.length
    · refine .inl ?_
      have hbT : decide ((200 : Int) < (((List.getD L i d0).2.1.length : Nat) : Int)) = true := dT (by omega)
      simp (disch := omega) only [dT, cond_true, Bool.and_true, tn, hbT]
      rfl
    · have hbF : decide ((200 : Int) < (((List.getD L i d0).2.1.length : Nat) : Int)) = false := dF (by omega)
      have ih := copy_loop ret k0 l L hl d (i + 1) n (x ++ [List.getD L i d0]) (all ++ (List.getD L i d0).2.1) (by omega) (by omega) (by simp; omega) (by rw [List.length_append]; omega)
      have hr : decide (x.length + ([List.getD L i d0] : List PieceT).length ≤ room) = true := dT (by unfold room; simp; omega)
      have hr2 : decide (all.length + (List.getD L i d0).2.1.length ≤ room) = true := dT (by unfold room; omega)
      simp (disch := omega) only [dT, dF, cond_true, cond_false, Bool.and_true, tn, i64_succ, hbF, eta_piece, hr, hr2]
      rcases ih with h1 | ⟨h1, h2⟩
      · exact .inl h1
      · refine .inr ⟨fun f hf => ?_, ?_⟩
        · rcases List.mem_cons.1 hf with rfl | hf
          · omega
          · exact h1 f hf
        · rw [h2, List.append_assoc, List.append_assoc]
          rfl
theorem hid_loop (ret : Bool → Option AV) (k2 : List PieceT → List UInt8 → Option AV) (l x : List PieceT) (all : List UInt8) (hl : l.length ≤ 40) : ∀ (d i n : Nat), i + d = l.length → d < n →
    law32_EwtokHidden_l17 ret k2 n l x all (hidF l l.length 0) (l.length : Nat) (i : Nat) = k2 x all
  | d, i, 0, hi, hn => by omega
  | 0, i, n + 1, hi, hn => by
    show law32_EwtokHidden_l17_b ret k2 (law32_EwtokHidden_l17 ret k2 n) n _ _ _ _ _ _ = _
    unfold law32_EwtokHidden_l17_b
    rw [dF (by omega), cond_false]
  | d + 1, i, n + 1, hi, hn => by
    show law32_EwtokHidden_l17_b ret k2 (law32_EwtokHidden_l17 ret k2 n) n _ _ _ _ _ _ = _
    unfold law32_EwtokHidden_l17_b
    have ih := hid_loop ret k2 l x all hl d (i + 1) n (by omega) (by omega)
    have hok : ref32_Hidden_ok l (i : Int) = true := by
      unfold ref32_Hidden_ok
      rw [lenOk_of (by omega), dT (by omega), dT (by omega)]
      rfl
    rw [hidF_len, hok, tn, hidF_getD l l.length 0 i (by omega), Nat.zero_add, show ref32_Hidden l (i : Int) = hiddenB l i by unfold ref32_Hidden; rw [tn], bne_self_eq_false, i64_succ (by omega)]
    simp (disch := omega) only [dT, cond_true, Bool.and_true, cond_false]
    exact ih
theorem joinP_le : ∀ l : List PieceT, (∀ f ∈ l, f.2.1.length ≤ 200) → (joinP l).length ≤ 200 * l.length
  | [], _ => Nat.le_refl _
  | f :: l, h => by
    have ih := joinP_le l (fun x hx => h x (List.mem_cons_of_mem _ hx))
    have := h f (List.mem_cons_self ..)
    rw [joinP_cons, List.length_append, List.length_cons]
    omega
theorem law32_EwtokHidden_math : ∀ (l0 : List PieceT), ∃ n, law32_EwtokHidden_sh n l0 = law32_EwtokHidden_ret (law32_EwtokHidden l0) := fun l => ⟨l.length + 1, by
  unfold law32_EwtokHidden_sh
  by_cases h : (40 : Int) < ((l.length : Nat) : Int)
  · rw [dT h]; rfl
  · have hl : l.length ≤ 40 := by omega
    rw [dF h, cond_false]
    rcases copy_loop law32_EwtokHidden_ret (law32_EwtokHidden_k6_0 (l.length + 1)) l l hl l.length 0 (l.length + 1) [] [] (by omega) (by omega) (by simpa using hl) (by simp; omega) with h1 | ⟨h1, h2⟩
    · exact h1
    · rw [List.drop_zero] at h1
      refine h2.trans ?_
      rw [List.drop_zero, List.nil_append, List.nil_append]
      unfold law32_EwtokHidden_k6_0
      rw [show ewtok_Hidden_ok l = true from lenOk_of (by omega), show ewtok_Hidden l = hidF l l.length 0 from rfl, hidF_len, bneF rfl]
      refine (hid_loop law32_EwtokHidden_ret (law32_EwtokHidden_k17_2 (l.length + 1)) l l (joinP l) hl l.length 0 (l.length + 1) (by omega) (by omega)).trans ?_
      unfold law32_EwtokHidden_k17_2
      have hj := joinP_le l h1
      have o1 : ewtok_Join_ok l = true := by
        unfold ewtok_Join_ok
        rw [lenOk_of (by omega), decide_eq_true (by omega)]
        rfl
      rw [o1, show ewtok_Join l = joinP l from rfl, show ref01_Like_ok (joinP l) (joinP l) = true from lenOk_of (by omega), plike_self]
      rfl⟩
theorem m_loop (k2 : List UInt8 → List PieceT → Int → Option AV) (s : List UInt8) (l L : List PieceT) (hl : L.length ≤ 1048576) : ∀ (d i n m : Nat), i + d = L.length → d < n → m + d ≤ 1048576 →
    law32_EwtokWhole_l12 k2 n s l (m : Nat) L (L.length : Nat) (i : Nat) = k2 s l ((m + (L.drop i).countP (fun p => p.1 != 1) : Nat) : Int)
  | d, i, 0, m, hi, hn, hm => by omega
  | 0, i, n + 1, m, hi, hn, hm => by
    show law32_EwtokWhole_l12_b k2 (law32_EwtokWhole_l12 k2 n) n _ _ _ _ _ _ = _
    unfold law32_EwtokWhole_l12_b
    rw [dF (by omega), cond_false, List.drop_eq_nil_of_le (by omega)]
    rfl
  | d + 1, i, n + 1, m, hi, hn, hm => by
    show law32_EwtokWhole_l12_b k2 (law32_EwtokWhole_l12 k2 n) n _ _ _ _ _ _ = _
    unfold law32_EwtokWhole_l12_b
    have hlt : i < L.length := by omega
    have h1 := m_loop k2 s l L hl d (i + 1) n m (by omega) (by omega) (by omega)
    have h2 := m_loop k2 s l L hl d (i + 1) n (m + 1) (by omega) (by omega) (by omega)
    rw [getD_drop (d := d0) hlt, List.countP_cons]
    simp (disch := omega) only [dT, cond_true, Bool.and_true, tn, i64_succ]
    cases ((List.getD L i d0).1 != 1) with
    | true => rw [cond_true, h2]; congr 2; simp; omega
    | false => rw [cond_false, h1]; congr 2
theorem r_loop (k4 : List UInt8 → List PieceT → Int → Int → Option AV) (s : List UInt8) (l L : List PieceT) (many : Int) (hl : L.length ≤ 1048576) : ∀ (d i n m : Nat), i + d = L.length → d < n → m + d ≤ 1048576 →
    law32_EwtokWhole_l19 k4 n s l many (m : Nat) L (L.length : Nat) (i : Nat) = k4 s l many ((m + (L.drop i).countP (fun p => p.1 != 1) : Nat) : Int)
  | d, i, 0, m, hi, hn, hm => by omega
  | 0, i, n + 1, m, hi, hn, hm => by
    show law32_EwtokWhole_l19_b k4 (law32_EwtokWhole_l19 k4 n) n _ _ _ _ _ _ _ = _
    unfold law32_EwtokWhole_l19_b
    rw [dF (by omega), cond_false, List.drop_eq_nil_of_le (by omega)]
    rfl
  | d + 1, i, n + 1, m, hi, hn, hm => by
    show law32_EwtokWhole_l19_b k4 (law32_EwtokWhole_l19 k4 n) n _ _ _ _ _ _ _ = _
    unfold law32_EwtokWhole_l19_b
    have hlt : i < L.length := by omega
    have h1 := r_loop k4 s l L many hl d (i + 1) n m (by omega) (by omega) (by omega)
    have h2 := r_loop k4 s l L many hl d (i + 1) n (m + 1) (by omega) (by omega) (by omega)
    rw [getD_drop (d := d0) hlt, List.countP_cons]
    simp (disch := omega) only [dT, cond_true, Bool.and_true, tn, i64_succ]
    cases ((List.getD L i d0).1 != 1) with
    | true => rw [cond_true, h2]; congr 2; simp; omega
    | false => rw [cond_false, h1]; congr 2
theorem w_loop (ret : Bool → Option AV) (k0 : List UInt8 → List PieceT → Option AV) (s : List UInt8) (l : List PieceT) (hl : l.length ≤ 1048576) (hm : ∀ p ∈ l, p.2.1 ≠ [] ∧ p.1 = kindB p.2.1 ∧ p.2.1.length ≤ 1048576)
    (ha : ∀ i, i + 1 < l.length → (((List.getD l i d0).1 == 1) == ((List.getD l (i + 1) d0).1 == 1)) = false) : ∀ (d i n : Nat), i + d = l.length → d < n →
    law32_EwtokWhole_l5 ret k0 n s l l (l.length : Nat) (i : Nat) = k0 s l
  | d, i, 0, hi, hn => by omega
  | 0, i, n + 1, hi, hn => by
    show law32_EwtokWhole_l5_b ret k0 (law32_EwtokWhole_l5 ret k0 n) n _ _ _ _ _ = _
    unfold law32_EwtokWhole_l5_b
    rw [dF (by omega), cond_false]
  | d + 1, i, n + 1, hi, hn => by
    show law32_EwtokWhole_l5_b ret k0 (law32_EwtokWhole_l5 ret k0 n) n _ _ _ _ _ = _
    unfold law32_EwtokWhole_l5_b
    have ih := w_loop ret k0 s l hl hm ha d (i + 1) n (by omega) (by omega)
    obtain ⟨h1, h2, h3⟩ := hm _ (getD_mem (show i < l.length by omega) d0)
    have hne : ((((List.getD l i d0).2.1.length : Nat) : Int) == 0) = false := bneI (fun e => h1 (List.eq_nil_of_length_eq_zero (by omega)))
    have hok : ewtok_Kind_ok (List.getD l i d0).2.1 = true := lenOk_of h3
    have hk : ((List.getD l i d0).1 != ewtok_Kind (List.getD l i d0).2.1) = false := bneF h2
    simp (disch := omega) only [dT, cond_true, Bool.and_true, tn, i64_succ, hne, hok, hk, cond_false, both_self]
    by_cases h0 : 0 < i
    · have hw : IntKind.wrap .i64 ((i : Int) - 1) = ((i - 1 : Nat) : Int) := by rw [wr (by omega)]; omega
      have hal := ha (i - 1) (by omega)
      rw [show i - 1 + 1 = i by omega] at hal
      rw [dT (show (0 : Int) < (i : Int) by omega), cond_true, hw]
      simp (disch := omega) only [dT, cond_true, Bool.and_true, tn, hal, cond_false]
      exact ih
    · rw [dF (show ¬ (0 : Int) < (i : Int) by omega), cond_false]
      exact ih
theorem law32_EwtokWhole_math : ∀ (s0 : List UInt8), ∃ n, law32_EwtokWhole_sh n s0 = law32_EwtokWhole_ret (law32_EwtokWhole s0) := fun s => ⟨s.length + 1, by
  unfold law32_EwtokWhole_sh
  by_cases h : (500 : Int) < ((s.length : Nat) : Int)
  · rw [dT h]; rfl
  · have hl : s.length ≤ 500 := by omega
    have hp := pieces_len s
    have hls : lenOk s = true := lenOk_of (by omega)
    have hsl := showF_len (pieces s) (pieces s).length 0
    rw [dF h, show ewtok_Pieces_ok s = true from hls, show ewtok_Pieces s = pieces s from rfl]
    refine (w_loop law32_EwtokWhole_ret (law32_EwtokWhole_k5_0 (s.length + 1)) s (pieces s) (by omega) (fun p hp => ?_) (fun i hi => alt s.length s i (Nat.le_refl _) hi) (pieces s).length 0 (s.length + 1) (by omega) (by omega)).trans ?_
    · obtain ⟨k1, k2, k3⟩ := piecesF_mem _ _ p hp
      exact ⟨k1, k2, by omega⟩
    unfold law32_EwtokWhole_k5_0
    rw [show ewtok_Shown_ok s = true from hls, show ewtok_Shown s = shownL (pieces s) from rfl]
    refine (m_loop (law32_EwtokWhole_k12_2 (s.length + 1)) s (pieces s) (shownL (pieces s)) (by unfold shownL; omega) (shownL (pieces s)).length 0 (s.length + 1) 0 (by omega) (by unfold shownL; omega) (by unfold shownL; omega)).trans ?_
    rw [List.drop_zero, Nat.zero_add]
    have hc : (shownL (pieces s)).countP (fun p => p.1 != 1) = (pieces s).countP (fun p => p.1 != 1) := shown_count (pieces s) (pieces s).length 0 (by omega)
    rw [hc]
    unfold law32_EwtokWhole_k12_2
    refine (r_loop (law32_EwtokWhole_k19_4 (s.length + 1)) s (pieces s) (pieces s) _ (by omega) (pieces s).length 0 (s.length + 1) 0 (by omega) (by omega) (by omega)).trans ?_
    rw [List.drop_zero, Nat.zero_add]
    unfold law32_EwtokWhole_k19_4
    have hj : joinP (pieces s) = s := joinP_pieces _ _ (Nat.le_refl _)
    have o1 : ewtok_Join_ok (pieces s) = true := by
      unfold ewtok_Join_ok
      rw [lenOk_of (by omega), hj, decide_eq_true (by omega)]
      rfl
    rw [o1, show ewtok_Join (pieces s) = s from hj, show ref01_Like_ok s s = true from hls, plike_self, beqI rfl]
    rfl⟩
end Go.Av
