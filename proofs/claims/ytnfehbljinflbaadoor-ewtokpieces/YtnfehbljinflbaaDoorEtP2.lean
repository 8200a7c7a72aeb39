/-
  The shallow reading of bytes.IndexAny computes the first place of any of some ASCII octets.
-/
import Derived.Test.YtnfehbljinflbaaDoorEtP1
import Derived.Lib.IndexAny
namespace Go.Av

theorem byte256 (c : UInt8) : c.toNat < 256 := c.toNat_lt

theorem enc_size (c : Nat) (h : 128 ≤ c) : 2 ≤ (Utf8.encode (c : Int)).size ∧ (c < 2048 → (Utf8.encode (c : Int)).size ≤ 2) ∧ (c < 65536 → (Utf8.encode (c : Int)).size ≤ 3) ∧ (Utf8.encode (c : Int)).size ≤ 4 := by
  by_cases hv : Utf8.valid (c : Int) = true
  · have hc : (c : Int).toNat = c := by omega
    unfold Utf8.encode
    simp only [hv, if_true, hc]
    rw [if_neg (by omega)]
    split
    · refine ⟨?_, ?_, ?_, ?_⟩ <;> simp [ByteArray.size]
    · split
      · refine ⟨?_, ?_, ?_, ?_⟩ <;> simp [ByteArray.size] <;> omega
      · refine ⟨?_, ?_, ?_, ?_⟩ <;> simp [ByteArray.size] <;> omega
  · have hn : 2048 ≤ c := by
      rcases Nat.lt_or_ge c 2048 with h2 | h2
      · exact absurd (by unfold Utf8.valid; simp; omega) hv
      · exact h2
    have hv' : Utf8.valid (c : Int) = false := by simpa using hv
    have he : Utf8.encode (c : Int) = ⟨#[239, 191, 189]⟩ := by
      unfold Utf8.encode
      simp only [hv', Bool.false_eq_true, if_false]
      decide
    rw [he]
    refine ⟨?_, ?_, ?_, ?_⟩ <;> simp [ByteArray.size] <;> omega

theorem enc_first (c : Nat) (h : 128 ≤ c) : ∃ e r, (Utf8.encode (c : Int)).data.toList = e :: r ∧ 128 ≤ e.toNat := by
  unfold Utf8.encode
  generalize hg : (if Utf8.valid (c : Int) = true then (c : Int).toNat else Utf8.runeError) = x
  have hx : 128 ≤ x ∧ x ≤ 1114111 := by
    split at hg
    · rename_i hv
      unfold Utf8.valid at hv
      simp only [Bool.or_eq_true, Bool.and_eq_true, decide_eq_true_eq] at hv
      omega
    · unfold Utf8.runeError at hg; omega
  simp only [if_neg (show ¬ x < 128 by omega)]
  split
  · exact ⟨_, _, rfl, by simp; omega⟩
  · split
    · exact ⟨_, _, rfl, by simp; omega⟩
    · exact ⟨_, _, rfl, by simp; omega⟩

/-- What is decoded at an octet beyond ASCII. -/
theorem dec_facts (p : List UInt8) (hp : 0 < p.length) (h0 : 128 ≤ (p.getD 0 0).toNat) : 128 ≤ (Lib.decodeL p).1 ∧ 1 ≤ (Lib.decodeL p).2 ∧ (Lib.decodeL p).2 ≤ p.length ∧ (∀ j, j < (Lib.decodeL p).2 → 128 ≤ (p.getD j 0).toNat) ∧
    ((Lib.decodeL p).1 ≠ 65533 → 2 ≤ (Utf8.encode ((Lib.decodeL p).1 : Int)).size ∧ (Utf8.encode ((Lib.decodeL p).1 : Int)).size ≤ (Lib.decodeL p).2) := by
  rw [Lib.decodeL_N]
  have b0 := byte256 (p.getD 0 0)
  have b1 := byte256 (p.getD 1 0)
  have b2 := byte256 (p.getD 2 0)
  have b3 := byte256 (p.getD 3 0)
  rcases Lib.decodeN_shape p.length (p.getD 0 0).toNat (p.getD 1 0).toNat (p.getD 2 0).toNat (p.getD 3 0).toNat with ⟨h, _⟩ | ⟨h1, h2, h3, h4, e⟩ | ⟨h1, h2, h3, h4, h5, _, e⟩ | ⟨h1, h2, h3, h4, h5, h6, h7, e⟩ | e
  · omega
  · rw [e]
    dsimp only
    have hs := enc_size _ h4
    refine ⟨h4, by omega, by omega, fun j hj => ?_, fun _ => ⟨hs.1, hs.2.1 (by omega)⟩⟩
    match j, hj with
    | 0, _ => exact h0
    | 1, _ => omega
    | n + 2, hj => omega
  · rw [e]
    dsimp only
    have hs := enc_size (((p.getD 0 0).toNat % 16) * 4096 + (p.getD 1 0).toNat % 64 * 64 + (p.getD 2 0).toNat % 64) (by omega)
    refine ⟨by omega, by omega, by omega, fun j hj => ?_, fun _ => ⟨hs.1, hs.2.2.1 (by omega)⟩⟩
    match j, hj with
    | 0, _ => exact h0
    | 1, _ => omega
    | 2, _ => omega
    | n + 3, hj => omega
  · rw [e]
    dsimp only
    have hs := enc_size (((p.getD 0 0).toNat % 8) * 262144 + (p.getD 1 0).toNat % 64 * 4096 + (p.getD 2 0).toNat % 64 * 64 + (p.getD 3 0).toNat % 64) (by omega)
    refine ⟨by omega, by omega, by omega, fun j hj => ?_, fun _ => ⟨hs.1, hs.2.2.2⟩⟩
    match j, hj with
    | 0, _ => exact h0
    | 1, _ => omega
    | 2, _ => omega
    | 3, _ => omega
    | n + 4, hj => omega
  · rw [e]
    dsimp only
    refine ⟨by omega, by omega, by omega, fun j hj => ?_, fun h => absurd rfl h⟩
    match j, hj with
    | 0, _ => exact h0
    | n + 1, hj => omega

theorem ascii_at {cs : List UInt8} (ha : ascii cs = true) {i : Nat} (hi : i < cs.length) : (cs.getD i 0).toNat < 128 := by
  unfold ascii at ha
  rw [List.all_eq_true] at ha
  have := ha (cs.getD i 0) (by simp [List.getD, hi])
  simp only [decide_eq_true_eq] at this
  exact this
theorem ascii_mem {cs : List UInt8} (ha : ascii cs = true) {x : UInt8} (hx : 128 ≤ x.toNat) : cs.contains x = false := by
  cases h : cs.contains x with
  | false => rfl
  | true =>
    unfold ascii at ha
    rw [List.all_eq_true] at ha
    have := ha x (by simpa using h)
    simp only [decide_eq_true_eq] at this
    have : x.toNat < 128 := this
    omega

theorem decL_ascii {cs : List UInt8} (ha : ascii cs = true) {i : Nat} (hi : i < cs.length) : decL cs i = (((cs.getD i 0).toNat : Int), 1) := by
  unfold decL
  rw [Lib.decode_N]
  rw [Lib.decodeN_ascii _ _ _ _ _ (by simpa using ascii_at ha hi)]

theorem index_beyond {cs : List UInt8} (ha : ascii cs = true) (c : Nat) (hc : 128 ≤ c) : Lib.index cs (Utf8.encode (c : Int)).data.toList = -1 := by
  obtain ⟨e, r, he, h1⟩ := enc_first c hc
  rw [he]
  refine Lib.index_none fun j _ => ?_
  unfold Lib.occAt
  cases hd : cs.drop j with
  | nil => rfl
  | cons x t =>
    have hj : j < cs.length := by
      rcases Nat.lt_or_ge j cs.length with h | h
      · exact h
      · rw [List.drop_eq_nil_of_le h] at hd; cases hd
    have hx : x = cs.getD j 0 := by
      rw [getD_drop (d := 0) hj] at hd
      exact (List.cons.inj hd).1.symm
    have := ascii_at ha hj
    rw [← hx] at this
    have hne : (e == x) = false := by
      rw [beq_eq_false_iff_ne]
      rintro rfl
      omega
    simp [List.isPrefixOf, hne]

theorem same_beyond {cs : List UInt8} (ha : ascii cs = true) (hn : cs ≠ []) (c : Nat) (hc : 128 ≤ c) : (cs == (Utf8.encode (c : Int)).data.toList) = false := by
  obtain ⟨e, r, he, h1⟩ := enc_first c hc
  rw [he, beq_eq_false_iff_ne]
  rintro rfl
  have := ascii_at ha (i := 0) (by simp)
  simp at this
  omega

theorem any_skip (cs : List UInt8) : ∀ (w : Nat) (p : List UInt8) (i : Int), w ≤ p.length → (∀ j, j < w → cs.contains (p.getD j 0) = false) → anyAt cs p i = anyAt cs (p.drop w) (i + w)
  | 0, p, i, _, _ => by simp
  | w + 1, [], i, h, _ => by simp at h
  | w + 1, x :: p, i, h, hc => by
    have h0 := hc 0 (by omega)
    simp only [List.getD_cons_zero] at h0
    have ih := any_skip cs w p (i + 1) (by simpa using h) (fun j hj => by have := hc (j + 1) (by omega); simpa using this)
    show (bif cs.contains x then i else anyAt cs p (i + 1)) = anyAt cs (p.drop w) (i + ((w + 1 : Nat) : Int))
    rw [h0, cond_false, ih]
    congr 1
    omega

variable (m0 : Int)

theorem any_l7 (ret : Int → Option AV) (k0 : Option AV) (cs : List UInt8) (ha : ascii cs = true) : ∀ (d i n : Nat), i + d = cs.length → d < n → bytes_IndexAny_l7 m0 ret k0 n cs i = k0
  | d, i, 0, hi, hn => by omega
  | 0, i, n + 1, hi, hn => by
    show bytes_IndexAny_l7_b m0 ret k0 (bytes_IndexAny_l7 m0 ret k0 n) n cs i = _
    unfold bytes_IndexAny_l7_b
    rw [decide_eq_false (by omega)]
    rfl
  | d + 1, i, n + 1, hi, hn => by
    show bytes_IndexAny_l7_b m0 ret k0 (bytes_IndexAny_l7 m0 ret k0 n) n cs i = _
    unfold bytes_IndexAny_l7_b
    have hlt : i < cs.length := by omega
    have hx := ascii_at ha hlt
    rw [decide_eq_true hlt, decL_ascii ha hlt, cond_true, cond_true, cond_true, show ((((cs.getD i 0).toNat : Nat) : Int) == 65533) = false by rw [beq_eq_false_iff_ne]; omega, cond_false]
    exact any_l7 ret k0 cs ha d (i + 1) n (by omega) (by omega)

theorem any_l48 (ret : Int → Option AV) (k6 : List UInt8 → List UInt8 → Int → Int → Option AV) (s cs : List UInt8) (w at1 r : Int) (hr : 128 ≤ r) (ha : ascii cs = true) : ∀ (d i n : Nat), i + d = cs.length → d < n → bytes_IndexAny_l48 m0 ret k6 n s cs w at1 r cs i = k6 s cs w at1
  | d, i, 0, hi, hn => by omega
  | 0, i, n + 1, hi, hn => by
    show bytes_IndexAny_l48_b m0 ret k6 (bytes_IndexAny_l48 m0 ret k6 n) n s cs w at1 r cs i = _
    unfold bytes_IndexAny_l48_b
    rw [decide_eq_false (by omega)]
    rfl
  | d + 1, i, n + 1, hi, hn => by
    show bytes_IndexAny_l48_b m0 ret k6 (bytes_IndexAny_l48 m0 ret k6 n) n s cs w at1 r cs i = _
    unfold bytes_IndexAny_l48_b
    have hlt : i < cs.length := by omega
    have hx := ascii_at ha hlt
    rw [decide_eq_true hlt, decL_ascii ha hlt, cond_true, cond_true, cond_true, show (r == (((cs.getD i 0).toNat : Nat) : Int)) = false by rw [beq_eq_false_iff_ne]; omega, cond_false]
    exact any_l48 ret k6 s cs w at1 r hr ha d (i + 1) n (by omega) (by omega)

theorem setOf_at (cs : List UInt8) (x : UInt8) : ∀ (a : List Bool), a.length = 256 → (setOf cs a).getD x.toNat false = (cs.contains x || a.getD x.toNat false) := by
  induction cs with
  | nil => intro a _; simp [setOf]
  | cons c cs ih =>
    intro a hl
    show (setOf cs (List.set a c.toNat true)).getD x.toNat false = _
    rw [ih _ (by simpa using hl)]
    have hx := byte256 x
    have hc := byte256 c
    by_cases e : c = x
    · subst e
      have : (List.set a c.toNat true).getD c.toNat false = true := by simp [List.getD, hl, hc]
      rw [this]
      simp
    · have hne : c.toNat ≠ x.toNat := fun h => e (UInt8.toNat_inj.1 h)
      have : (List.set a c.toNat true).getD x.toNat false = a.getD x.toNat false := by simp [List.getD, List.getElem?_set_ne hne]
      rw [this]
      have hb : ¬ x = c := fun h => e h.symm
      simp [hb]

theorem any_l24 (ret : Int → Option AV) (k2 : Option AV) (hk : k2 = ret (-1)) (s cs : List UInt8) (hl : s.length ≤ 1048576) : ∀ (d i n : Nat), i + d = s.length → d < n →
    bytes_IndexAny_l24 m0 ret k2 n (setOf cs (List.replicate 256 false)) s (s.length : Nat) (i : Nat) = ret (anyAt cs (s.drop i) i)
  | d, i, 0, hi, hn => by omega
  | 0, i, n + 1, hi, hn => by
    show bytes_IndexAny_l24_b m0 ret k2 (bytes_IndexAny_l24 m0 ret k2 n) n _ s _ _ = _
    unfold bytes_IndexAny_l24_b
    rw [decide_eq_false (by omega), cond_false, List.drop_eq_nil_of_le (by omega), hk]
    rfl
  | d + 1, i, n + 1, hi, hn => by
    show bytes_IndexAny_l24_b m0 ret k2 (bytes_IndexAny_l24 m0 ret k2 n) n _ s _ _ = _
    unfold bytes_IndexAny_l24_b __bytes_asciiSet__contains
    have hlt : i < s.length := by omega
    rw [dec_lt, decide_eq_true hlt, cond_true, dec_nonneg, Bool.true_and, cond_true, toNat_nat, setOf_at _ _ _ List.length_replicate, i64_succ (by omega), any_l24 ret k2 hk s cs hl d (i + 1) n (by omega) (by omega), getD_drop (d := 0) hlt]
    have : (List.replicate 256 false).getD (s.getD i 0).toNat false = false := by rw [List.getD_eq_getElem?_getD, List.getElem?_replicate]; split <;> rfl
    rw [this, Bool.or_false]
    show _ = ret (bif cs.contains (s.getD i 0) then (i : Int) else anyAt cs (s.drop (i + 1)) (i + 1))
    cases cs.contains (s.getD i 0) <;> rfl

set_option maxRecDepth 100000 in
theorem any_l32 (ret : Int → Option AV) (k4 : Option AV) (hk : k4 = ret (-1)) (s cs : List UInt8) (hl : s.length ≤ 1048576) (ha : ascii cs = true) (hc2 : 2 ≤ cs.length) (hcl : cs.length ≤ 1048576) (d i n : Nat) (hi : i + d = s.length) (hn : d + cs.length + 1 < n) :
    bytes_IndexAny_l32 m0 ret k4 n s cs (i : Nat) = ret (anyAt cs (s.drop i) i) := by
  obtain ⟨n, rfl⟩ : ∃ n', n = n' + 1 := ⟨n - 1, by omega⟩
  show bytes_IndexAny_l32_b m0 ret k4 (bytes_IndexAny_l32 m0 ret k4 n) n s cs (i : Nat) = _
  unfold bytes_IndexAny_l32_b
  match d, hi, hn with
  | 0, hi, hn =>
    rw [decide_eq_false (by omega), cond_false, List.drop_eq_nil_of_le (by omega), hk]
    rfl
  | d + 1, hi, hn =>
    have hlt : i < s.length := by omega
    have hb := byte256 (s.getD i 0)
    rw [dec_lt, decide_eq_true hlt, cond_true, dec_nonneg, Bool.true_and, cond_true, cond_true, toNat_nat, toNat_nat, List.take_length, IntWalk.i32_in _ (by omega)]
    by_cases h128 : (s.getD i 0).toNat < 128
    · rw [decide_eq_true (show (((s.getD i 0).toNat : Nat) : Int) < 128 by omega), cond_true, i64_succ (by omega), any_l32 ret k4 hk s cs hl ha hc2 hcl d (i + 1) n (by omega) (by omega), getD_drop (d := 0) hlt]
      show (bif decide ((0 : Int) ≤ Lib.indexByte cs (s.getD i 0)) then ret i else ret (anyAt cs (s.drop (i + 1)) ((i + 1 : Nat) : Int))) = ret (bif cs.contains (s.getD i 0) then (i : Int) else anyAt cs (s.drop (i + 1)) (i + 1))
      rw [← Lib.contains_iff_indexByte]
      cases cs.contains (s.getD i 0) <;> rfl
    · rw [decide_eq_false (show ¬ (((s.getD i 0).toNat : Nat) : Int) < 128 by omega), cond_false, decide_eq_true (show (i : Int) ≤ ((s.length : Nat) : Int) by omega), decide_eq_true (Int.le_refl _)]
      have hp : 0 < (s.drop i).length := by rw [List.length_drop]; omega
      have h0 : 128 ≤ ((s.drop i).getD 0 0).toNat := by
        rw [getD_drop (d := 0) hlt]
        simp only [List.getD_cons_zero]
        omega
      obtain ⟨f1, f2, f3, f4, f5⟩ := dec_facts (s.drop i) hp h0
      rw [show unicode_utf8_DecodeRune_ok (s.drop i) = true by unfold unicode_utf8_DecodeRune_ok; exact decide_eq_true hp]
      have hd1 : (unicode_utf8_DecodeRune (s.drop i)).1 = ((Lib.decodeL (s.drop i)).1 : Int) := rfl
      have hd2 : (unicode_utf8_DecodeRune (s.drop i)).2 = ((Lib.decodeL (s.drop i)).2 : Int) := rfl
      rw [hd1, hd2]
      obtain ⟨r, hr⟩ : ∃ r, (Lib.decodeL (s.drop i)).1 = r := ⟨_, rfl⟩
      obtain ⟨w, hw⟩ : ∃ w, (Lib.decodeL (s.drop i)).2 = w := ⟨_, rfl⟩
      rw [hr] at f1 f5
      rw [hw] at f2 f3 f4 f5
      rw [hr, hw]
      rw [List.length_drop] at f3
      have hnext : bytes_IndexAny_l32 m0 ret k4 n s cs (IntKind.wrap .i64 ((i : Int) + (w : Int))) = ret (anyAt cs (s.drop i) i) := by
        rw [IntWalk.i64_in _ (by omega), show (i : Int) + (w : Int) = ((i + w : Nat) : Int) by omega, any_l32 ret k4 hk s cs hl ha hc2 hcl (d + 1 - w) (i + w) n (by omega) (by omega),
          any_skip cs w (s.drop i) i (by rw [List.length_drop]; exact f3) (fun j hj => ascii_mem ha (f4 j hj)), List.drop_drop]
        congr 2
      have h48 : bytes_IndexAny_l48 m0 ret (bytes_IndexAny_k48_6 m0 ret k4 (bytes_IndexAny_l32 m0 ret k4 n) n) n s cs (w : Int) (i : Int) (r : Int) cs 0 = ret (anyAt cs (s.drop i) i) := by
        rw [any_l48 m0 ret _ s cs w i r (by omega) ha cs.length 0 n (by omega) (by omega)]
        exact hnext
      simp only [Bool.and_self, cond_true]
      by_cases hre : r = 65533
      · rw [show ((r : Int) != 65533) = false by simp only [bne_eq_false_iff_eq]; omega, cond_false, h48]
      · obtain ⟨e1, e2⟩ := f5 hre
        rw [show ((r : Int) != 65533) = true by simp only [bne_iff_ne, ne_eq]; omega, cond_true, same_beyond ha (by rintro rfl; simp at hc2) r f1, cond_false, hnext]
        cases ((cs.length : Int) == (w : Int)) with
        | true => rfl
        | false =>
          rw [cond_false]
          by_cases hm : (w : Int) ≤ m0
          · have hok : internal_bytealg_IndexString_ok m0 cs (Utf8.encode (r : Int)).data.toList = true := by
              unfold internal_bytealg_IndexString_ok
              rw [← Lib.size_eq]
              simp only [Bool.and_eq_true, decide_eq_true_eq]
              omega
            rw [decide_eq_true hm, hok]
            unfold internal_bytealg_IndexString
            rw [index_beyond ha r f1]
            rfl
          · rw [decide_eq_false hm, cond_false, h48]
  termination_by d
  decreasing_by all_goals omega

set_option maxRecDepth 100000 in
theorem bytes_IndexAny_math : ∀ (s0 : List UInt8) (chars1 : List UInt8), (bytes_IndexAny_ok s0 chars1 = true) → ∃ n, bytes_IndexAny_sh m0 n s0 chars1 = bytes_IndexAny_ret (bytes_IndexAny s0 chars1) := fun s cs h => ⟨s.length + cs.length + 2, by
  unfold bytes_IndexAny_ok at h
  simp only [Bool.and_eq_true, decide_eq_true_eq] at h
  obtain ⟨⟨hc2, ha, hcl⟩, hl⟩ := h
  have hcl' := lenOk_le hcl
  have hl' := lenOk_le hl
  unfold bytes_IndexAny_sh bytes_IndexAny
  rw [show (cs == []) = false by cases cs with | nil => simp at hc2 | cons c r => rfl, cond_false]
  have hcne : (((cs.length : Nat) : Int) == 1) = false := by rw [beq_eq_false_iff_ne]; omega
  by_cases h1 : s.length = 1
  · rw [show (((s.length : Nat) : Int) == 1) = true by rw [beq_iff_eq]; omega, cond_true]
    obtain ⟨x, rfl⟩ := List.length_eq_one_iff.1 h1
    have hx := byte256 x
    show (bif decide ((128 : Int) ≤ IntKind.wrap .i32 ((x.toNat : Nat) : Int)) then _ else _) = _
    rw [IntWalk.i32_in _ (by omega)]
    by_cases h128 : x.toNat < 128
    · rw [decide_eq_false (show ¬ (128 : Int) ≤ ((x.toNat : Nat) : Int) by omega), cond_false]
      show (bif decide ((0 : Int) ≤ Lib.indexByte cs x) then bytes_IndexAny_ret 0 else bytes_IndexAny_ret (-1)) = bytes_IndexAny_ret (bif cs.contains x then 0 else -1)
      rw [← Lib.contains_iff_indexByte]
      cases cs.contains x <;> rfl
    · rw [decide_eq_true (show (128 : Int) ≤ ((x.toNat : Nat) : Int) by omega), cond_true, any_l7 m0 _ _ cs ha cs.length 0 _ (by omega) (by omega)]
      show bytes_IndexAny_ret (-1) = bytes_IndexAny_ret (bif cs.contains x then 0 else -1)
      rw [ascii_mem ha (by omega)]
      rfl
  · rw [show (((s.length : Nat) : Int) == 1) = false by rw [beq_eq_false_iff_ne]; omega, cond_false, hcne, cond_false]
    have h32 := any_l32 m0 bytes_IndexAny_ret (bytes_IndexAny_k32_4 m0 (s.length + cs.length + 2)) rfl s cs hl' ha hc2 hcl' s.length 0 (s.length + cs.length + 2) (by omega) (by omega)
    have h24 := any_l24 m0 bytes_IndexAny_ret (bytes_IndexAny_k24_2 m0 (s.length + cs.length + 2)) rfl s cs hl' s.length 0 (s.length + cs.length + 2) (by omega) (by omega)
    rw [show bytes_makeASCIISet_ok cs = true by unfold bytes_makeASCIISet_ok; rw [ha, hcl]; rfl]
    cases bytes_shouldUseASCIISet ((s.length : Nat) : Int) with
    | true => exact h24
    | false =>
      rw [cond_false]
      exact h32⟩
end Go.Av
