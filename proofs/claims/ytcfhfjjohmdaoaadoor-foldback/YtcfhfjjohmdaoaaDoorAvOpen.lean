/-
  What a law is given: any argument of a shape reads as a datum.
-/
import Derived.Test.YtcfhfjjohmdaoaaDoorAvLaw
import Derived.Test.YtcfhfjjohmdaoaaDoorAvMath
import Derived.ReadAgain
import Derived.ChangeReads
namespace Go.Av
open Go.RowKit

/-- A struct's shape. -/
def Sh.spine : Sh → Bool
  | .pair _ b => b.spine
  | .unit => true
  | _ => false
/-- Structs all the way down. -/
def Sh.good : Sh → Bool
  | .pair a b => a.good && b.good && b.spine
  | .sl e => e.good
  | .arr _ e => e.good
  | _ => true

/-- Numbers within their kinds. -/
def InR : (s : Sh) → Den s → Prop
  | .int k, n => (Lit.int k n).wf = true
  | .sl e, l => ∀ x ∈ (show List (Den e) from l), InR e x
  | .pair a b, x => InR a x.1 ∧ InR b x.2
  | .arr _ e, l => ∀ x ∈ (show List (Den e) from l), InR e x
  | _, _ => True

theorem cellsOf_eq {P : Program} {E : Env} {t : TypeId} {s : Sh} (h : TyOk1 P E t s) : P.cellsOf t = s.size := by
  obtain ⟨i, z, hi, hs, _⟩ := h.info
  simp [Program.cellsOf, hi, hs]

theorem chunks_exist {α : Type} {R : α → List Value → Prop} {I : α → Prop} {k : Nat} : ∀ (n : Nat) (vs : List Value), vs.length = n * k → (∀ i, i < n → ∃ x, R x ((vs.drop (i * k)).take k) ∧ I x) → ∃ l : List α, l.length = n ∧ Chunks R l vs ∧ ∀ x ∈ l, I x
  | 0, vs, hl, _ => ⟨[], rfl, by rw [Nat.zero_mul] at hl; exact List.eq_nil_of_length_eq_zero hl, fun x hx => by cases hx⟩
  | n + 1, vs, hl, h => by
    obtain ⟨x, hx, ix⟩ := h 0 (by omega)
    rw [Nat.zero_mul, List.drop_zero] at hx
    obtain ⟨l, h1, h2, h3⟩ := chunks_exist (R := R) (I := I) (k := k) n (vs.drop k) (by rw [List.length_drop, hl, Nat.add_mul]; omega) (fun i hi => by
      obtain ⟨y, hy, iy⟩ := h (i + 1) (by omega)
      refine ⟨y, ?_, iy⟩
      rw [List.drop_drop]
      rw [Nat.add_mul, Nat.one_mul, Nat.add_comm] at hy
      exact hy)
    exact ⟨x :: l, by simp [h1], ⟨vs.take k, vs.drop k, (List.take_append_drop k vs).symm, hx, h2⟩, fun y hy => by
      rcases List.mem_cons.1 hy with rfl | hy
      · exact ix
      · exact h3 y hy⟩

theorem struct_exist {w : World} {S : Stable} : ∀ (s : Sh) (cs : List Value), Sh.spine s = true → cs.length = s.size → (∀ i u, s.fld i = some u → ∃ y : Den u, RdC w S u y ((cs.drop (fldOff s i)).take u.size) ∧ InR u y) → ∃ y : Den s, RdC w S s y cs ∧ InR s y
  | .unit, cs, _, hl, _ => ⟨(), by simp only [RdC]; exact List.eq_nil_of_length_eq_zero hl, trivial⟩
  | .pair a b, cs, hs, hl, h => by
    simp only [Sh.spine] at hs
    obtain ⟨y1, h1, i1⟩ := h 0 a rfl
    simp only [fldOff, List.drop_zero] at h1
    simp only [Sh.size] at hl
    obtain ⟨y2, h2, i2⟩ := struct_exist b (cs.drop a.size) hs (by rw [List.length_drop]; omega) (fun i u hu => by
      obtain ⟨y, hy, iy⟩ := h (i + 1) u hu
      refine ⟨y, ?_, iy⟩
      simp only [fldOff] at hy
      rw [List.drop_drop]
      exact hy)
    exact ⟨(y1, y2), by simp only [RdC]; exact ⟨cs.take a.size, cs.drop a.size, (List.take_append_drop _ _).symm, h1, h2⟩, i1, i2⟩
  | .bool, _, hs, _, _ => by cases hs
  | .byte, _, hs, _, _ => by cases hs
  | .int _, _, hs, _, _ => by cases hs
  | .str, _, hs, _, _ => by cases hs
  | .sl _, _, hs, _, _ => by cases hs
  | .arr _ _, _, hs, _, _ => by cases hs

theorem good_fld : ∀ (s : Sh) (i : Nat) (u : Sh), s.good = true → s.fld i = some u → u.good = true
  | .pair a b, 0, u, h, hu => by
    simp only [Sh.fld, Option.some.injEq] at hu
    subst hu
    simp only [Sh.good, Bool.and_eq_true] at h
    exact h.1.1
  | .pair a b, i + 1, u, h, hu => by
    simp only [Sh.good, Bool.and_eq_true] at h
    exact good_fld b i u h.1.2 hu
  | .bool, _, _, _, hu => by simp [Sh.fld] at hu
  | .byte, _, _, _, hu => by simp [Sh.fld] at hu
  | .int _, _, _, _, hu => by simp [Sh.fld] at hu
  | .str, _, _, _, hu => by simp [Sh.fld] at hu
  | .sl _, _, _, _, hu => by simp [Sh.fld] at hu
  | .unit, _, _, _, hu => by simp [Sh.fld] at hu
  | .arr _ _, _, _, _, hu => by simp [Sh.fld] at hu

section
variable {H : Type} {enc : TypeId × Value → H} {P : Program} {W : World} {E : Env}

theorem cells_at {base : Nat} {a : Addr} {k : Nat} {cs : List Value} (h : W.cells? base a k = some cs) : cs.length = k ∧ ∀ (i : Nat) (v : Value), cs[i]? = some v → W.cell? (a.add i) = some v := by
  unfold World.cells? at h
  split at h
  · have hl := mapM_some_length h
    rw [List.length_range] at hl
    refine ⟨hl, fun i v hv => ?_⟩
    have hlt := (List.getElem?_eq_some_iff.1 hv).1
    have := mapM_some_get h i i (by rw [List.getElem?_range (by omega)])
    rw [this, hv]
  · cases h

theorem add_plain_cell {a : Addr} {i : Nat} {v : Value} (h : W.cell? (a.add i) = some v) : W.cell? ⟨a.block, a.off + i, none⟩ = some v ∧ a.block < W.heap.size ∧ (i = 0 → a.spot = none) := by
  have hb : ∀ b : Addr, W.cell? b = some v → b.spot = none ∧ b.block < W.heap.size := fun b hb => by
    unfold World.cell? at hb
    split at hb
    · rename_i hc
      split at hb
      · cases hb
      · rename_i hs
        refine ⟨by cases hh : b.spot with
          | none => rfl
          | some x => rw [hh] at hs; simp at hs, (Array.getElem?_eq_some_iff.1 hc).1⟩
    · cases hb
  obtain ⟨h1, h2⟩ := hb _ h
  rw [add_block] at h2
  have he : a.add i = ⟨a.block, a.off + i, none⟩ := by
    have e1 := add_block a i
    have e2 := add_off a i
    generalize a.add i = b at h1 e1 e2
    obtain ⟨b1, b2, b3⟩ := b
    simp only at h1 e1 e2
    subst h1 e1 e2
    rfl
  refine ⟨by rw [← he]; exact h, h2, fun hi => ?_⟩
  subst hi
  have : a.add 0 = a := by unfold Addr.add; simp
  rw [this] at h1
  exact h1

theorem open_cells (hT : TyOk P E) {sp : Nat → Bool} : ∀ (fuel : Nat) (t : TypeId) (s : Sh) (cs : List Value) (x : DataW H × List MemPlace), (E.ti t).sh = some s → s.good = true → DataW.trod enc P W 0 sp true fuel t cs = some x → ∃ y : Den s, RdC W (Was W) s y cs ∧ InR s y
  | 0, t, s, cs, x, _, _, h => by simp [DataW.trod] at h
  | fuel + 1, t, s, cs, x, hs, hg, h => by
    have hty := hT t s hs
    have hd := hty.desc
    have hcs := cellsOf_eq hty
    -- one cell
    cases s with
    | bool =>
      have hd : P.underlying t = some .bool := hd
      have : ∃ b, cs = [.bool b] := by
        unfold DataW.trod at h
        rw [hd] at h
        split at h <;> simp_all
      obtain ⟨b, rfl⟩ := this
      exact ⟨b, by simp only [RdC], trivial⟩
    | byte =>
      have hd : P.underlying t = some (.int .u8) := hd
      have : ∃ n, cs = [.int .u8 n] ∧ (Lit.int .u8 n).wf = true := by
        unfold DataW.trod at h
        rw [hd] at h
        split at h <;> simp_all
      obtain ⟨n, rfl, hw⟩ := this
      have hb := wf_u8 hw
      refine ⟨UInt8.ofNat n.toNat, ?_, trivial⟩
      have := byte_const n (by omega)
      simp only [RdC]
      rw [this]
    | int k =>
      obtain ⟨hd, _⟩ := hd
      have : ∃ n, cs = [.int k n] ∧ (Lit.int k n).wf = true := by
        unfold DataW.trod at h
        rw [hd] at h
        split at h <;> simp_all
      obtain ⟨n, rfl, hw⟩ := this
      exact ⟨n, by simp only [RdC], hw⟩
    | str =>
      have hd : P.underlying t = some .string := hd
      have : ∃ b, cs = [.string b] := by
        unfold DataW.trod at h
        rw [hd] at h
        split at h <;> simp_all
      obtain ⟨b, rfl⟩ := this
      exact ⟨b.data.toList, by simp only [RdC]; exact ⟨b, rfl, rfl⟩, trivial⟩
    | unit =>
      obtain ⟨fs, hd, _⟩ := hd
      obtain ⟨xs, n, _, _, hl, _⟩ := DataW.trod_struct hd h
      rw [hcs] at hl
      exact ⟨(), by simp only [RdC]; exact List.eq_nil_of_length_eq_zero hl, trivial⟩
    | pair a b =>
      obtain ⟨fs, hd, hf, hf2⟩ := hd
      obtain ⟨xs, n, e1, _, hl, hxl, hx⟩ := DataW.trod_struct hd h
      obtain rfl : fuel = n := by omega
      rw [hcs] at hl
      simp only [Sh.good, Bool.and_eq_true] at hg
      refine struct_exist (.pair a b) cs (by simpa only [Sh.spine] using hg.2) hl (fun i u hu => ?_)
      obtain ⟨f, hfi⟩ := hf2 i u hu
      obtain ⟨ho, hsh, _⟩ := hf i f hfi
      rw [hu] at hsh
      have hxi := hx i f hfi
      have hlt : i < xs.length := by rw [hxl]; exact (Array.getElem?_eq_some_iff.1 hfi).1
      rw [List.getElem?_eq_getElem hlt, cellsOf_eq (hT _ _ hsh), ho] at hxi
      exact open_cells hT fuel f.type u _ _ hsh (good_fld (.pair a b) i u (by simp only [Sh.good, Bool.and_eq_true]; exact hg) hu) hxi
    | arr m e =>
      obtain ⟨te, hd, hte⟩ := hd
      obtain ⟨xs, n, e1, _, hl, hxl, hx⟩ := DataW.trod_array hd h
      obtain rfl : fuel = n := by omega
      rw [hcs] at hl
      simp only [Sh.good] at hg
      obtain ⟨l, h1, h2, h3⟩ := chunks_exist (R := RdC W (Was W) e) (I := InR e) (k := e.size) m cs hl (fun i hi => by
        have hxi := hx i hi
        rw [List.getElem?_eq_getElem (by omega), cellsOf_eq (hT _ _ hte)] at hxi
        obtain ⟨y, k1, k2⟩ := open_cells hT fuel te e _ _ hte hg hxi
        exact ⟨y, k1, k2⟩)
      exact ⟨l, by simp only [RdC]; exact ⟨h1, h2⟩, h3⟩
    | sl e =>
      obtain ⟨te, hd, hte, hpos, _⟩ := hd
      simp only [Sh.good] at hg
      rcases DataW.trod_slice hd h with ⟨rfl, _⟩ | ⟨a, len, cap, elems, rest, n, e1, rfl, _, _, hlc, _, hel, hx, _⟩
      · exact ⟨[], by simp only [RdC]; exact ⟨none, 0, [], rfl, Nat.le_refl _, rfl, fun hh => absurd rfl hh⟩, fun x hx => by cases hx⟩
      · obtain rfl : fuel = n := by omega
        have hce := cellsOf_eq (hT _ _ hte)
        rw [hce] at hx
        -- the cells, one by one
        have hone : ∀ i, i < len → ∃ c, W.cells? 0 (a.add (i * e.size)) e.size = some c ∧ ∃ y : Den e, RdC W (Was W) e y c ∧ InR e y := fun i hi => by
          have hxi := hx i hi
          rw [List.getElem?_eq_getElem (by omega)] at hxi
          rw [Option.bind_eq_some_iff] at hxi
          obtain ⟨c, hc1, hc2⟩ := hxi
          obtain ⟨y, k1, k2⟩ := open_cells hT fuel te e c _ hte hg hc2
          exact ⟨c, hc1, y, k1, k2⟩
        have hcell : ∀ i, i < len → ∀ j, j < e.size → ∃ v, W.cell? ⟨a.block, a.off + (i * e.size + j), none⟩ = some v ∧ (i = 0 → j = 0 → a.spot = none) ∧ a.block < W.heap.size ∧ ∀ c, W.cells? 0 (a.add (i * e.size)) e.size = some c → c[j]? = some v := fun i hi j hj => by
          obtain ⟨c, hc1, _⟩ := hone i hi
          obtain ⟨hl, hat⟩ := cells_at hc1
          have hv := hat j c[j] (List.getElem?_eq_getElem (by omega))
          obtain ⟨p2, p3, p1⟩ := add_plain_cell hv
          rw [add_block, add_off] at p2
          rw [add_block] at p3
          refine ⟨c[j], by rw [← Nat.add_assoc]; exact p2, fun hi0 hj0 => ?_, p3, fun c' hc' => ?_⟩
          · subst hi0
            have := p1 hj0
            rw [Nat.zero_mul] at this
            have e0 : a.add 0 = a := by unfold Addr.add; simp
            rw [e0] at this
            exact this
          · rw [hc1] at hc'
            obtain rfl := Option.some.inj hc'
            exact List.getElem?_eq_getElem (by omega)
        let vs : List Value := (List.range (len * e.size)).map fun q => (W.cell? ⟨a.block, a.off + q, none⟩).getD undef
        have hvl : vs.length = len * e.size := by simp [vs]
        obtain ⟨l, h1, h2, h3⟩ := chunks_exist (R := RdC W (Was W) e) (I := InR e) (k := e.size) len vs hvl (fun i hi => by
          obtain ⟨c, hc1, y, k1, k2⟩ := hone i hi
          obtain ⟨hl, _⟩ := cells_at hc1
          refine ⟨y, ?_, k2⟩
          have : (vs.drop (i * e.size)).take e.size = c := by
            apply List.ext_getElem?
            intro j
            have hle : (i + 1) * e.size ≤ len * e.size := Nat.mul_le_mul_right _ hi
            rw [Nat.add_mul, Nat.one_mul] at hle
            rcases Nat.lt_or_ge j e.size with hj | hj
            · obtain ⟨v, q1, _, _, q2⟩ := hcell i hi j hj
              rw [List.getElem?_take_of_lt hj, List.getElem?_drop, q2 c hc1]
              simp only [vs, List.getElem?_map]
              rw [List.getElem?_range (by omega)]
              simp only [Option.map_some, q1, Option.getD_some]
            · rw [List.getElem?_eq_none (by simp; omega), List.getElem?_eq_none (by omega)]
          rw [this]
          exact k1)
        refine ⟨l, ?_, h3⟩
        simp only [RdC]
        refine ⟨some a, cap, vs, by rw [h1], by omega, h2, fun hne => ⟨a, rfl, ?_⟩⟩
        have hlen : 0 < len * e.size := by
          rw [← hvl]
          exact List.length_pos_iff.2 hne
        have hpl : 0 < len := Nat.pos_of_mul_pos_right hlen
        obtain ⟨_, _, hsp, hblk, _⟩ := hcell 0 hpl 0 hpos
        refine ⟨hsp rfl rfl, fun q v hv => ⟨hblk, ?_⟩⟩
        have hq := (List.getElem?_eq_some_iff.1 hv).1
        rw [hvl] at hq
        obtain ⟨u, q1, _⟩ := hcell (q / e.size) (Nat.div_lt_of_lt_mul (by rw [Nat.mul_comm]; exact hq)) (q % e.size) (Nat.mod_lt _ hpos)
        rw [Nat.mul_comm, Nat.div_add_mod] at q1
        simp only [vs, List.getElem?_map] at hv
        rw [List.getElem?_range hq] at hv
        simp only [Option.map_some, Option.some.injEq, q1, Option.getD_some] at hv
        rw [q1, hv]

/-- AN ARGUMENT READS AS A DATUM of its shape; its numbers are within their kinds. -/
theorem open_arg (hT : TyOk P E) {t : TypeId} {s : Sh} (hs : (E.ti t).sh = some s) (hg : s.good = true) {base : Nat} {v : Value} {d : DataW H} {p : List MemPlace} (hv : Value.okWide P W .any base t v) (h : DataW.Trod enc P W 0 (fun _ => true) true t v d p) :
    ∃ y : Den s, Rd W (Was W) v (.dat s y none) ∧ InR s y := by
  obtain ⟨n, hn⟩ := h
  obtain ⟨y, h1, h2⟩ := open_cells hT n t s v.cells.toList _ hs hg hn
  refine ⟨y, .dat _ _ _ _ ?_, h2⟩
  have hd := (hT t s hs).desc
  unfold RdV
  split
  · rename_i ha
    have : ∃ cs, v = .agg cs := by
      unfold Value.okWide at hv
      cases s with
      | unit => obtain ⟨fs, hd, _⟩ := hd; rw [hd] at hv; obtain ⟨cs, e, _⟩ := hv; exact ⟨cs, e⟩
      | pair a b => obtain ⟨fs, hd, _⟩ := hd; rw [hd] at hv; obtain ⟨cs, e, _⟩ := hv; exact ⟨cs, e⟩
      | arr m e => obtain ⟨te, hd, _⟩ := hd; rw [hd] at hv; obtain ⟨cs, e, _⟩ := hv; exact ⟨cs, e⟩
      | _ => cases ha
    obtain ⟨cs, rfl⟩ := this
    exact ⟨cs, rfl, h1⟩
  · rename_i ha
    have hone : v.cells.toList.length = 1 := by rw [RdC.length _ _ _ h1]; exact size_one (by simpa using ha)
    have hoc := RdC.oneCell _ _ _ h1
    have hna : ∀ cs, v ≠ .agg cs := by
      intro cs e
      subst e
      unfold Value.okWide at hv
      cases s with
      | bool => simp only at hd; rw [hd] at hv; simp [Cell.okWide, Cell.ok, hd] at hv
      | byte => simp only at hd; rw [hd] at hv; simp [Cell.okWide, Cell.ok, hd] at hv
      | int k => rw [hd.1] at hv; simp [Cell.okWide, Cell.ok, hd.1] at hv
      | str => simp only at hd; rw [hd] at hv; simp [Cell.okWide, Cell.ok, hd] at hv
      | sl e => obtain ⟨te, hd, _⟩ := hd; rw [hd] at hv; simp [Cell.okWide, Cell.ok, hd] at hv
      | _ => exact ha rfl
    have hc : v.cells.toList = [v] := by
      cases v with
      | agg cs => exact absurd rfl (hna cs)
      | _ => rfl
    rw [hc] at h1
    exact h1
end
end Go.Av
