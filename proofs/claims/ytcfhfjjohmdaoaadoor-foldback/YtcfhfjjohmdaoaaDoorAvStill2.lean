/-
  The operations that make nothing and change nothing, one by one.
-/
import Derived.Test.YtcfhfjjohmdaoaaDoorAvStill
import Derived.Laws.Cells
namespace Go.Av
open Go.RowKit

/-- A world that holds what the reading reads. -/
structure Like (bx : Bool) (w : World) (S : Stable) (fr : Fr) (a : Act) (w' : World) : Prop where
  keeps : Keeps w S w' S
  box : bx = true → ∀ t s (x : Den s) b, fr t = .box s x → a.tmps.getD t undef = .pointer (some ⟨b, 0, none⟩) → w'.heap[b]? = w.heap[b]?

theorem Like.refl (bx : Bool) (w : World) (S : Stable) (fr : Fr) (a : Act) : Like bx w S fr a w := ⟨Keeps.refl w S, fun _ _ _ _ _ _ _ => rfl⟩

section
variable {P : Program} {E : Env}

theorem run_v {s : Sem Value} {val : Value} {w w' : World} (h : s.run P w = .ok val w') : (do pure (Next.value (← s)) : Sem Next).run P w = .ok (.value val) w' := by
  rw [Sem.run_bind, h]; rfl

theorem TyOk1.isAgg {t : TypeId} {s : Sh} (h : TyOk1 P E t s) (w : World) : (Go.isAgg t).run P w = .ok s.agg w := by
  have hd := h.desc
  unfold Go.isAgg
  cases s with
  | bool => simp only at hd; simp [run_underlying hd, Sh.agg]
  | byte => simp only at hd; simp [run_underlying hd, Sh.agg]
  | int k => simp only at hd; simp [run_underlying hd.1, Sh.agg]
  | str => simp only at hd; simp [run_underlying hd, Sh.agg]
  | sl e => obtain ⟨te, hd, _⟩ := hd; simp [run_underlying hd, Sh.agg]
  | unit => obtain ⟨fs, hd, _⟩ := hd; simp [run_underlying hd, Sh.agg]
  | pair a b => obtain ⟨fs, hd, _⟩ := hd; simp [run_underlying hd, Sh.agg]
  | arr n e => obtain ⟨te, hd, _⟩ := hd; simp [run_underlying hd, Sh.agg]

theorem TyOk1.sizeOf {t : TypeId} {s : Sh} (h : TyOk1 P E t s) (w : World) : (Go.sizeOf t).run P w = .ok s.size w := by
  obtain ⟨i, z, hi, hs, _⟩ := h.info
  simp [Go.sizeOf, typeInfo, hi, hs]

theorem TyOk1.under {t : TypeId} {s : Sh} (h : TyOk1 P E t s) : ∃ d, P.underlying t = some d := by
  have hd := h.desc
  cases s with
  | bool => exact ⟨_, hd⟩
  | byte => exact ⟨_, hd⟩
  | int k => exact ⟨_, hd.1⟩
  | str => exact ⟨_, hd⟩
  | sl e => obtain ⟨te, hd, _⟩ := hd; exact ⟨_, hd⟩
  | unit => obtain ⟨fs, hd, _⟩ := hd; exact ⟨_, hd⟩
  | pair a b => obtain ⟨fs, hd, _⟩ := hd; exact ⟨_, hd⟩
  | arr n e => obtain ⟨te, hd, _⟩ := hd; exact ⟨_, hd⟩

theorem add_block (ad : Addr) (i : Nat) : (ad.add i).block = ad.block := by unfold Addr.add; split <;> rfl
theorem add_off (ad : Addr) (i : Nat) : (ad.add i).off = ad.off + i := by
  unfold Addr.add
  split
  · rename_i h; simp [h]
  · rfl
theorem add_spot (ad : Addr) (i : Nat) (h : ad.spot = none) : (ad.add i).spot = none := by unfold Addr.add; split <;> simp [h]
theorem add_eq (ad : Addr) (i : Nat) (h : ad.spot = none) : ad.add i = ⟨ad.block, ad.off + i, none⟩ := by
  obtain ⟨b, o, s⟩ := ad
  simp only at h
  subst h
  unfold Addr.add
  split
  · rename_i h; simp [h]
  · rfl

/-- The value that cells are, as a variable of their type. -/
def valOf (s : Sh) (cs : List Value) : Value := if s.agg then .agg cs.toArray else cs.headD undef

/-- Cells that lie in memory, loaded as a variable of their type. -/
theorem run_loadVar_cells {t : TypeId} {s : Sh} (ht : TyOk1 P E t s) {w : World} {S : Stable} {x : Den s} {cs : List Value} (hc : RdC w S s x cs) {ad : Addr} {w' : World}
    (hs : ad.spot = none) (hm : ∀ (i : Nat) (v : Value), cs[i]? = some v → w'.cell? ⟨ad.block, ad.off + i, none⟩ = some v) :
    (loadVar t ad).run P w' = .ok (valOf s cs) w' ∧ RdV w S s x (valOf s cs) := by
  have hl := RdC.length s x cs hc
  unfold loadVar
  rw [Sem.run_bind, ht.isAgg]
  by_cases ha : s.agg = true
  · rw [show valOf s cs = .agg cs.toArray by simp [valOf, ha]]
    refine ⟨?_, ?_⟩
    · simp only [Result.andThen_ok, ha, if_true, Sem.run_bind, ht.sizeOf]
      rw [← hl]
      rw [run_loadCells_list w' ad cs (fun j v hj => by rw [add_eq ad j hs]; exact hm j v hj)]
      rfl
    · unfold RdV
      rw [if_pos ha]
      exact ⟨_, rfl, hc⟩
  · have hone : s.size = 1 := by cases s <;> simp_all [Sh.agg, Sh.size]
    match cs, hl.trans hone with
    | [v], _ =>
      rw [show valOf s [v] = v by simp [valOf, ha]]
      refine ⟨?_, ?_⟩
      · simp only [Result.andThen_ok, ha]
        have h0 := hm 0 v rfl
        have he : (⟨ad.block, ad.off + 0, none⟩ : Addr) = ad := by
          obtain ⟨b, o, sp⟩ := ad
          simp only at hs
          subst hs
          rfl
        rw [he] at h0
        simp [h0]
      · unfold RdV
        rw [if_neg ha]
        exact hc


theorem getFld_ok {w : World} {S : Stable} : ∀ (s : Sh) (x : Den s) (i : Nat) (cs : List Value) (u : Sh) (y : Den u), RdC w S s x cs → getFld s x i = some ⟨u, y⟩ →
    s.fld i = some u ∧ RdC w S u y ((cs.drop (fldOff s i)).take u.size) ∧ fldOff s i + u.size ≤ s.size
  | .pair a b, x, 0, cs, u, y, h, hg => by
    simp only [getFld, Option.some.injEq, Sigma.mk.injEq] at hg
    obtain ⟨rfl, hg⟩ := hg
    obtain rfl := eq_of_heq hg
    simp only [RdC] at h
    obtain ⟨v1, v2, rfl, h1, h2⟩ := h
    refine ⟨rfl, ?_, by simp [fldOff, Sh.size]⟩
    have hl := RdC.length a _ _ h1
    simp only [fldOff, List.drop_zero]
    rw [List.take_left' hl]
    exact h1
  | .pair a b, x, i + 1, cs, u, y, h, hg => by
    simp only [getFld] at hg
    simp only [RdC] at h
    obtain ⟨v1, v2, rfl, h1, h2⟩ := h
    obtain ⟨k1, k2, k3⟩ := getFld_ok b x.2 i v2 u y h2 hg
    have hl := RdC.length a _ _ h1
    refine ⟨by simpa only [Sh.fld] using k1, ?_, by simp only [fldOff, Sh.size]; omega⟩
    simp only [fldOff]
    rw [← hl, ← List.drop_drop, List.drop_left]
    exact k2
  | .bool, _, _, _, _, _, _, hg => by simp [getFld] at hg
  | .byte, _, _, _, _, _, _, hg => by simp [getFld] at hg
  | .int _, _, _, _, _, _, _, hg => by simp [getFld] at hg
  | .str, _, _, _, _, _, _, hg => by simp [getFld] at hg
  | .sl _, _, _, _, _, _, _, hg => by simp [getFld] at hg
  | .unit, _, _, _, _, _, _, hg => by simp [getFld] at hg
  | .arr _ _, _, _, _, _, _, _, hg => by simp [getFld] at hg

theorem getStep_ok {w : World} {S : Stable} (s : Sh) (x : Den s) (i : Nat) (cs : List Value) (u : Sh) (y : Den u) (v : Sh) (h : RdC w S s x cs) (hg : getStep s x i = some ⟨u, y⟩) (hs : s.step i = some v) :
    v = u ∧ RdC w S u y ((cs.drop (stepOff s i)).take u.size) ∧ stepOff s i + u.size ≤ s.size := by
  cases s with
  | arr n e =>
    simp only [getStep, Option.some.injEq, Sigma.mk.injEq] at hg
    obtain ⟨rfl, hg⟩ := hg
    obtain rfl := eq_of_heq hg
    simp only [Sh.step] at hs
    split at hs
    · rename_i hi
      simp only [RdC] at h
      have hlt : i < List.length x := by rw [h.1]; exact hi
      refine ⟨(Option.some.inj hs).symm, ?_, ?_⟩
      · rw [show List.getD x i (dflt e) = x[i] by simp [List.getD, List.getElem?_eq_getElem hlt]]
        exact Chunks.at (RdC.length e) i h.2 hlt
      · simp only [stepOff, Sh.size]
        have := Nat.mul_le_mul_right e.size (show i + 1 ≤ n from hi)
        rw [Nat.add_mul, Nat.one_mul] at this
        exact this
    · cases hs
  | pair a b =>
    obtain ⟨k1, k2, k3⟩ := getFld_ok (.pair a b) x i cs u y h hg
    exact ⟨Option.some.inj (hs.symm.trans k1), k2, k3⟩
  | _ => simp [getStep] at hg

theorem getPath_ok {w : World} {S : Stable} : ∀ (p : List Nat) (s : Sh) (x : Den s) (cs : List Value) (u : Sh) (y : Den u) (o : Nat), RdC w S s x cs → getPath s x p = some ⟨u, y⟩ → pathOff s p = some o →
    RdC w S u y ((cs.drop o).take u.size) ∧ o + u.size ≤ s.size
  | [], s, x, cs, u, y, o, h, hg, ho => by
    simp only [getPath, Option.some.injEq, Sigma.mk.injEq] at hg
    obtain ⟨rfl, hg⟩ := hg
    obtain rfl := eq_of_heq hg
    simp only [pathOff, Option.some.injEq] at ho
    subst ho
    refine ⟨?_, by omega⟩
    rw [List.drop_zero, ← RdC.length s _ _ h, List.take_length]
    exact h
  | i :: p, s, x, cs, u, y, o, h, hg, ho => by
    simp only [getPath] at hg
    split at hg
    · rename_i t z hz
      simp only [pathOff] at ho
      split at ho
      · rename_i t' ht'
        split at ho
        · rename_i o' ho'
          simp only [Option.some.injEq] at ho
          subst ho
          obtain ⟨rfl, k2, k3⟩ := getStep_ok s x i cs t z t' h hz ht'
          obtain ⟨j2, j3⟩ := getPath_ok p _ z _ u y o' k2 hg ho'
          refine ⟨?_, by omega⟩
          rw [List.drop_take, List.take_take, List.drop_drop] at j2
          rw [Nat.min_eq_left (by omega)] at j2
          exact j2
        · cases ho
      · cases ho
    · cases hg

theorem MemAt.sub {w : World} {S : Stable} {ad : Addr} {cs : List Value} (h : MemAt w S ad cs) (o n : Nat) : MemAt w S (ad.add o) ((cs.drop o).take n) := by
  refine ⟨add_spot ad o h.1, fun i v hv => ?_⟩
  rw [add_block, add_off]
  rw [List.getElem?_take] at hv
  split at hv
  · rw [List.getElem?_drop] at hv
    have := h.2 _ _ hv
    rw [Nat.add_assoc]
    exact this
  · cases hv

/-- An integer that an index or a bound is. -/
theorem idxV_ok {w : World} {S : Stable} {v : AV} {val : Value} {n : Int} (h : Rd w S val v) (hi : idxV v = some n) : ∃ k, val = .int k n := by
  unfold idxV at hi
  split at hi
  · simp only [Option.some.injEq] at hi
    subst hi
    exact ⟨_, dat_int h⟩
  · simp only [Option.some.injEq] at hi
    subst hi
    exact ⟨_, dat_byte h⟩
  · cases hi

theorem rd_sl {w : World} {S : Stable} {e : Sh} {l : List (Den e)} {o : Lab} {v : Value} (h : Rd w S v (.dat (.sl e) l o)) :
    ∃ A cap cs, v = .slice A l.length cap ∧ l.length ≤ cap ∧ Chunks (RdC w S e) l cs ∧ (cs ≠ [] → ∃ ad, A = some ad ∧ MemAt w S ad cs) := by
  cases h with
  | dat _ _ _ _ h =>
    simp only [RdV, Sh.agg, RdC] at h
    obtain ⟨A, cap, cs, h1, h2⟩ := h
    simp only [List.cons.injEq, and_true] at h1
    exact ⟨A, cap, cs, h1, h2⟩
theorem rd_adr {w : World} {S : Stable} {s : Sh} {x : Den s} {v : Value} (h : Rd w S v (.adr s x)) :
    ∃ ad cs, v = .pointer (some ad) ∧ RdC w S s x cs ∧ ad.spot = none ∧ (cs ≠ [] → MemAt w S ad cs) := by
  cases h with
  | adr _ _ ad cs h hm => exact ⟨ad, cs, rfl, h, hm.1, hm.2⟩
theorem rd_agg {w : World} {S : Stable} {s : Sh} {x : Den s} {o : Lab} {v : Value} (h : Rd w S v (.dat s x o)) (ha : s.agg = true) : ∃ cs, v = .agg cs ∧ RdC w S s x cs.toList := by
  cases h with
  | dat _ _ _ _ h => unfold RdV at h; rw [if_pos ha] at h; exact h
theorem rd_of_sl {w : World} {S : Stable} {e : Sh} {l : List (Den e)} {A : Option Addr} {n cap : Nat} {cs : List Value} (o : Lab) (hn : n = l.length) (h1 : l.length ≤ cap) (h2 : Chunks (RdC w S e) l cs)
    (h3 : cs ≠ [] → ∃ ad, A = some ad ∧ MemAt w S ad cs) : Rd w S (.slice A n cap) (.dat (.sl e) l o) := by
  subst hn
  refine .dat _ _ _ _ ?_
  simp only [RdV, Sh.agg, RdC]
  exact ⟨A, cap, cs, rfl, h1, h2, h3⟩

/-- A part of a row of cells, as a value of its type. -/
theorem run_part {t : TypeId} {s : Sh} (ht : TyOk1 P E t s) {w : World} {S : Stable} {x : Den s} {cs : Array Value} {o : Nat} (h : RdC w S s x ((cs.toList.drop o).take s.size)) (ho : o + s.size ≤ cs.size) (w' : World) :
    ∃ val, (part t cs o).run P w' = .ok val w' ∧ RdV w S s x val := by
  unfold part
  rw [Sem.run_bind, ht.isAgg]
  by_cases ha : s.agg = true
  · refine ⟨.agg (cs.extract o (o + s.size)), ?_, ?_⟩
    · simp only [Result.andThen_ok, ha, if_true, Sem.run_bind, ht.sizeOf]
      rfl
    · unfold RdV
      rw [if_pos ha]
      refine ⟨_, rfl, ?_⟩
      rw [Array.toList_extract, List.extract_eq_take_drop]
      simpa using h
  · have hone : s.size = 1 := by cases s <;> simp_all [Sh.agg, Sh.size]
    rw [hone] at h ho
    have hlt : o < cs.toList.length := by simp; omega
    refine ⟨cs.toList[o], ?_, ?_⟩
    · simp only [Result.andThen_ok, ha]
      have : cs[o]? = some cs.toList[o] := by simp [show o < cs.size by omega]
      simp [this]
    · unfold RdV
      rw [if_neg ha]
      rw [List.drop_eq_getElem_cons hlt] at h
      simpa using h
end
end Go.Av
