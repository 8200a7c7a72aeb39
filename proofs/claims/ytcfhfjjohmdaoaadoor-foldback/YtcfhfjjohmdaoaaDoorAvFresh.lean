/-
  Values that an operation has made: how the reading goes on.
-/
import Derived.Test.YtcfhfjjohmdaoaaDoorAvStill4
namespace Go.Av
open Go.RowKit

section
variable {base : Nat → Prop} {w0 w : World} {S0 S : Stable} {fr : Fr} {a : Act} {P : Program} {E : Env}

theorem cell_of_block {w w' : World} {b : Nat} (h : w'.heap[b]? = w.heap[b]?) (o : Nat) : w'.cell? ⟨b, o, none⟩ = w.cell? ⟨b, o, none⟩ := by simp [World.cell?, h]

/-- A world that has only grown, and what is stable in it. -/
structure Grew (w : World) (S : Stable) (w' : World) (S' : Stable) : Prop where
  below : Below w.heap.size w w'
  old : ∀ b o, b < w.heap.size → (S' b o ↔ S b o)
  lt : ∀ b o, S' b o → b < w'.heap.size

theorem Grew.keeps {w' : World} {S' : Stable} (g : Grew w S w' S') (hS : ∀ b o, S b o → b < w.heap.size) : Keeps w S w' S' :=
  fun b o hs => ⟨(g.old b o (hS b o hs)).2 hs, cell_of_block (g.below.block b (hS b o hs)) o⟩

theorem grown_of_below {w' : World} (hb : Below w.heap.size w w') (row : Option Nat) : w.grownBy w' row := ⟨hb.os, hb.tape, hb.output, hb.size, fun k hk _ => hb.block k hk⟩

theorem R.grow (h : R base w0 S0 S fr a w) {w' : World} {S' : Stable} (g : Grew w S w' S') : R base w0 S0 S' fr a w' :=
  h.step (row := none) (grown_of_below g.below none) (g.keeps h.slt) (fun b o hlt _ => g.old b o hlt) g.lt (fun g hg => by cases hg)

theorem R.own_lt (h : R base w0 S0 S fr a w) {l : Nat} {e : TypeId} {b : Nat} (hl : (fr l).lab = some (l, e)) (hb : (a.tmps.getD l undef).ownBlock = some b) : b < w.heap.size := by
  cases hf : fr l with
  | dat s x o =>
    rw [hf] at hl
    simp only [AV.lab] at hl
    subst hl
    obtain ⟨e', rfl⟩ := h.sls l s x _ hf
    obtain ⟨xs, h1, _⟩ := h.own l e' x e hf
    exact (h1.lt b hb).2
  | _ => rw [hf] at hl; simp [AV.lab] at hl

theorem R.lab_own (h : R base w0 S0 S fr a w) {t l : Nat} {e : TypeId} (hl : (fr t).lab = some (l, e)) : (fr l).lab = some (l, e) := by
  rw [(h.cp t l e hl).1]; exact hl

theorem R.own_lt' (h : R base w0 S0 S fr a w) {t l : Nat} {e : TypeId} {b : Nat} (hl : (fr t).lab = some (l, e)) (hb : (a.tmps.getD t undef).ownBlock = some b) : b < w.heap.size := by
  have h1 := h.cp t l e hl
  exact h.own_lt (h.lab_own hl) (by rw [h1.2]; exact hb)

theorem R.box_lt (h : R base w0 S0 S fr a w) {t : Nat} {s : Sh} {x : Den s} {b : Nat} (hf : fr t = .box s x) (hb : a.tmps.getD t undef = .pointer (some ⟨b, 0, none⟩)) : b < w.heap.size := by
  obtain ⟨b', ⟨_, _, c, T, hc, _⟩, e⟩ := h.box t s x hf
  rw [hb] at e
  obtain rfl : b = b' := by simpa using e
  exact (Array.getElem?_eq_some_iff.1 hc).1

/-- A value made by an operation: put into its slot. -/
theorem R.fresh (h : R base w0 S0 S fr a w) {d : Nat} (hd : d < a.tmps.size) {w' : World} {S' : Stable} (g : Grew w S w' S')
    {val : Value} {v : AV} (hv : Rd w' S' val v) (hnb : ∀ s (x : Den s), v ≠ .box s x) (hnp : ∀ s p, v ≠ .badr s p)
    (hl : ∀ l te, v.lab = some (l, te) → l = d ∧ ∃ e, ∃ x : List (Den e), v = .dat (.sl e) x (some (l, te)) ∧ OwnRow w' S' (· < w.heap.size) te e val x) :
    R base w0 S0 S' (fr.put d v) (a.put (some d) val) w' := by
  have h1 := h.grow g
  have new_of : ∀ te, v.lab = some (d, te) → ∀ b, val.ownBlock = some b → w.heap.size ≤ b := fun te he b hb' => by
    obtain ⟨_, e, x, _, xs, h2, _, _, h5⟩ := hl d te he
    exact Nat.le_of_not_lt (h5 b hb')
  refine h1.put hd hv ?_ ?_ ?_ ?_ ?_ ?_ ?_ ?_ ?_
  · intro s x l e
    obtain ⟨l1, te⟩ := l
    obtain ⟨_, e', x', h2, _⟩ := hl l1 te (by rw [e]; rfl)
    rw [e] at h2
    exact ⟨e', (AV.dat.inj h2).1⟩
  · intro l te he hne
    exact absurd (hl l te he).1 hne
  · intro e x te he
    obtain ⟨_, e', x', h2, h3⟩ := hl d te (by rw [he]; rfl)
    rw [he] at h2
    obtain ⟨h4, h5, _⟩ := AV.dat.inj h2
    obtain rfl : e = e' := by simpa using h4
    obtain rfl := eq_of_heq h5
    obtain ⟨xs, k1, k2, k3, k4⟩ := h3
    exact ⟨xs, k1, k2, k3, fun b hb hp => k4 b hb (h.base_le b hp)⟩
  · intro te he l e b hne hle hb' hc
    have := new_of te he b hc
    have := h.own_lt' hle hb'
    omega
  · intro s x e; exact absurd e (hnb s x)
  · intro s x e; exact absurd e (hnb s x)
  · intro s x e; exact absurd e (hnb s x)
  · intro te he t s x b hne hf hb' hc
    have := new_of te he b hc
    have := h.box_lt hf hb'
    omega
  · intro s p e; exact absurd e (hnp s p)

/-- A box made by an operation: put into its slot. -/
theorem R.boxed (h : R base w0 S0 S fr a w) {d : Nat} (hd : d < a.tmps.size) {w' : World} {s : Sh} {x : Den s} {b : Nat} (hb : Below w.heap.size w w') (hge : w.heap.size ≤ b)
    {c : Array Value} {T : TypeId} (hc : w'.heap[b]? = some (.cells c T (0, 0))) (hr : RdC w S s x c.toList) :
    R base w0 S0 S (fr.put d (.box s x)) (a.put (some d) (.pointer (some ⟨b, 0, none⟩))) w' := by
  have g : Grew w S w' S := ⟨hb, fun _ _ _ => Iff.rfl, fun b o hs => Nat.lt_of_lt_of_le (h.slt b o hs) hb.size⟩
  have h1 := h.grow g
  refine h1.put hd (.box _ _ _) ?_ ?_ ?_ ?_ ?_ ?_ ?_ ?_ ?_
  · intro s x l e; cases e
  · intro l e he; simp [AV.lab] at he
  · intro e x te he; cases he
  · intro te he; simp [AV.lab] at he
  · intro s1 x1 e
    obtain ⟨rfl, e⟩ := AV.box.inj e
    obtain rfl := eq_of_heq e
    exact ⟨b, ⟨fun hp => by have := h.base_le b hp; omega, fun o ho => by have := h.slt b o ho; omega, c, T, hc, RdC.keeps (g.keeps h.slt) _ _ _ hr⟩, rfl⟩
  · intro s1 x1 _ t s' x' b' _ hf e hc'
    obtain rfl : b = b' := by simpa using e
    have := h.box_lt hf hc'
    omega
  · intro s1 x1 _ b' l e e' _ hl hc'
    obtain rfl : b = b' := by simpa using e'
    have := h.own_lt' hl hc'
    omega
  · intro te he; simp [AV.lab] at he
  · intro s p e; cases e

/-! ### Contracts -/

/-- The arguments of a call read so. -/
def ArgsRd (w : World) (S : Stable) (vals : List Value) (avs : List AV) : Prop :=
  vals.length = avs.length ∧ ∀ (i : Nat) (v : Value) (av : AV), vals[i]? = some v → avs[i]? = some av → Rd w S v av

/-- What a call hands back: a value that reads so; a slice may be its own. -/
structure ResRd (n : Nat → Prop) (w' : World) (S' : Stable) (v : Value) (r : AV) : Prop where
  rd : Rd w' S' v r
  nb : ∀ s (x : Den s), r ≠ .box s x
  np : ∀ s p, r ≠ .badr s p
  own : ∀ l te, r.lab = some (l, te) → ∃ e, ∃ x : List (Den e), r = .dat (.sl e) x (some (l, te)) ∧ OwnRow w' S' n te e v x

theorem at_lab {r : AV} {d l : Nat} {te : TypeId} (h : (r.at d).lab = some (l, te)) : l = d ∧ ∃ l', r.lab = some (l', te) := by
  cases r with
  | dat s x o =>
    cases o with
    | none => simp [AV.at, AV.lab] at h
    | some p =>
      obtain ⟨l', te'⟩ := p
      simp only [AV.at, AV.lab, Option.some.injEq, Prod.mk.injEq] at h ⊢
      obtain ⟨rfl, rfl⟩ := h
      exact ⟨rfl, l', rfl, rfl⟩
  | _ => simp [AV.at, AV.lab] at h

theorem Rd.at {w : World} {S : Stable} {v : Value} {r : AV} (h : Rd w S v r) (d : Nat) : Rd w S v (r.at d) := by
  cases r with
  | dat s x o => cases o <;> first | exact h | exact h.relab (some (d, _))
  | _ => exact h

/-- What a call has handed back, put into its slot. -/
theorem R.called (h : R base w0 S0 S fr a w) {d : Nat} (hd : d < a.tmps.size) {w' : World} {S' : Stable} {v : Value} {r : AV} (g : Grew w S w' S') (hr : ResRd (· < w.heap.size) w' S' v r) :
    R base w0 S0 S' (fr.put d (r.at d)) (a.put (some d) v) w' := by
  refine h.fresh hd g (hr.rd.at d) ?_ ?_ ?_
  · intro s x e
    cases r with
    | box s' x' => exact hr.nb _ _ rfl
    | dat s' x' o => cases o <;> simp [AV.at] at e
    | _ => simp [AV.at] at e
  · intro s p e
    cases r with
    | badr s' p' => exact hr.np _ _ rfl
    | dat s' x' o => cases o <;> simp [AV.at] at e
    | _ => simp [AV.at] at e
  · intro l te he
    obtain ⟨rfl, l', hl⟩ := at_lab he
    obtain ⟨e, x, h1, h2⟩ := hr.own l' te hl
    exact ⟨rfl, e, x, by rw [h1]; rfl, h2⟩
end
end Go.Av
