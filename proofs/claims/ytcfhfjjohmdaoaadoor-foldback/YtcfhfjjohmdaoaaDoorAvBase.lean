/-
  A functional reading of the translated code: data by shape, and what it means that cells of the machine's memory read as data.
-/
import Derived.Below
import Derived.Laws.OwnMore
import Derived.Maps.AppendAt
import Derived.Deep.Draws
import Derived.WalkKit
namespace Go.Av
open Go.RowKit

/-- The shapes of data. -/
inductive Sh where
  | bool
  | byte
  | int (k : IntKind)
  | str
  | sl (e : Sh)
  | unit
  | pair (a b : Sh)
  | arr (n : Nat) (e : Sh)
  deriving DecidableEq, Inhabited

@[reducible] def Den : Sh → Type
  | .bool => Bool
  | .byte => UInt8
  | .int _ => Int
  | .str => List UInt8
  | .sl e => List (Den e)
  | .unit => Unit
  | .pair a b => Den a × Den b
  | .arr _ e => List (Den e)

def Sh.size : Sh → Nat
  | .unit => 0
  | .pair a b => a.size + b.size
  | .arr n e => n * e.size
  | _ => 1

def Sh.agg : Sh → Bool
  | .unit | .pair _ _ | .arr _ _ => true
  | _ => false

def dflt : (s : Sh) → Den s
  | .bool => false
  | .byte => (0 : UInt8)
  | .int _ => (0 : Int)
  | .str => []
  | .sl _ => []
  | .unit => ()
  | .pair a b => (dflt a, dflt b)
  | .arr n e => List.replicate n (dflt e)

/-- Which cells are stable: block, place. -/
abbrev Stable := Nat → Nat → Prop

/-- The cells from an address on are stable and hold the values. -/
def MemAt (w : World) (S : Stable) (ad : Addr) (vs : List Value) : Prop :=
  ad.spot = none ∧ ∀ (i : Nat) (v : Value), vs[i]? = some v → S ad.block (ad.off + i) ∧ w.cell? ⟨ad.block, ad.off + i, none⟩ = some v

/-- Cells that read as a list, element by element. -/
def Chunks {α : Type} (R : α → List Value → Prop) : List α → List Value → Prop
  | [], vs => vs = []
  | x :: xs, vs => ∃ v1 v2, vs = v1 ++ v2 ∧ R x v1 ∧ Chunks R xs v2

/-- Cells that read as data. -/
def RdC (w : World) (S : Stable) : (s : Sh) → Den s → List Value → Prop
  | .bool, b, vs => vs = [.bool b]
  | .byte, b, vs => vs = [.int .u8 (UInt8.toNat b : Nat)]
  | .int k, n, vs => vs = [.int k n]
  | .str, s, vs => ∃ b : ByteArray, vs = [.string b] ∧ b.data.toList = s
  | .sl e, l, vs => ∃ A cap cs, vs = [.slice A l.length cap] ∧ l.length ≤ cap ∧ Chunks (RdC w S e) l cs ∧ (cs ≠ [] → ∃ ad, A = some ad ∧ MemAt w S ad cs)
  | .unit, _, vs => vs = []
  | .pair a b, x, vs => ∃ v1 v2, vs = v1 ++ v2 ∧ RdC w S a x.1 v1 ∧ RdC w S b x.2 v2
  | .arr n e, l, vs => l.length = n ∧ Chunks (RdC w S e) l vs

/-- A value that reads as data. -/
def RdV (w : World) (S : Stable) (s : Sh) (x : Den s) (v : Value) : Prop :=
  if s.agg then ∃ cs, v = .agg cs ∧ RdC w S s x cs.toList else RdC w S s x [v]

/-- What was stable stays, and holds what it held. -/
def Keeps (w : World) (S : Stable) (w' : World) (S' : Stable) : Prop :=
  ∀ b o, S b o → S' b o ∧ w'.cell? ⟨b, o, none⟩ = w.cell? ⟨b, o, none⟩

theorem Keeps.refl (w : World) (S : Stable) : Keeps w S w S := fun _ _ h => ⟨h, rfl⟩
theorem Keeps.trans {w w1 w2 : World} {S S1 S2 : Stable} (h : Keeps w S w1 S1) (k : Keeps w1 S1 w2 S2) : Keeps w S w2 S2 :=
  fun b o hs => ⟨(k b o (h b o hs).1).1, (k b o (h b o hs).1).2.trans (h b o hs).2⟩

theorem MemAt.keeps {w w' : World} {S S' : Stable} {ad : Addr} {vs : List Value} (h : MemAt w S ad vs) (hk : Keeps w S w' S') : MemAt w' S' ad vs :=
  ⟨h.1, fun i v hi => ⟨(hk _ _ (h.2 i v hi).1).1, (hk _ _ (h.2 i v hi).1).2.trans (h.2 i v hi).2⟩⟩

section chunks
variable {α : Type} {R R' : α → List Value → Prop}
theorem Chunks.mono (h : ∀ x vs, R x vs → R' x vs) : ∀ {l : List α} {vs : List Value}, Chunks R l vs → Chunks R' l vs
  | [], _, hc => hc
  | _ :: _, _, ⟨v1, v2, e, h1, h2⟩ => ⟨v1, v2, e, h _ _ h1, Chunks.mono h h2⟩
theorem Chunks.append : ∀ {l m : List α} {vs us : List Value}, Chunks R l vs → Chunks R m us → Chunks R (l ++ m) (vs ++ us)
  | [], _, _, _, h, k => by
    have h' : _ = [] := h
    subst h'
    exact k
  | _ :: _, _, _, us, ⟨v1, v2, e, h1, h2⟩, k => ⟨v1, v2 ++ us, by rw [e, List.append_assoc], h1, Chunks.append h2 k⟩
theorem Chunks.split : ∀ {l m : List α} {vs : List Value}, Chunks R (l ++ m) vs → ∃ v1 v2, vs = v1 ++ v2 ∧ Chunks R l v1 ∧ Chunks R m v2
  | [], _, vs, h => ⟨[], vs, rfl, rfl, h⟩
  | _ :: _, _, _, ⟨v1, v2, e, h1, h2⟩ => by
    obtain ⟨u1, u2, e2, k1, k2⟩ := Chunks.split h2
    exact ⟨v1 ++ u1, u2, by rw [e, e2, List.append_assoc], ⟨v1, u1, rfl, h1, k1⟩, k2⟩
theorem Chunks.length {k : Nat} (hR : ∀ x vs, R x vs → vs.length = k) : ∀ {l : List α} {vs : List Value}, Chunks R l vs → vs.length = l.length * k
  | [], _, h => by have h' : _ = [] := h; simp [h']
  | _ :: _, _, ⟨v1, v2, e, h1, h2⟩ => by rw [e, List.length_append, hR _ _ h1, Chunks.length hR h2, List.length_cons, Nat.add_mul]; omega
theorem Chunks.take {k : Nat} (hR : ∀ x vs, R x vs → vs.length = k) {l : List α} {vs : List Value} (n : Nat) (h : Chunks R l vs) (hn : n ≤ l.length) : Chunks R (l.take n) (vs.take (n * k)) := by
  have h' := h
  rw [← List.take_append_drop n l] at h'
  obtain ⟨v1, v2, rfl, k1, k2⟩ := Chunks.split h'
  have h1 := Chunks.length hR k1
  rw [List.length_take, Nat.min_eq_left hn] at h1
  rw [List.take_left' h1]
  exact k1
theorem Chunks.drop {k : Nat} (hR : ∀ x vs, R x vs → vs.length = k) {l : List α} {vs : List Value} (n : Nat) (h : Chunks R l vs) (hn : n ≤ l.length) : Chunks R (l.drop n) (vs.drop (n * k)) := by
  have h' := h
  rw [← List.take_append_drop n l] at h'
  obtain ⟨v1, v2, rfl, k1, k2⟩ := Chunks.split h'
  have h1 := Chunks.length hR k1
  rw [List.length_take, Nat.min_eq_left hn] at h1
  rw [List.drop_left' h1]
  exact k2
theorem Chunks.single {x : α} {vs : List Value} (h : R x vs) : Chunks R [x] vs := ⟨vs, [], by simp, h, rfl⟩
theorem Chunks.one {x : α} {vs : List Value} (h : Chunks R [x] vs) : R x vs := by
  obtain ⟨v1, v2, rfl, h1, h2⟩ := h
  have h' : v2 = [] := h2
  subst h'
  simpa using h1
theorem Chunks.at {k : Nat} (hR : ∀ x vs, R x vs → vs.length = k) {l : List α} {vs : List Value} (n : Nat) (h : Chunks R l vs) (hn : n < l.length) : R l[n] ((vs.drop (n * k)).take k) := by
  have h1 := Chunks.drop hR n h (Nat.le_of_lt hn)
  have h2 := Chunks.take hR 1 h1 (by simp; omega)
  rw [Nat.one_mul, List.drop_eq_getElem_cons hn] at h2
  exact Chunks.one h2
end chunks

theorem RdC.length {w : World} {S : Stable} : ∀ (s : Sh) (x : Den s) (vs : List Value), RdC w S s x vs → vs.length = s.size
  | .bool, _, _, h => by simp only [RdC] at h; simp [h, Sh.size]
  | .byte, _, _, h => by simp only [RdC] at h; simp [h, Sh.size]
  | .int _, _, _, h => by simp only [RdC] at h; simp [h, Sh.size]
  | .str, _, _, h => by simp only [RdC] at h; obtain ⟨b, h, _⟩ := h; simp [h, Sh.size]
  | .sl _, _, _, h => by simp only [RdC] at h; obtain ⟨_, _, _, h, _⟩ := h; simp [h, Sh.size]
  | .unit, _, _, h => by simp only [RdC] at h; simp [h, Sh.size]
  | .pair a b, _, _, h => by
    simp only [RdC] at h
    obtain ⟨v1, v2, e, h1, h2⟩ := h
    rw [e, List.length_append, RdC.length a _ _ h1, RdC.length b _ _ h2, Sh.size]
  | .arr n e, l, vs, h => by
    simp only [RdC] at h
    rw [Chunks.length (RdC.length e) h.2, h.1, Sh.size]

theorem RdC.keeps {w w' : World} {S S' : Stable} (hk : Keeps w S w' S') : ∀ (s : Sh) (x : Den s) (vs : List Value), RdC w S s x vs → RdC w' S' s x vs
  | .bool, _, _, h => by simpa only [RdC] using h
  | .byte, _, _, h => by simpa only [RdC] using h
  | .int _, _, _, h => by simpa only [RdC] using h
  | .str, _, _, h => by simpa only [RdC] using h
  | .sl e, _, _, h => by
    simp only [RdC] at h ⊢
    obtain ⟨A, cap, cs, h1, h2, h3, h4⟩ := h
    exact ⟨A, cap, cs, h1, h2, h3.mono (RdC.keeps hk e), fun h0 => by obtain ⟨ad, e, hl⟩ := h4 h0; exact ⟨ad, e, hl.keeps hk⟩⟩
  | .unit, _, _, h => by simpa only [RdC] using h
  | .pair a b, _, _, h => by
    simp only [RdC] at h ⊢
    obtain ⟨v1, v2, e, h1, h2⟩ := h
    exact ⟨v1, v2, e, RdC.keeps hk a _ _ h1, RdC.keeps hk b _ _ h2⟩
  | .arr n e, l, vs, h => by
    simp only [RdC] at h ⊢
    exact ⟨h.1, h.2.mono (RdC.keeps hk e)⟩

theorem Chunks.oneCell {α : Type} {R : α → List Value → Prop} (hR : ∀ x vs, R x vs → ∀ u ∈ vs, u.oneCell' = true) : ∀ {l : List α} {vs : List Value}, Chunks R l vs → ∀ u ∈ vs, u.oneCell' = true
  | [], _, h, u, hu => by have h' : _ = [] := h; subst h'; cases hu
  | _ :: _, _, ⟨v1, v2, e, h1, h2⟩, u, hu => by
    subst e
    rcases List.mem_append.1 hu with hu | hu
    · exact hR _ _ h1 u hu
    · exact Chunks.oneCell hR h2 u hu

theorem RdC.oneCell {w : World} {S : Stable} : ∀ (s : Sh) (x : Den s) (vs : List Value), RdC w S s x vs → ∀ u ∈ vs, u.oneCell' = true
  | .bool, _, _, h => by simp only [RdC] at h; simp [h, Value.oneCell']
  | .byte, _, _, h => by simp only [RdC] at h; simp [h, Value.oneCell']
  | .int _, _, _, h => by simp only [RdC] at h; simp [h, Value.oneCell']
  | .str, _, _, h => by simp only [RdC] at h; obtain ⟨b, h, _⟩ := h; simp [h, Value.oneCell']
  | .sl _, _, _, h => by simp only [RdC] at h; obtain ⟨_, _, _, h, _⟩ := h; simp [h, Value.oneCell']
  | .unit, _, _, h => by simp only [RdC] at h; simp [h]
  | .pair a b, _, _, h => by
    simp only [RdC] at h
    obtain ⟨v1, v2, e, h1, h2⟩ := h
    intro u hu
    subst e
    rcases List.mem_append.1 hu with hu | hu
    · exact RdC.oneCell a _ _ h1 u hu
    · exact RdC.oneCell b _ _ h2 u hu
  | .arr n e, l, vs, h => by
    simp only [RdC] at h
    exact Chunks.oneCell (RdC.oneCell e) h.2

theorem RdV.keeps {w w' : World} {S S' : Stable} (hk : Keeps w S w' S') {s : Sh} {x : Den s} {v : Value} (h : RdV w S s x v) : RdV w' S' s x v := by
  unfold RdV at *
  split at h
  · rename_i ha
    rw [if_pos ha]
    obtain ⟨cs, e, hc⟩ := h
    exact ⟨cs, e, RdC.keeps hk s x _ hc⟩
  · rename_i ha
    rw [if_neg ha]
    exact RdC.keeps hk s x _ h

/-- The cells of a value that reads as data. -/
theorem RdV.cells {w : World} {S : Stable} {s : Sh} {x : Den s} {v : Value} (h : RdV w S s x v) : RdC w S s x v.cells.toList := by
  unfold RdV at h
  split at h
  · obtain ⟨cs, rfl, hc⟩ := h
    exact hc
  · have h1 := RdC.oneCell s x _ h v (by simp)
    cases v <;> first | exact h | simp [Value.oneCell'] at h1

end Go.Av
