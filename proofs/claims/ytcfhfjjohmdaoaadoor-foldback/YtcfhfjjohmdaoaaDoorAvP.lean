/-
  Private trees: what a slot owns alone, down to its rows; how a part of one is taken out and put back.
-/
import Derived.Test.YtcfhfjjohmdaoaaDoorAvCodeC
namespace Go.Av
open Go.RowKit

/-- Cells, from a place on. -/
abbrev Rdr := Nat → Option Value
def blkR (w : World) (g o : Nat) : Rdr := fun i => w.cell? ⟨g, o + i, none⟩
def valR (v : Value) : Rdr := fun i => v.cells[i]?

def PSh.size : PSh → Nat
  | .leaf s => s.size
  | .osl _ _ => 1
  | .psl _ _ => 1
  | .ppair a b => a.size + b.size
  | .parr n e => n * e.size

theorem PSh.size_eq : ∀ p : PSh, p.sh.size = p.size
  | .leaf _ => rfl
  | .osl _ _ => rfl
  | .psl _ _ => rfl
  | .ppair a b => by simp only [Sh.size, PSh.size, PSh.size_eq a, PSh.size_eq b]
  | .parr _ _ => rfl

/-- A row that is owned: its cells are stable as far as it goes. -/
structure OwnR (w : World) (S : Stable) (te : TypeId) (e : Sh) (v : Value) (l : List (Den e)) (F : Nat → Prop) : Prop where
  row : ∃ xs, w.ownsRow 0 te e.size v l.length xs ∧ Chunks (RdC w S e) l xs
  fp : ∀ b, F b ↔ v.ownBlock = some b
  st : ∀ b, F b → ∀ o, (S b o ↔ o < l.length * e.size)

/-- A private row: nothing of it is stable; its elements read one by one. -/
def PRow {α : Type} (w : World) (S : Stable) (te : TypeId) (Re : Rdr → α → (Nat → Prop) → Prop) (k : Nat) (v : Value) (l : List α) (F : Nat → Prop) : Prop :=
  (v = .slice none 0 0 ∧ l = [] ∧ ∀ b, ¬ F b) ∨
  ∃ (g cap : Nat) (cur : Array Value) (Fe : Nat → Nat → Prop), v = .slice (some ⟨g, 0, none⟩) l.length cap ∧ w.heap[g]? = some (.cells cur te (0, 0)) ∧ l.length ≤ cap ∧ cap ≤ maxLen ∧ cur.size = cap * k ∧ (∀ o, ¬ S g o) ∧
    (∀ n x, l[n]? = some x → Re (blkR w g (n * k)) x (Fe n)) ∧ (∀ n b, l.length ≤ n → ¬ Fe n b) ∧ (∀ n m b, n ≠ m → Fe n b → ¬ Fe m b) ∧ (∀ n b, Fe n b → b ≠ g) ∧ ∀ b, F b ↔ b = g ∨ ∃ n, Fe n b

/-- Cells that read as a private tree; the blocks that it owns. -/
def PM (w : World) (S : Stable) : (p : PSh) → Rdr → Den p.sh → (Nat → Prop) → Prop
  | .leaf s, rd, x, F => (∀ b, ¬ F b) ∧ ∃ cs, RdC w S s x cs ∧ ∀ (i : Nat) (v : Value), cs[i]? = some v → rd i = some v
  | .osl te e, rd, l, F => ∃ v, rd 0 = some v ∧ OwnR w S te e v l F
  | .psl te e, rd, l, F => ∃ v, rd 0 = some v ∧ PRow w S te (PM w S e) e.size v l F
  | .ppair a b, rd, x, F => ∃ F1 F2 : Nat → Prop, PM w S a rd x.1 F1 ∧ PM w S b (fun i => rd (a.size + i)) x.2 F2 ∧ (∀ k, F1 k → ¬ F2 k) ∧ ∀ k, F k ↔ F1 k ∨ F2 k
  | .parr n e, rd, x, F => (∀ b, ¬ F b) ∧ ∃ cs, RdC w S (.arr n e) x cs ∧ ∀ (i : Nat) (v : Value), cs[i]? = some v → rd i = some v

theorem PM.congrF {w : World} {S : Stable} {p : PSh} {rd : Rdr} {x : Den p.sh} {F F' : Nat → Prop} (h : PM w S p rd x F) (e : ∀ b, F b ↔ F' b) : PM w S p rd x F' := by
  obtain rfl : F = F' := funext fun b => propext (e b)
  exact h

theorem ownsRow_block {w w' : World} {te : TypeId} {k n : Nat} {v : Value} {xs : List Value} (h : w.ownsRow 0 te k v n xs) (hb : ∀ b, v.ownBlock = some b → w'.heap[b]? = w.heap[b]?) : w'.ownsRow 0 te k v n xs := by
  refine ⟨h.1, ?_⟩
  rcases h.2 with h | ⟨g, cap, cur, rfl, h1, h2, h3⟩
  · exact .inl h
  · exact .inr ⟨g, cap, cur, rfl, h1, (hb g rfl).trans h2, h3⟩

theorem OwnR.step {w w' : World} {S S' : Stable} {te : TypeId} {e : Sh} {v : Value} {l : List (Den e)} {F : Nat → Prop} (h : OwnR w S te e v l F) (hk : Keeps w S w' S')
    (hb : ∀ b, F b → w'.heap[b]? = w.heap[b]?) (hs : ∀ b o, F b → (S' b o ↔ S b o)) : OwnR w' S' te e v l F := by
  obtain ⟨⟨xs, h1, h2⟩, h3, h4⟩ := h
  exact ⟨⟨xs, ownsRow_block h1 (fun b e => hb b ((h3 b).2 e)), h2.mono (RdC.keeps hk e)⟩, h3, fun b hF o => (hs b o hF).trans (h4 b hF o)⟩

theorem blkR_block {w w' : World} {g : Nat} (h : w'.heap[g]? = w.heap[g]?) (o i : Nat) : blkR w' g o i = blkR w g o i := by simp [blkR, World.cell?, h]

/-- All else may turn. -/
theorem PM.step {w w' : World} {S S' : Stable} (hk : Keeps w S w' S') : ∀ (p : PSh) (rd rd' : Rdr) (x : Den p.sh) (F : Nat → Prop), PM w S p rd x F → (∀ i, i < p.size → rd' i = rd i) →
    (∀ b, F b → w'.heap[b]? = w.heap[b]?) → (∀ b o, F b → (S' b o ↔ S b o)) → PM w' S' p rd' x F
  | .leaf s, rd, rd', x, F, h, hr, hb, hs => by
    simp only [PM] at h ⊢
    obtain ⟨h0, cs, h1, h2⟩ := h
    refine ⟨h0, cs, RdC.keeps hk s x cs h1, fun i v hv => ?_⟩
    have hl := RdC.length _ _ _ h1
    have hlt := (List.getElem?_eq_some_iff.1 hv).1
    rw [hr i (by simp only [PSh.size]; omega)]
    exact h2 i v hv
  | .osl te e, rd, rd', l, F, h, hr, hb, hs => by
    simp only [PM] at h ⊢
    obtain ⟨v, h1, h2⟩ := h
    exact ⟨v, (hr 0 (by simp [PSh.size])).trans h1, h2.step hk hb hs⟩
  | .psl te e, rd, rd', l, F, h, hr, hb, hs => by
    simp only [PM] at h ⊢
    obtain ⟨v, h1, h2⟩ := h
    refine ⟨v, (hr 0 (by simp [PSh.size])).trans h1, ?_⟩
    rcases h2 with h2 | ⟨g, cap, cur, Fe, k1, k2, k3, k4, k5, k6, k7, k8, k9, k10, k11⟩
    · exact .inl h2
    · have hg := hb g ((k11 g).2 (.inl rfl))
      refine .inr ⟨g, cap, cur, Fe, k1, hg.trans k2, k3, k4, k5, fun o ho => k6 o ((hs g o ((k11 g).2 (.inl rfl))).1 ho), fun n x hn => ?_, k8, k9, k10, k11⟩
      exact PM.step hk e _ _ x (Fe n) (k7 n x hn) (fun i _ => blkR_block hg _ i) (fun b hF => hb b ((k11 b).2 (.inr ⟨n, hF⟩))) (fun b o hF => hs b o ((k11 b).2 (.inr ⟨n, hF⟩)))
  | .ppair a b, rd, rd', x, F, h, hr, hb, hs => by
    simp only [PM] at h ⊢
    obtain ⟨F1, F2, h1, h2, h3, h4⟩ := h
    refine ⟨F1, F2, PM.step hk a _ _ x.1 F1 h1 (fun i hi => hr i (by simp only [PSh.size]; omega)) (fun k hF => hb k ((h4 k).2 (.inl hF))) (fun k o hF => hs k o ((h4 k).2 (.inl hF))),
      PM.step hk b _ _ x.2 F2 h2 (fun i hi => hr _ (by simp only [PSh.size]; omega)) (fun k hF => hb k ((h4 k).2 (.inr hF))) (fun k o hF => hs k o ((h4 k).2 (.inr hF))), h3, h4⟩
  | .parr n e, rd, rd', x, F, h, hr, hb, hs => by
    simp only [PM] at h ⊢
    obtain ⟨h0, cs, h1, h2⟩ := h
    refine ⟨h0, cs, RdC.keeps hk (.arr n e) x cs h1, fun i v hv => ?_⟩
    have hl := RdC.length _ _ _ h1
    have hlt := (List.getElem?_eq_some_iff.1 hv).1
    rw [hr i (by simp only [PSh.size]; simp only [Sh.size] at hl; omega)]
    exact h2 i v hv

theorem PM.lt {w : World} {S : Stable} : ∀ (p : PSh) (rd : Rdr) (x : Den p.sh) (F : Nat → Prop), PM w S p rd x F → ∀ b, F b → b < w.heap.size
  | .leaf s, rd, x, F, h, b, hF => by simp only [PM] at h; exact absurd hF (h.1 b)
  | .osl te e, rd, l, F, h, b, hF => by
    simp only [PM] at h
    obtain ⟨v, _, ⟨⟨xs, h1, _⟩, h2, _⟩⟩ := h
    exact (h1.lt b ((h2 b).1 hF)).2
  | .psl te e, rd, l, F, h, b, hF => by
    simp only [PM] at h
    obtain ⟨v, h1, h2⟩ := h
    rcases h2 with h2 | ⟨g, cap, cur, Fe, k1, k2, k3, k4, k5, k6, k7, k8, k9, k10, k11⟩
    · exact absurd hF (h2.2.2 b)
    · rcases (k11 b).1 hF with rfl | ⟨n, hn⟩
      · exact (Array.getElem?_eq_some_iff.1 k2).1
      · rcases Nat.lt_or_ge n l.length with hlt | hge
        · exact PM.lt e _ l[n] (Fe n) (k7 n _ (List.getElem?_eq_getElem hlt)) b hn
        · exact absurd hn (k8 n b hge)
  | .ppair a c, rd, x, F, h, b, hF => by
    simp only [PM] at h
    obtain ⟨F1, F2, h1, h2, h3, h4⟩ := h
    rcases (h4 b).1 hF with hF | hF
    · exact PM.lt a _ _ _ h1 b hF
    · exact PM.lt c _ _ _ h2 b hF
  | .parr n e, rd, x, F, h, b, hF => by simp only [PM] at h; exact absurd hF (h.1 b)

/-! ### Paths -/

def getPP : (p : PSh) → Den p.sh → List PStep → Option (Sigma fun p : PSh => Den p.sh)
  | .leaf s, x, r => match r with
    | [] => some ⟨.leaf s, x⟩
    | _ => none
  | .osl te e, x, r => match r with
    | [] => some ⟨.osl te e, x⟩
    | _ => none
  | .psl te e, l, r => match r with
    | [] => some ⟨.psl te e, l⟩
    | .idx n :: r => getPP e (List.getD l n (dflt e.sh)) r
    | _ => none
  | .ppair a b, x, r => match r with
    | [] => some ⟨.ppair a b, x⟩
    | .fld 0 :: r => getPP a x.1 r
    | .fld (i + 1) :: r => getPP b x.2 (.fld i :: r)
    | _ => none
  | .parr n e, l, r => match r with
    | [] => some ⟨.parr n e, l⟩
    | [.idx k] => some ⟨.leaf e, List.getD l k (dflt e)⟩
    | _ => none

def setPP : (p : PSh) → Den p.sh → List PStep → (q : PSh) → Den q.sh → Option (Den p.sh)
  | .leaf s, _, r, q, y => match r with
    | [] => if h : q = .leaf s then some (h ▸ y) else none
    | _ => none
  | .osl te e, _, r, q, y => match r with
    | [] => if h : q = .osl te e then some (h ▸ y) else none
    | _ => none
  | .psl te e, l, r, q, y => match r with
    | [] => if h : q = .psl te e then some (h ▸ y) else none
    | .idx n :: r => match setPP e (List.getD l n (dflt e.sh)) r q y with
      | some z => some (List.set l n z)
      | none => none
    | _ => none
  | .ppair a b, x, r, q, y => match r with
    | [] => if h : q = .ppair a b then some (h ▸ y) else none
    | .fld 0 :: r => match setPP a x.1 r q y with
      | some z => some (z, x.2)
      | none => none
    | .fld (i + 1) :: r => match setPP b x.2 (.fld i :: r) q y with
      | some z => some (x.1, z)
      | none => none
    | _ => none
  | .parr n e, l, r, q, y => match r with
    | [] => if h : q = .parr n e then some (h ▸ y) else none
    | [.idx k] => if h : q = .leaf e then some (List.set l k (show Den (PSh.leaf e).sh from h ▸ y)) else none
    | _ => none

/-- The indexes of a path are within. -/
def inPP : (p : PSh) → Den p.sh → List PStep → Prop
  | .leaf _, _, _ => True
  | .osl _ _, _, _ => True
  | .psl _ e, l, r => match r with
    | .idx n :: r => n < List.length l ∧ inPP e (List.getD l n (dflt e.sh)) r
    | _ => True
  | .ppair a b, x, r => match r with
    | .fld 0 :: r => inPP a x.1 r
    | .fld (i + 1) :: r => inPP b x.2 (.fld i :: r)
    | _ => True
  | .parr n _, _, r => match r with
    | .idx k :: _ => k < n
    | _ => True

/-- Where a tree's cells are: a value's own, or in a block from a place on. -/
inductive Spot where
  | val (v : Value)
  | blk (g o : Nat)
def Spot.rdr (w : World) : Spot → Rdr
  | .val v => valR v
  | .blk g o => blkR w g o
def Spot.block : Spot → Option Nat
  | .val _ => none
  | .blk g _ => some g

/-- Where a path leads to in memory. -/
def locP (w : World) : PSh → Spot → List PStep → Option (PSh × Spot)
  | .leaf s, c, r => match r with
    | [] => some (.leaf s, c)
    | _ => none
  | .osl te e, c, r => match r with
    | [] => some (.osl te e, c)
    | _ => none
  | .psl te e, c, r => match r with
    | [] => some (.psl te e, c)
    | .idx n :: r => match c.rdr w 0 with
      | some (.slice (some ad) _ _) => locP w e (.blk ad.block (n * e.size)) r
      | _ => none
    | _ => none
  | .ppair a b, c, r => match r with
    | [] => some (.ppair a b, c)
    | .fld 0 :: r => match c with
      | .blk g o => locP w a (.blk g o) r
      | _ => none
    | .fld (i + 1) :: r => match c with
      | .blk g o => locP w b (.blk g (o + a.size)) (.fld i :: r)
      | _ => none
    | _ => none
  | .parr n e, c, r => match r with
    | [] => some (.parr n e, c)
    | [.idx k] => match c with
      | .blk g o => some (.leaf e, .blk g (o + k * e.size))
      | _ => none
    | _ => none

/-- The blocks that are read on the way. -/
def spineP (w : World) : PSh → Spot → List PStep → List Nat
  | .leaf _, _, _ => []
  | .osl _ _, _, _ => []
  | .psl _ e, c, r => match r with
    | .idx n :: r => match c.rdr w 0 with
      | some (.slice (some ad) _ _) => c.block.toList ++ spineP w e (.blk ad.block (n * e.size)) r
      | _ => []
    | _ => []
  | .ppair a b, c, r => match r with
    | .fld 0 :: r => match c with
      | .blk g o => spineP w a (.blk g o) r
      | _ => []
    | .fld (i + 1) :: r => match c with
      | .blk g o => spineP w b (.blk g (o + a.size)) (.fld i :: r)
      | _ => []
    | _ => []
  | .parr _ _, _, _ => []

theorem rdr_block {w w' : World} {c : Spot} (h : ∀ g, c.block = some g → w'.heap[g]? = w.heap[g]?) (i : Nat) : c.rdr w' i = c.rdr w i := by
  cases c with
  | val v => rfl
  | blk g o => exact blkR_block (h g rfl) o i

theorem locP_same {w w' : World} : ∀ (p : PSh) (c : Spot) (r : List PStep) (q : PSh × Spot), locP w p c r = some q → (∀ g, g ∈ spineP w p c r → w'.heap[g]? = w.heap[g]?) → locP w' p c r = some q ∧ spineP w' p c r = spineP w p c r
  | .leaf s, c, r, q, h, _ => by
    cases r with
    | nil => exact ⟨h, rfl⟩
    | cons a r => exact ⟨h, rfl⟩
  | .osl te e, c, r, q, h, _ => by
    cases r with
    | nil => exact ⟨h, rfl⟩
    | cons a r => exact ⟨h, rfl⟩
  | .psl te e, c, r, q, h, hs => by
    match r, h, hs with
    | [], h, _ => exact ⟨h, rfl⟩
    | .fld i :: r, h, _ => simp [locP] at h
    | .idx n :: r, h, hs =>
      simp only [locP] at h
      split at h
      · rename_i ad x1 x2 hr
        simp only [spineP, hr] at hs
        have h0 : c.rdr w' 0 = some (.slice (some ad) x1 x2) := by
          rw [rdr_block (fun g hg => hs g (List.mem_append.2 (.inl (by rw [hg]; simp)))), hr]
        obtain ⟨k1, k2⟩ := locP_same e _ r q h (fun g hg => hs g (List.mem_append.2 (.inr hg)))
        constructor
        · simp only [locP, h0]; exact k1
        · simp only [spineP, h0, hr, k2]
      · cases h
  | .ppair a b, c, r, q, h, hs => by
    match r, h, hs with
    | [], h, _ => exact ⟨h, rfl⟩
    | .idx i :: r, h, _ => simp [locP] at h
    | .fld 0 :: r, h, hs =>
      cases c with
      | val v => simp [locP] at h
      | blk g o =>
        simp only [locP] at h ⊢
        simp only [spineP] at hs ⊢
        exact locP_same a _ r q h hs
    | .fld (i + 1) :: r, h, hs =>
      cases c with
      | val v => simp [locP] at h
      | blk g o =>
        simp only [locP] at h ⊢
        simp only [spineP] at hs ⊢
        exact locP_same b _ _ q h hs
  | .parr n e, c, r, q, h, _ => by
    match r, h with
    | [], h => exact ⟨h, rfl⟩
    | [.idx k], h => cases c <;> exact ⟨h, rfl⟩
    | .fld i :: r, h => simp [locP] at h
    | .idx k :: _ :: _, h => simp [locP] at h

/-- A block is as it was but for some cells. -/
def SameBut (w w' : World) (c : Spot) (k : Nat) : Prop :=
  match c with
  | .val _ => True
  | .blk g o => ∃ (cur cur' : Array Value) (te : TypeId) (fz : Nat × Nat), w.heap[g]? = some (.cells cur te fz) ∧ w'.heap[g]? = some (.cells cur' te fz) ∧ cur'.size = cur.size ∧ ∀ i, (i < o ∨ o + k ≤ i) → cur'[i]? = cur[i]?

theorem SameBut.cell {w w' : World} {g o k : Nat} (h : SameBut w w' (.blk g o) k) (j : Nat) (hj : j < o ∨ o + k ≤ j) : w'.cell? ⟨g, j, none⟩ = w.cell? ⟨g, j, none⟩ := by
  obtain ⟨cur, cur', te, fz, h1, h2, h3, h4⟩ := h
  simp only [World.cell?, h1, h2, Option.isSome_none, Bool.false_eq_true, if_false]
  exact h4 j hj

/-- What a part that is taken out leaves: it may be put back, or something else in its place. -/
def Wand (w : World) (S : Stable) (p : PSh) (c : Spot) (x : Den p.sh) (r : List PStep) (q : PSh) (c' : Spot) (F : Nat → Prop) : Prop :=
  ∀ (w' : World) (S' : Stable) (y' : Den q.sh) (Fq' : Nat → Prop), Keeps w S w' S' → (∀ b, F b → some b ≠ c'.block → w'.heap[b]? = w.heap[b]?) → SameBut w w' c' q.size →
    (∀ g, c.block = some g → c'.block ≠ some g → w'.heap[g]? = w.heap[g]?) → (∀ b o, F b → (S' b o ↔ S b o)) → PM w' S' q (c'.rdr w') y' Fq' → (∀ b, Fq' b → ¬ F b) → (∀ g, c'.block = some g → ¬ Fq' g) →
    (∀ g, c.block = some g → ¬ Fq' g) → ∃ x', setPP p x r q y' = some x' ∧ PM w' S' p (c.rdr w') x' (fun b => Fq' b ∨ F b)

/-- What is known of a part. -/
structure Focus (w : World) (S : Stable) (p : PSh) (c : Spot) (x : Den p.sh) (F : Nat → Prop) (r : List PStep) (q : PSh) (y : Den q.sh) (c' : Spot) (Fq : Nat → Prop) : Prop where
  part : PM w S q (c'.rdr w) y Fq
  sub : ∀ b, Fq b → F b
  out : ∀ g, c'.block = some g → ¬ Fq g
  blk : ∀ g, c'.block = some g → F g ∨ c.block = some g
  spine : ∀ g, g ∈ spineP w p c r → (F g ∧ ¬ Fq g) ∨ c.block = some g
  top : r = [] → c' = c
  range : ∀ g o g' o', c = .blk g o → c' = .blk g' o' → g' = g → o ≤ o' ∧ o' + q.size ≤ o + p.size
  uns : ∀ g, c'.block = some g → c.block = some g ∨ ((∀ o, ¬ S g o) ∧ ∃ (cur : Array Value) (te : TypeId), w.heap[g]? = some (.cells cur te (0, 0)))
  back : Wand w S p c x r q c' (fun b => F b ∧ ¬ Fq b)

theorem PM.focus {w : World} {S : Stable} : ∀ (p : PSh) (c : Spot) (x : Den p.sh) (F : Nat → Prop) (r : List PStep) (q : PSh) (y : Den q.sh), PM w S p (c.rdr w) x F → getPP p x r = some ⟨q, y⟩ → inPP p x r →
    (∀ g, c.block = some g → ¬ F g) → (∀ v, c = .val v → r = [] ∨ ∃ te e, p = .psl te e) → ∃ c' Fq, locP w p c r = some (q, c') ∧ Focus w S p c x F r q y c' Fq := by
  have base : ∀ (p : PSh) (c : Spot) (x : Den p.sh) (F : Nat → Prop), PM w S p (c.rdr w) x F → (∀ g, c.block = some g → ¬ F g) → (∀ y' : Den p.sh, setPP p x [] p y' = some y') → spineP w p c [] = [] →
      Focus w S p c x F [] p x c F := fun p c x F h hc hset hsp => {
    part := h
    sub := fun _ hb => hb
    out := hc
    blk := fun g hg => .inr hg
    spine := fun g hg => by rw [hsp] at hg; cases hg
    top := fun _ => rfl
    range := fun g o g' o' e e' _ => by
      rw [e] at e'
      cases e'
      exact ⟨Nat.le_refl _, Nat.le_refl _⟩
    uns := fun g hg => .inl hg
    back := fun w' S' y' Fq' _ _ _ _ _ hp _ _ _ => ⟨y', hset y', hp.congrF fun b => ⟨.inl, fun hh => hh.elim id (fun hh => absurd hh.1 hh.2)⟩⟩ }
  intro p
  induction p with
  | leaf s =>
    intro c x F r q y h hg _ hc _
    cases r with
    | nil =>
      simp only [getPP, Option.some.injEq, Sigma.mk.injEq] at hg
      obtain ⟨rfl, hg⟩ := hg
      obtain rfl := eq_of_heq hg
      exact ⟨c, F, rfl, base _ c x F h hc (fun y' => by simp [setPP]) rfl⟩
    | cons a r => simp [getPP] at hg
  | osl te e =>
    intro c x F r q y h hg _ hc _
    cases r with
    | nil =>
      simp only [getPP, Option.some.injEq, Sigma.mk.injEq] at hg
      obtain ⟨rfl, hg⟩ := hg
      obtain rfl := eq_of_heq hg
      exact ⟨c, F, rfl, base _ c x F h hc (fun y' => by simp [setPP]) rfl⟩
    | cons a r => simp [getPP] at hg
  | psl te e ih =>
    intro c l F r q y h hg hin hc hv
    match r, hg, hin with
    | [], hg, _ =>
      simp only [getPP, Option.some.injEq, Sigma.mk.injEq] at hg
      obtain ⟨rfl, hg⟩ := hg
      obtain rfl := eq_of_heq hg
      exact ⟨c, F, rfl, base _ c l F h hc (fun y' => by simp [setPP]) rfl⟩
    | .fld i :: r, hg, _ => simp [getPP] at hg
    | .idx n :: r, hg, hin =>
      simp only [getPP] at hg
      simp only [inPP] at hin
      obtain ⟨hn, hin⟩ := hin
      simp only [PM] at h
      obtain ⟨v, h1, h2⟩ := h
      rcases h2 with h2 | ⟨g, cap, cur, Fe, k1, k2, k3, k4, k5, k6, k7, k8, k9, k10, k11⟩
      · have : List.length l = 0 := by rw [h2.2.1]; rfl
        omega
      · have hgetD : List.getD l n (dflt e.sh) = l[n] := by simp [List.getD, hn]
        rw [hgetD] at hg hin
        have hFg : F g := (k11 g).2 (.inl rfl)
        obtain ⟨c', Fq, j1, j2⟩ := ih (.blk g (n * e.size)) l[n] (Fe n) r q y (k7 n _ (List.getElem?_eq_getElem hn)) hg hin (fun g' hg' hF => by
          simp only [Spot.block, Option.some.injEq] at hg'
          subst hg'
          exact k10 n g hF rfl) (fun v e => by cases e)
        have hr0 : c.rdr w 0 = some (.slice (some ⟨g, 0, none⟩) (List.length l) cap) := by rw [h1, k1]
        have hcblk : ∀ g', c'.block = some g' → F g' := fun g' hg' => by
          rcases j2.blk g' hg' with hF | hF
          · exact (k11 g').2 (.inr ⟨n, hF⟩)
          · simp only [Spot.block, Option.some.injEq] at hF
            subst hF
            exact hFg
        have hFqn : ∀ b, Fq b → Fe n b := j2.sub
        have hgFq : ¬ Fq g := fun hh => k10 n g (hFqn g hh) rfl
        have hcb : ∃ g' o', c' = .blk g' o' := by
          by_cases hr : r = []
          · exact ⟨g, _, j2.top hr⟩
          · cases c' with
            | blk g' o' => exact ⟨g', o', rfl⟩
            | val v' =>
              exfalso
              have : ∀ (p : PSh) (g o : Nat) (r : List PStep) (q : PSh) (v : Value), locP w p (.blk g o) r ≠ some (q, .val v) := by
                intro p
                induction p with
                | leaf s => intro g o r q v; cases r <;> simp [locP]
                | osl te e => intro g o r q v; cases r <;> simp [locP]
                | psl te e ih =>
                  intro g o r q v
                  match r with
                  | [] => simp [locP]
                  | .fld i :: r => simp [locP]
                  | .idx n :: r =>
                    simp only [locP]
                    split
                    · exact ih _ _ _ _ _
                    · simp
                | ppair a b iha ihb =>
                  intro g o r q v
                  match r with
                  | [] => simp [locP]
                  | .idx i :: r => simp [locP]
                  | .fld 0 :: r => simp only [locP]; exact iha _ _ _ _ _
                  | .fld (i + 1) :: r => simp only [locP]; exact ihb _ _ _ _ _
                | parr n e =>
                  intro g o r q v
                  match r with
                  | [] => simp [locP]
                  | [.idx k] => simp [locP]
                  | .fld i :: r => simp [locP]
                  | .idx k :: _ :: _ => simp [locP]
              exact this _ _ _ _ _ _ j1
        refine ⟨c', Fq, by simp only [locP, hr0]; exact j1, {
          part := j2.part
          sub := fun b hb => (k11 b).2 (.inr ⟨n, hFqn b hb⟩)
          out := j2.out
          blk := fun g' hg' => .inl (hcblk g' hg')
          spine := fun g' hg' => by
            simp only [spineP, hr0] at hg'
            rcases List.mem_append.1 hg' with hg' | hg'
            · right
              cases hcb' : c.block with
              | none => rw [hcb'] at hg'; simp at hg'
              | some g2 => rw [hcb'] at hg'; simp at hg'; rw [hg']
            · left
              rcases j2.spine g' hg' with hh | hh
              · exact ⟨(k11 g').2 (.inr ⟨n, hh.1⟩), hh.2⟩
              · simp only [Spot.block, Option.some.injEq] at hh
                subst hh
                exact ⟨hFg, hgFq⟩
          top := fun e => by cases e
          range := fun g1 o1 g' o' e1 e' e2 => by
            subst e1 e' e2
            exact absurd (hcblk _ rfl) (hc _ rfl)
          uns := fun g' hg' => by
            right
            rcases j2.uns g' hg' with hh | hh
            · simp only [Spot.block, Option.some.injEq] at hh
              subst hh
              exact ⟨k6, cur, te, k2⟩
            · exact hh
          back := ?_ }⟩
        intro w' S' y' Fq' hk hheap hsame hcsame hS hpm hdis hout hcout
        have hgS : F g ∧ ¬ Fq g := ⟨hFg, hgFq⟩
        obtain ⟨x1, m1, m2⟩ := j2.back w' S' y' Fq' hk (fun b hb hne => hheap b ⟨(k11 b).2 (.inr ⟨n, hb.1⟩), hb.2⟩ hne) hsame (fun g' hg' hne => by
            simp only [Spot.block, Option.some.injEq] at hg'
            subst hg'
            exact hheap g hgS (fun e => hne e.symm)) (fun b o hb => hS b o ⟨(k11 b).2 (.inr ⟨n, hb.1⟩), hb.2⟩) hpm
          (fun b hb hh => hdis b hb ⟨(k11 b).2 (.inr ⟨n, hh.1⟩), hh.2⟩) hout (fun g' hg' hh => by
            simp only [Spot.block, Option.some.injEq] at hg'
            subst hg'
            exact hdis g hh hgS)
        have hset : setPP (.psl te e) l (.idx n :: r) q y' = some (List.set l n x1) := by
          simp only [setPP]
          rw [hgetD, m1]
        refine ⟨_, hset, ?_⟩
        simp only [PM]
        refine ⟨v, ?_, .inr ?_⟩
        · rw [rdr_block (fun g' hg' => hcsame g' hg' (fun hh => hc g' hg' (hcblk g' hh))), h1]
        -- the block of the row
        have hrow : ∃ cur', w'.heap[g]? = some (.cells cur' te (0, 0)) ∧ cur'.size = cur.size := by
          by_cases hcg : c'.block = some g
          · obtain ⟨g', o', rfl⟩ := hcb
            simp only [Spot.block, Option.some.injEq] at hcg
            subst hcg
            obtain ⟨cu, cu', te', fz, e1, e2, e3, _⟩ := hsame
            rw [k2] at e1
            simp only [Option.some.injEq, Obj.cells.injEq] at e1
            obtain ⟨rfl, rfl, rfl⟩ := e1
            exact ⟨cu', e2, e3⟩
          · exact ⟨cur, (hheap g hgS (fun e => hcg e.symm)).trans k2, rfl⟩
        obtain ⟨cur', hc1, hc2⟩ := hrow
        refine ⟨g, cap, cur', fun m b => (m = n ∧ (Fq' b ∨ (Fe n b ∧ ¬ Fq b))) ∨ (m ≠ n ∧ Fe m b), by rw [List.length_set]; exact k1, hc1, by rw [List.length_set]; exact k3, k4, hc2.trans k5,
          fun o ho => k6 o ((hS g o hgS).1 ho), fun m xm hm => ?_, fun m b hm hh => ?_, fun m m' b hne h1' h2' => ?_, fun m b hh hbg => ?_, fun b => ?_⟩
        · rw [List.getElem?_set] at hm
          by_cases hmn : n = m
          · subst hmn
            rw [if_pos rfl, if_pos hn] at hm
            simp only [Option.some.injEq] at hm
            subst hm
            exact m2.congrF fun b => ⟨fun hh => .inl ⟨rfl, hh⟩, fun hh => hh.elim (·.2) (fun hh => absurd rfl hh.1)⟩
          · rw [if_neg hmn] at hm
            refine PM.congrF (F := Fe m) ?_ fun b => ⟨fun hh => .inr ⟨Ne.symm hmn, hh⟩, fun hh => hh.elim (fun hh => absurd hh.1.symm hmn) (·.2)⟩
            refine PM.step hk e _ _ xm (Fe m) (k7 m xm hm) (fun i hi => ?_) (fun b hb => ?_) (fun b o hb => hS b o ⟨(k11 b).2 (.inr ⟨m, hb⟩), fun hh => k9 n m b hmn (hFqn b hh) hb⟩)
            · by_cases hcg : c'.block = some g
              · obtain ⟨g', o', rfl⟩ := hcb
                simp only [Spot.block, Option.some.injEq] at hcg
                subst hcg
                obtain ⟨r1, r2⟩ := j2.range _ _ _ _ rfl rfl rfl
                refine hsame.cell _ ?_
                rcases Nat.lt_or_ge m n with hlt | hge
                · left
                  have : (m + 1) * e.size ≤ n * e.size := Nat.mul_le_mul_right _ hlt
                  rw [Nat.add_mul] at this
                  omega
                · right
                  have : (n + 1) * e.size ≤ m * e.size := Nat.mul_le_mul_right _ (by omega)
                  rw [Nat.add_mul] at this
                  omega
              · exact blkR_block (hheap g hgS (fun e => hcg e.symm)) _ i
            · refine hheap b ⟨(k11 b).2 (.inr ⟨m, hb⟩), fun hh => k9 n m b hmn (hFqn b hh) hb⟩ (fun hh => ?_)
              rcases j2.blk b hh.symm with hF | hF
              · exact k9 n m b hmn hF hb
              · simp only [Spot.block, Option.some.injEq] at hF
                exact k10 m b hb hF.symm
        · rw [List.length_set] at hm
          rcases hh with ⟨rfl, _⟩ | ⟨_, hh⟩
          · omega
          · exact k8 m b hm hh
        · have key : ∀ m b, m ≠ n → Fe m b → ¬ (Fq' b ∨ (Fe n b ∧ ¬ Fq b)) := fun m b hmn hF hh => by
            rcases hh with hh | hh
            · exact hdis b hh ⟨(k11 b).2 (.inr ⟨m, hF⟩), fun hq => k9 n m b (Ne.symm hmn) (hFqn b hq) hF⟩
            · exact k9 n m b (Ne.symm hmn) hh.1 hF
          rcases h1' with ⟨rfl, h1'⟩ | ⟨hm1, h1'⟩
          · rcases h2' with ⟨rfl, _⟩ | ⟨hm2, h2'⟩
            · exact hne rfl
            · exact key m' b hm2 h2' h1'
          · rcases h2' with ⟨rfl, h2'⟩ | ⟨hm2, h2'⟩
            · exact key m b hm1 h1' h2'
            · exact k9 m m' b hne h1' h2'
        · subst hbg
          rcases hh with ⟨rfl, hh | hh⟩ | ⟨_, hh⟩
          · exact hdis b hh hgS
          · exact k10 m b hh.1 rfl
          · exact k10 m b hh rfl
        · constructor
          · rintro (hh | hh)
            · exact .inr ⟨n, .inl ⟨rfl, .inl hh⟩⟩
            · rcases (k11 b).1 hh.1 with rfl | ⟨m, hm⟩
              · exact .inl rfl
              · by_cases hmn : m = n
                · subst hmn
                  exact .inr ⟨m, .inl ⟨rfl, .inr ⟨hm, hh.2⟩⟩⟩
                · exact .inr ⟨m, .inr ⟨hmn, hm⟩⟩
          · rintro (rfl | ⟨m, ⟨rfl, hh | hh⟩ | ⟨hmn, hh⟩⟩)
            · exact .inr hgS
            · exact .inl hh
            · exact .inr ⟨(k11 b).2 (.inr ⟨m, hh.1⟩), hh.2⟩
            · exact .inr ⟨(k11 b).2 (.inr ⟨m, hh⟩), fun hq => k9 n m b (Ne.symm hmn) (hFqn b hq) hh⟩
  | ppair a b iha ihb =>
    intro c x F r q y h hg hin hc hv
    match r, hg, hin with
    | [], hg, _ =>
      simp only [getPP, Option.some.injEq, Sigma.mk.injEq] at hg
      obtain ⟨rfl, hg⟩ := hg
      obtain rfl := eq_of_heq hg
      exact ⟨c, F, rfl, base _ c x F h hc (fun y' => by simp [setPP]) rfl⟩
    | .idx n :: r, hg, _ => simp [getPP] at hg
    | .fld 0 :: r, hg, hin =>
      simp only [getPP] at hg
      simp only [inPP] at hin
      cases c with
      | val v =>
        rcases hv v rfl with hh | ⟨te, e, hh⟩ <;> cases hh
      | blk g o =>
        simp only [PM] at h
        obtain ⟨F1, F2, h1, h2, h3, h4⟩ := h
        have hF1 : ∀ b, F1 b → F b := fun b hb => (h4 b).2 (.inl hb)
        have hF2 : ∀ b, F2 b → F b := fun b hb => (h4 b).2 (.inr hb)
        obtain ⟨c', Fq, j1, j2⟩ := iha (.blk g o) x.1 F1 r q y h1 hg hin (fun g' hg' hF => hc g' hg' (hF1 g' hF)) (fun v e => by cases e)
        refine ⟨c', Fq, by simp only [locP]; exact j1, {
          part := j2.part
          sub := fun b hb => hF1 b (j2.sub b hb)
          out := j2.out
          blk := fun g' hg' => (j2.blk g' hg').imp (hF1 g') id
          spine := fun g' hg' => by
            simp only [spineP] at hg'
            exact (j2.spine g' hg').imp (fun hh => ⟨hF1 _ hh.1, hh.2⟩) id
          top := fun e => by cases e
          range := fun g1 o1 g' o' e1 e' e2 => by
            have := j2.range g1 o1 g' o' e1 e' e2
            simp only [PSh.size]
            omega
          uns := j2.uns
          back := ?_ }⟩
        intro w' S' y' Fq' hk hheap hsame hcsame hS hpm hdis hout hcout
        obtain ⟨x1, m1, m2⟩ := j2.back w' S' y' Fq' hk (fun b hb hne => hheap b ⟨hF1 b hb.1, hb.2⟩ hne) hsame hcsame (fun b o hb => hS b o ⟨hF1 b hb.1, hb.2⟩) hpm
          (fun b hb hh => hdis b hb ⟨hF1 b hh.1, hh.2⟩) hout hcout
        refine ⟨(x1, x.2), by simp only [setPP, m1], ?_⟩
        simp only [PM]
        refine ⟨fun b => Fq' b ∨ (F1 b ∧ ¬ Fq b), F2, m2, ?_, fun k hk1 hk2 => ?_, fun k => ?_⟩
        · have hq2 : ∀ b, F2 b → ¬ Fq b := fun b hb hq => h3 b (j2.sub b hq) hb
          refine PM.step hk b _ _ x.2 F2 h2 (fun i hi => ?_) (fun k hk2 => hheap k ⟨hF2 k hk2, hq2 k hk2⟩ (fun hh => ?_)) (fun k o' hk2 => hS k o' ⟨hF2 k hk2, hq2 k hk2⟩)
          · show blkR w' g o (a.size + i) = blkR w g o (a.size + i)
            by_cases hcg : c'.block = some g
            · cases c' with
              | val v => cases hcg
              | blk g' o' =>
                simp only [Spot.block, Option.some.injEq] at hcg
                subst hcg
                obtain ⟨r1, r2⟩ := j2.range _ _ _ _ rfl rfl rfl
                exact hsame.cell _ (by omega)
            · exact blkR_block (hcsame g rfl hcg) _ _
          · rcases j2.blk k hh.symm with hF | hF
            · exact h3 k hF hk2
            · exact hc k hF (hF2 k hk2)
        · rcases hk1 with hk1 | hk1
          · exact hdis k hk1 ⟨hF2 k hk2, fun hq => h3 k (j2.sub k hq) hk2⟩
          · exact h3 k hk1.1 hk2
        · constructor
          · rintro (hh | hh)
            · exact .inl (.inl hh)
            · rcases (h4 k).1 hh.1 with h5 | h5
              · exact .inl (.inr ⟨h5, hh.2⟩)
              · exact .inr h5
          · rintro ((hh | hh) | hh)
            · exact .inl hh
            · exact .inr ⟨hF1 k hh.1, hh.2⟩
            · exact .inr ⟨hF2 k hh, fun hq => h3 k (j2.sub k hq) hh⟩
    | .fld (i + 1) :: r, hg, hin =>
      simp only [getPP] at hg
      simp only [inPP] at hin
      cases c with
      | val v =>
        rcases hv v rfl with hh | ⟨te, e, hh⟩ <;> cases hh
      | blk g o =>
        simp only [PM] at h
        obtain ⟨F1, F2, h1, h2, h3, h4⟩ := h
        have hF1 : ∀ b, F1 b → F b := fun b hb => (h4 b).2 (.inl hb)
        have hF2 : ∀ b, F2 b → F b := fun b hb => (h4 b).2 (.inr hb)
        have hrd : (fun i => blkR w g o (a.size + i)) = (Spot.blk g (o + a.size)).rdr w := by
          funext i
          simp only [blkR, Spot.rdr, Nat.add_assoc]
        have hrd' : ∀ w' : World, (fun i => blkR w' g o (a.size + i)) = (Spot.blk g (o + a.size)).rdr w' := fun w' => by
          funext i
          simp only [blkR, Spot.rdr, Nat.add_assoc]
        have h2' : PM w S b ((Spot.blk g (o + a.size)).rdr w) x.2 F2 := by rw [← hrd]; exact h2
        obtain ⟨c', Fq, j1, j2⟩ := ihb (.blk g (o + a.size)) x.2 F2 (.fld i :: r) q y h2' hg hin (fun g' hg' hF => hc g' hg' (hF2 g' hF)) (fun v e => by cases e)
        refine ⟨c', Fq, by simp only [locP]; exact j1, {
          part := j2.part
          sub := fun b hb => hF2 b (j2.sub b hb)
          out := j2.out
          blk := fun g' hg' => (j2.blk g' hg').imp (hF2 g') id
          spine := fun g' hg' => by
            simp only [spineP] at hg'
            exact (j2.spine g' hg').imp (fun hh => ⟨hF2 _ hh.1, hh.2⟩) id
          top := fun e => by cases e
          range := fun g1 o1 g' o' e1 e' e2 => by
            cases e1
            have := j2.range g (o + a.size) g' o' rfl e' e2
            simp only [PSh.size]
            omega
          uns := j2.uns
          back := ?_ }⟩
        intro w' S' y' Fq' hk hheap hsame hcsame hS hpm hdis hout hcout
        obtain ⟨x1, m1, m2⟩ := j2.back w' S' y' Fq' hk (fun b hb hne => hheap b ⟨hF2 b hb.1, hb.2⟩ hne) hsame hcsame (fun b o hb => hS b o ⟨hF2 b hb.1, hb.2⟩) hpm
          (fun b hb hh => hdis b hb ⟨hF2 b hh.1, hh.2⟩) hout hcout
        refine ⟨(x.1, x1), by simp only [setPP, m1], ?_⟩
        simp only [PM]
        refine ⟨F1, fun b => Fq' b ∨ (F2 b ∧ ¬ Fq b), ?_, ?_, fun k hk1 hk2 => ?_, fun k => ?_⟩
        · have hq2 : ∀ b, F1 b → ¬ Fq b := fun b hb hq => h3 b hb (j2.sub b hq)
          refine PM.step hk a _ _ x.1 F1 h1 (fun i hi => ?_) (fun k hk2 => hheap k ⟨hF1 k hk2, hq2 k hk2⟩ (fun hh => ?_)) (fun k o' hk2 => hS k o' ⟨hF1 k hk2, hq2 k hk2⟩)
          · show blkR w' g o i = blkR w g o i
            by_cases hcg : c'.block = some g
            · cases c' with
              | val v => cases hcg
              | blk g' o' =>
                simp only [Spot.block, Option.some.injEq] at hcg
                subst hcg
                obtain ⟨r1, r2⟩ := j2.range _ _ _ _ rfl rfl rfl
                exact hsame.cell _ (by omega)
            · exact blkR_block (hcsame g rfl hcg) _ _
          · rcases j2.blk k hh.symm with hF | hF
            · exact h3 k hk2 hF
            · exact hc k hF (hF1 k hk2)
        · show PM w' S' b (fun i => blkR w' g o (a.size + i)) x1 _
          rw [hrd' w']
          exact m2
        · rcases hk2 with hk2 | hk2
          · exact hdis k hk2 ⟨hF1 k hk1, fun hq => h3 k hk1 (j2.sub k hq)⟩
          · exact h3 k hk1 hk2.1
        · constructor
          · rintro (hh | hh)
            · exact .inr (.inl hh)
            · rcases (h4 k).1 hh.1 with h5 | h5
              · exact .inl h5
              · exact .inr (.inr ⟨h5, hh.2⟩)
          · rintro (hh | hh | hh)
            · exact .inr ⟨hF1 k hh, fun hq => h3 k hh (j2.sub k hq)⟩
            · exact .inl hh
            · exact .inr ⟨hF2 k hh.1, hh.2⟩
  | parr m e =>
    intro c l F r q y h hg hin hc hv
    match r, hg, hin with
    | [], hg, _ =>
      simp only [getPP, Option.some.injEq, Sigma.mk.injEq] at hg
      obtain ⟨rfl, hg⟩ := hg
      obtain rfl := eq_of_heq hg
      exact ⟨c, F, rfl, base _ c l F h hc (fun y' => by simp [setPP]) rfl⟩
    | .fld i :: r, hg, _ => simp [getPP] at hg
    | .idx k :: _ :: _, hg, _ => simp [getPP] at hg
    | [.idx k], hg, hin =>
      simp only [getPP, Option.some.injEq, Sigma.mk.injEq] at hg
      obtain ⟨rfl, hg⟩ := hg
      obtain rfl := eq_of_heq hg
      have hk : k < m := hin
      cases c with
      | val v => rcases hv v rfl with hh | ⟨te, e, hh⟩ <;> cases hh
      | blk g o =>
        simp only [PM] at h
        obtain ⟨h0, cs, h1, h2⟩ := h
        have hl := RdC.length _ _ _ h1
        simp only [RdC] at h1
        have hle : (k + 1) * e.size ≤ m * e.size := Nat.mul_le_mul_right _ hk
        rw [Nat.add_mul, Nat.one_mul] at hle
        have hkl : k < List.length l := by rw [h1.1]; exact hk
        have hgetD : List.getD l k (dflt e) = l[k] := by simp [List.getD, hkl]
        have hat := Chunks.at (RdC.length e) k h1.2 hkl
        have hsl : ∀ (i : Nat) (v : Value), ((cs.drop (k * e.size)).take e.size)[i]? = some v → blkR w g (o + k * e.size) i = some v := fun i v hv => by
          have hlt := (List.getElem?_eq_some_iff.1 hv).1
          simp only [List.length_take, List.length_drop] at hlt
          rw [List.getElem?_take_of_lt (by omega), List.getElem?_drop] at hv
          have := h2 _ _ hv
          simp only [blkR, Spot.rdr, Nat.add_assoc] at this ⊢
          exact this
        refine ⟨.blk g (o + k * e.size), fun _ => False, rfl, {
          part := by
            simp only [PM]
            rw [hgetD]
            exact ⟨fun b hb => hb, _, hat, hsl⟩
          sub := fun b hb => hb.elim
          out := fun g hg hb => hb.elim
          blk := fun g' hg' => .inr hg'
          spine := fun g' hg' => by simp [spineP] at hg'
          top := fun e => by cases e
          range := fun g1 o1 g' o' e1 e' _ => by
            cases e1
            cases e'
            simp only [PSh.size]
            omega
          uns := fun g' hg' => .inl hg'
          back := ?_ }⟩
        intro w' S' y' Fq' hkp hheap hsame hcsame hS hpm hdis hout hcout
        refine ⟨List.set l k y', by simp [setPP], ?_⟩
        simp only [PM] at hpm ⊢
        obtain ⟨j0, cs', j1, j2⟩ := hpm
        have hl' := RdC.length _ _ _ j1
        refine ⟨fun b hb => hb.elim (j0 b) (fun hh => h0 b hh.1), cs.take (k * e.size) ++ cs' ++ cs.drop (k * e.size + e.size), ?_, fun i v hv => ?_⟩
        · simp only [RdC]
          refine ⟨by rw [List.length_set]; exact h1.1, ?_⟩
          have := Chunks.set (RdC.length e) (h1.2.mono (RdC.keeps hkp e)) (i := k) hkl j1
          exact this
        · show w'.cell? ⟨g, o + i, none⟩ = some v
          have hcl : cs.length = m * e.size := hl
          by_cases hi1 : i < k * e.size
          · rw [hsame.cell _ (by omega)]
            rw [List.append_assoc, List.getElem?_append_left (by rw [List.length_take]; omega), List.getElem?_take_of_lt hi1] at hv
            exact h2 i v hv
          · by_cases hi2 : i < k * e.size + e.size
            · rw [List.append_assoc, List.getElem?_append_right (by rw [List.length_take]; omega), List.length_take, Nat.min_eq_left (by omega), List.getElem?_append_left (by omega)] at hv
              have := j2 _ _ hv
              simp only [blkR, Spot.rdr] at this
              rw [show o + i = o + k * e.size + (i - k * e.size) by omega]
              exact this
            · rw [hsame.cell _ (by simp only [PSh.size]; omega)]
              rw [List.getElem?_append_right (by rw [List.length_append, List.length_take]; omega), List.length_append, List.length_take, Nat.min_eq_left (by omega), List.getElem?_drop, hl'] at hv
              rw [show k * e.size + e.size + (i - (k * e.size + e.size)) = i by omega] at hv
              exact h2 i v hv

/-- A part taken out goes on being so while what is left stays. -/
theorem Wand.step {w w1 : World} {S S1 : Stable} {p : PSh} {c : Spot} {x : Den p.sh} {r : List PStep} {q : PSh} {c' : Spot} {F : Nat → Prop} (h : Wand w S p c x r q c' F) (hk : Keeps w S w1 S1)
    (hb : ∀ b, F b → w1.heap[b]? = w.heap[b]?) (hc : ∀ g, c.block = some g → w1.heap[g]? = w.heap[g]?) (hc' : ∀ g, c'.block = some g → w1.heap[g]? = w.heap[g]?) (hS : ∀ b o, F b → (S1 b o ↔ S b o)) : Wand w1 S1 p c x r q c' F := by
  intro w' S' y' Fq' hk' hheap hsame hcsame hS' hpm hdis hout hcout
  refine h w' S' y' Fq' (hk.trans hk') (fun b hF hne => (hheap b hF hne).trans (hb b hF)) ?_ (fun g hg hne => (hcsame g hg hne).trans (hc g hg)) (fun b o hF => (hS' b o hF).trans (hS b o hF)) hpm hdis hout hcout
  cases c' with
  | val v => trivial
  | blk g o =>
    obtain ⟨cur, cur', te, fz, e1, e2, e3, e4⟩ := hsame
    exact ⟨cur, cur', te, fz, by rw [← hc' g rfl]; exact e1, e2, e3, e4⟩
end Go.Av
