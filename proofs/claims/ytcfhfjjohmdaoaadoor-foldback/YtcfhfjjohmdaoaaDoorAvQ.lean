/-
  The state of the machine reads as a frame that has private trees.
-/
import Derived.Test.YtcfhfjjohmdaoaaDoorAvP
namespace Go.Av
open Go.RowKit

/-- The value of a slot; of slots beyond the function's own: what is given. -/
def tv (gv : Nat → Value) (a : Act) (t : Nat) : Value := a.tmps.getD t (gv t)

def PSh.agg : PSh → Bool
  | .leaf s => s.agg
  | .ppair _ _ => true
  | .parr _ _ => true
  | _ => false

/-- A value that is a tree's. -/
def valOk (p : PSh) (v : Value) : Prop := if p.agg then ∃ cs, v = .agg cs ∧ cs.size = p.size else v.oneCell' = true

/-- A private tree, or a pointer to one. -/
def AV.isRoot : AV → Bool
  | .pv _ _ _ => true
  | .pbox _ _ _ => true
  | .itr _ _ => true
  | _ => false
def AV.isRef : AV → Bool
  | .padr _ _ => true
  | .pval _ _ => true
  | _ => false
def AV.isPriv (v : AV) : Bool := v.isRoot || v.isRef

/-- A tree, and where its cells are. -/
inductive IsRoot : AV → Value → (p : PSh) → Den p.sh → Option (List PStep) → Spot → Prop
  | pv (p : PSh) (x : Den p.sh) (h : Option (List PStep)) (v : Value) (hv : valOk p v) : IsRoot (.pv p x h) v p x h (.val v)
  | pbox (p : PSh) (x : Den p.sh) (h : Option (List PStep)) (b : Nat) : IsRoot (.pbox p x h) (.pointer (some ⟨b, 0, none⟩)) p x h (.blk b 0)

theorem IsRoot.isRoot {av : AV} {v : Value} {p : PSh} {x : Den p.sh} {h : Option (List PStep)} {c : Spot} (k : IsRoot av v p x h c) : av.isRoot = true := by cases k <;> rfl

theorem IsRoot.det {av : AV} {v : Value} {p : PSh} {x : Den p.sh} {h : Option (List PStep)} {c : Spot} (k : IsRoot av v p x h c) {p' : PSh} {x' : Den p'.sh} {h' : Option (List PStep)} {c' : Spot} (k' : IsRoot av v p' x' h' c') :
    p = p' ∧ HEq x x' ∧ h = h' ∧ c = c' := by
  cases k with
  | pv hv => cases k' with
    | pv hv' => exact ⟨rfl, HEq.rfl, rfl, rfl⟩
  | pbox => cases k' with
    | pbox => exact ⟨rfl, HEq.rfl, rfl, rfl⟩

/-- A tree with a part taken out. -/
structure HoleAt (w : World) (S : Stable) (p : PSh) (c : Spot) (x : Den p.sh) (r : List PStep) (F : Nat → Prop) (q : PSh) (g o : Nat) : Prop where
  loc : locP w p c r = some (q, .blk g o)
  spine : ∀ k, k ∈ spineP w p c r → F k ∨ c.block = some k
  blk : F g ∨ c.block = some g
  room : ∃ (cur : Array Value) (te : TypeId), w.heap[g]? = some (.cells cur te (0, 0)) ∧ o + q.size ≤ cur.size
  wand : Wand w S p c x r q (.blk g o) F

/-- What is known of a tree; 'F' are the blocks that it owns beside its own. -/
def Core (w : World) (S : Stable) (p : PSh) (c : Spot) (x : Den p.sh) (F : Nat → Prop) : Option (List PStep) → Prop
  | none => PM w S p (c.rdr w) x F
  | some r => ∃ q g o, HoleAt w S p c x r F q g o

def PSh.isSl : PSh → Bool
  | .osl _ _ => true
  | .psl _ _ => true
  | _ => false

/-- What the head of a slice in a tree says. -/
def HdrOk (u : Value) (F : Nat → Prop) : (q : PSh) → Den q.sh → Prop
  | .psl _ _, l => (u = .slice none 0 0 ∧ l = []) ∨ ∃ g cap, u = .slice (some ⟨g, 0, none⟩) (List.length l) cap ∧ List.length l ≤ cap ∧ F g
  | .osl _ _, l => (u = .slice none 0 0 ∧ l = []) ∨ ∃ g cap, u = .slice (some ⟨g, 0, none⟩) (List.length l) cap ∧ List.length l ≤ cap
  | _, _ => False

/-- What is known of a root. -/
structure Root (w : World) (S : Stable) (p : PSh) (x : Den p.sh) (h : Option (List PStep)) (c : Spot) (F : Nat → Prop) : Prop where
  blk : ∀ g, c.block = some g → F g ∧ (∀ o, ¬ S g o) ∧ ∃ (cur : Array Value) (T : TypeId), w.heap[g]? = some (.cells cur T (0, 0)) ∧ cur.size = p.size
  core : Core w S p c x (fun b => F b ∧ c.block ≠ some b) h
  hdr : ∀ v, c = .val v → p.isSl = true → HdrOk v F p x

/-- What is known of a slot that owns something. -/
inductive RootAny (w : World) (S : Stable) (F : Nat → Prop) : AV → Value → Prop
  | tree (av : AV) (v : Value) (p : PSh) (x : Den p.sh) (h : Option (List PStep)) (c : Spot) (h1 : IsRoot av v p x h c) (h2 : Root w S p x h c F) : RootAny w S F av v
  | itr (s : List UInt8) (pos b : Nat) (bs : ByteArray) (h1 : w.heap[b]? = some (.stringIter bs pos)) (h2 : bs.data.toList = s) (h3 : ∀ k, F k ↔ k = b) (h4 : ∀ o, ¬ S b o) : RootAny w S F (.itr s pos) (.pointer (some ⟨b, 0, none⟩))

/-- An address in a tree. -/
def AdrAt (w : World) (p : PSh) (c : Spot) (x : Den p.sh) (r : List PStep) (u : Value) (F : Nat → Prop) : Prop :=
  ∃ q g o, inPP p x r ∧ locP w p c r = some (q, .blk g o) ∧ u = .pointer (some ⟨g, o, none⟩) ∧ (∀ k, k ∈ spineP w p c r → F k) ∧ F g
/-- The head of a private slice in a tree. -/
def ValAt (w : World) (p : PSh) (c : Spot) (x : Den p.sh) (r : List PStep) (u : Value) (F : Nat → Prop) : Prop :=
  ∃ q y c', inPP p x r ∧ getPP p x r = some ⟨q, y⟩ ∧ HdrOk u F q y ∧ locP w p c r = some (q, c') ∧ c'.rdr w 0 = some u ∧ (∀ k, k ∈ spineP w p c r → F k) ∧ (∀ g, c'.block = some g → F g)

structure RP (base : Nat → Prop) (w0 : World) (S0 S : Stable) (fr : Fr) (gv : Nat → Value) (a : Act) (w : World) (F : Nat → Nat → Prop) : Prop where
  r : R (fun k => base k ∨ ∃ t, F t k) w S S fr a w
  below : Kept base w0 w
  old : ∀ b o, base b → (S b o ↔ S0 b o)
  kp : Keeps w0 S0 w S
  nb : ∀ t b, F t b → ¬ base b
  dj : ∀ t t' b, t ≠ t' → F t b → ¬ F t' b
  nroot : ∀ t, (fr t).isRoot = false → ∀ b, ¬ F t b
  root : ∀ t, (fr t).isRoot = true → RootAny w S (F t) (fr t) (tv gv a t)
  adr : ∀ t s r, fr t = .padr s r → ∃ p x h c, IsRoot (fr s) (tv gv a s) p x h c ∧ AdrAt w p c x r (tv gv a t) (F s)
  val : ∀ t s r, fr t = .pval s r → ∃ p x h c, IsRoot (fr s) (tv gv a s) p x h c ∧ ValAt w p c x r (tv gv a t) (F s)

section
variable {base : Nat → Prop} {w0 w : World} {S0 S : Stable} {fr : Fr} {gv : Nat → Value} {a : Act} {F : Nat → Nat → Prop}

theorem RP.lt (h : RP base w0 S0 S fr gv a w F) {t b : Nat} (hb : F t b) : b < w.heap.size := h.r.base_le b (.inr ⟨t, hb⟩)
theorem RP.base_le (h : RP base w0 S0 S fr gv a w F) {b : Nat} (hb : base b) : b < w.heap.size := h.r.base_le b (.inl hb)

/-- A new beginning at the state that there is, with fewer blocks kept. -/
theorem R.rebase {b1 b2 : Nat → Prop} (h : R b1 w0 S0 S fr a w) (hb : ∀ k, b2 k → b1 k) : R b2 w S S fr a w where
  below := Kept.refl _ _
  base_le := fun k hk => h.base_le k (hb k hk)
  old := fun _ _ _ => Iff.rfl
  kp := Keeps.refl _ _
  slt := h.slt
  dfr := h.dfr
  rd := h.rd
  cp := h.cp
  sls := h.sls
  own := fun t e x te he => by
    obtain ⟨xs, h1, h2, h3, h4⟩ := h.own t e x te he
    exact ⟨xs, h1, h2, h3, fun b hb' hk => h4 b hb' (hb b hk)⟩
  dist := h.dist
  box := fun t s x he => by
    obtain ⟨b, ⟨h1, h2⟩, h3⟩ := h.box t s x he
    exact ⟨b, ⟨fun hk => h1 (hb b hk), h2⟩, h3⟩
  boxd := h.boxd
  boxo := h.boxo
  badr := h.badr

theorem HoleAt.step {w' : World} {S' : Stable} {p : PSh} {c : Spot} {x : Den p.sh} {r : List PStep} {F : Nat → Prop} {q : PSh} {g o : Nat} (h : HoleAt w S p c x r F q g o) (hk : Keeps w S w' S')
    (hb : ∀ b, F b ∨ c.block = some b → w'.heap[b]? = w.heap[b]?) (hS : ∀ b o, F b → (S' b o ↔ S b o)) : HoleAt w' S' p c x r F q g o := by
  obtain ⟨h1, h2, h3, h4, h5⟩ := h
  obtain ⟨k1, k2⟩ := locP_same (w' := w') p c r _ h1 (fun g hg => hb g (h2 g hg))
  obtain ⟨cur, te, h4, h6⟩ := h4
  refine ⟨k1, by rw [k2]; exact h2, h3, ⟨cur, te, (hb g h3).trans h4, h6⟩, h5.step hk (fun b hF => hb b (.inl hF)) (fun g hg => hb g (.inr hg)) (fun g' hg' => ?_) hS⟩
  simp only [Spot.block, Option.some.injEq] at hg'
  subst hg'
  exact hb g h3

theorem Root.step {w' : World} {S' : Stable} {p : PSh} {x : Den p.sh} {hh : Option (List PStep)} {c : Spot} {F : Nat → Prop} (h : Root w S p x hh c F) (hk : Keeps w S w' S') (hb : ∀ b, F b → w'.heap[b]? = w.heap[b]?)
    (hS : ∀ b o, F b → (S' b o ↔ S b o)) : Root w' S' p x hh c F := by
  refine ⟨fun g hg => ?_, ?_, h.hdr⟩
  · obtain ⟨h1, h2, cur, T, h3, h4⟩ := h.blk g hg
    exact ⟨h1, fun o ho => h2 o ((hS g o h1).1 ho), cur, T, (hb g h1).trans h3, h4⟩
  · have hc : ∀ g, c.block = some g → w'.heap[g]? = w.heap[g]? := fun g hg => hb g (h.blk g hg).1
    cases hh with
    | none =>
      have h1 : PM w S p (c.rdr w) x (fun b => F b ∧ c.block ≠ some b) := h.core
      exact PM.step hk p _ _ x _ h1 (fun i _ => rdr_block hc i) (fun b hF => hb b hF.1) (fun b o hF => hS b o hF.1)
    | some r =>
      obtain ⟨q, g, o, h1⟩ := h.core
      exact ⟨q, g, o, h1.step hk (fun b hF => hF.elim (fun hF => hb b hF.1) (fun hF => hc b hF)) (fun b o hF => hS b o hF.1)⟩

theorem RootAny.step {w' : World} {S' : Stable} {av : AV} {v : Value} {F : Nat → Prop} (h : RootAny w S F av v) (hk : Keeps w S w' S') (hb : ∀ b, F b → w'.heap[b]? = w.heap[b]?)
    (hS : ∀ b o, F b → (S' b o ↔ S b o)) : RootAny w' S' F av v := by
  cases h with
  | tree _ _ p x h c h1 h2 => exact .tree _ _ p x h c h1 (h2.step hk hb hS)
  | itr s pos b bs h1 h2 h3 h4 => exact .itr s pos b bs ((hb b ((h3 b).2 rfl)).trans h1) h2 h3 (fun o ho => h4 o ((hS b o ((h3 b).2 rfl)).1 ho))

theorem AdrAt.step {w' : World} {p : PSh} {c : Spot} {x : Den p.sh} {r : List PStep} {u : Value} {F : Nat → Prop} (h : AdrAt w p c x r u F) (hb : ∀ b, F b → w'.heap[b]? = w.heap[b]?) : AdrAt w' p c x r u F := by
  obtain ⟨q, g, o, h1, h2, h3, h4, h5⟩ := h
  obtain ⟨k1, k2⟩ := locP_same (w' := w') p c r _ h2 (fun g hg => hb g (h4 g hg))
  exact ⟨q, g, o, h1, k1, h3, by rw [k2]; exact h4, h5⟩
theorem ValAt.step {w' : World} {p : PSh} {c : Spot} {x : Den p.sh} {r : List PStep} {u : Value} {F : Nat → Prop} (h : ValAt w p c x r u F) (hb : ∀ b, F b → w'.heap[b]? = w.heap[b]?) : ValAt w' p c x r u F := by
  obtain ⟨q, y, c', h1, h6, h7, h2, h3, h4, h5⟩ := h
  obtain ⟨k1, k2⟩ := locP_same (w' := w') p c r _ h2 (fun g hg => hb g (h4 g hg))
  exact ⟨q, y, c', h1, h6, h7, k1, by rw [rdr_block (fun g hg => hb g (h5 g hg))]; exact h3, by rw [k2]; exact h4, h5⟩

theorem Kept.trans {B B' : Nat → Prop} {w1 w2 w3 : World} (h : Kept B w1 w2) (k : Kept B' w2 w3) (hb : ∀ b, B b → B' b) : Kept B w1 w3 :=
  ⟨k.os.trans h.os, k.tape.trans h.tape, k.output.trans h.output, Nat.le_trans h.size k.size, fun b hB => (k.block b (hb b hB)).trans (h.block b hB)⟩

/-- What an operation leaves that turns the slots X alone. -/
theorem RP.upd (h : RP base w0 S0 S fr gv a w F) (X : Nat → Prop) {S' : Stable} {fr' : Fr} {a' : Act} {w' : World} {F' : Nat → Nat → Prop}
    (hr : R (fun k => base k ∨ ∃ t, F' t k) w' S' S' fr' a' w') (hkb : Kept base w w') (hS : ∀ b o, base b → (S' b o ↔ S b o)) (hk : Keeps w S w' S')
    (hF : ∀ t, ¬ X t → ∀ b, F' t b ↔ F t b) (hheap : ∀ t b, ¬ X t → F t b → w'.heap[b]? = w.heap[b]?) (hSt : ∀ t b o, ¬ X t → F t b → (S' b o ↔ S b o))
    (hfr : ∀ t, ¬ X t → (fr' t).isRoot = (fr t).isRoot ∧ ((fr t).isRoot = true → fr' t = fr t ∧ tv gv a' t = tv gv a t))
    (hnb : ∀ t b, X t → F' t b → ¬ base b) (hdj : ∀ t t' b, X t → t ≠ t' → F' t b → ¬ F' t' b)
    (hnr : ∀ t, X t → (fr' t).isRoot = false → ∀ b, ¬ F' t b) (hroot : ∀ t, X t → (fr' t).isRoot = true → RootAny w' S' (F' t) (fr' t) (tv gv a' t))
    (hadr : ∀ t s r, fr' t = .padr s r → (¬ X s ∧ fr t = .padr s r ∧ tv gv a' t = tv gv a t) ∨ (∃ p x h c, IsRoot (fr' s) (tv gv a' s) p x h c ∧ AdrAt w' p c x r (tv gv a' t) (F' s)))
    (hval : ∀ t s r, fr' t = .pval s r → (¬ X s ∧ fr t = .pval s r ∧ tv gv a' t = tv gv a t) ∨ (∃ p x h c, IsRoot (fr' s) (tv gv a' s) p x h c ∧ ValAt w' p c x r (tv gv a' t) (F' s))) :
    RP base w0 S0 S' fr' gv a' w' F' where
  r := hr
  below := h.below.trans hkb (fun _ hB => hB)
  old := fun b o hB => (hS b o hB).trans (h.old b o hB)
  kp := h.kp.trans hk
  nb := fun t b hb => by
    by_cases hX : X t
    · exact hnb t b hX hb
    · exact h.nb t b ((hF t hX b).1 hb)
  dj := fun t t' b hne hb hb' => by
    by_cases hX : X t
    · exact hdj t t' b hX hne hb hb'
    · by_cases hX' : X t'
      · exact hdj t' t b hX' (Ne.symm hne) hb' hb
      · exact h.dj t t' b hne ((hF t hX b).1 hb) ((hF t' hX' b).1 hb')
  nroot := fun t ht b hb => by
    by_cases hX : X t
    · exact hnr t hX ht b hb
    · exact h.nroot t ((hfr t hX).1.symm.trans ht) b ((hF t hX b).1 hb)
  root := fun t ht => by
    by_cases hX : X t
    · exact hroot t hX ht
    · have hrt := (hfr t hX).1.symm.trans ht
      obtain ⟨e1, e2⟩ := (hfr t hX).2 hrt
      have e3 : F' t = F t := funext fun b => propext (hF t hX b)
      rw [e1, e2, e3]
      exact (h.root t hrt).step hk (fun b hb => hheap t b hX hb) (fun b o hb => hSt t b o hX hb)
  adr := fun t s r ht => by
    rcases hadr t s r ht with ⟨hX, e1, e2⟩ | hh
    · obtain ⟨p, x, hh, c, h1, h2⟩ := h.adr t s r e1
      obtain ⟨e3, e4⟩ := (hfr s hX).2 h1.isRoot
      have e5 : F' s = F s := funext fun b => propext (hF s hX b)
      exact ⟨p, x, hh, c, by rw [e3, e4]; exact h1, by rw [e2, e5]; exact h2.step (fun b hb => hheap s b hX hb)⟩
    · exact hh
  val := fun t s r ht => by
    rcases hval t s r ht with ⟨hX, e1, e2⟩ | hh
    · obtain ⟨p, x, hh, c, h1, h2⟩ := h.val t s r e1
      obtain ⟨e3, e4⟩ := (hfr s hX).2 h1.isRoot
      have e5 : F' s = F s := funext fun b => propext (hF s hX b)
      exact ⟨p, x, hh, c, by rw [e3, e4]; exact h1, by rw [e2, e5]; exact h2.step (fun b hb => hheap s b hX hb)⟩
    · exact hh

def AV.vague : AV → Bool
  | .bad => true
  | v => v.isPriv

theorem vague_lab {v : AV} (h : v.vague = true) : v.lab = none := by cases v <;> first | rfl | (simp [AV.vague, AV.isPriv, AV.isRoot, AV.isRef] at h)
theorem vague_rd {v : AV} (h : v.vague = true) (w : World) (S : Stable) (val : Value) : Rd w S val v := by
  cases v with
  | bad => exact .bad _
  | pv p x h => exact .pv _ _ _ _
  | pbox p x h => exact .pbox _ _ _ _
  | padr s r => exact .padr _ _ _
  | pval s r => exact .pval _ _ _
  | itr s p => exact .itr _ _ _
  | _ => simp [AV.vague, AV.isPriv, AV.isRoot, AV.isRef] at h

/-- What is private is nothing to the reading of the rest. -/
theorem R.repriv {b : Nat → Prop} {fr' : Fr} (h : R b w0 S0 S fr a w) (hv : ∀ t, fr' t = fr t ∨ ((fr t).vague = true ∧ (fr' t).vague = true)) : R b w0 S0 S fr' a w := by
  have nv : ∀ t, (fr' t).vague = false → fr' t = fr t := fun t ht => by
    rcases hv t with e | ⟨_, e⟩
    · exact e
    · rw [e] at ht; cases ht
  have hlab : ∀ t l e, (fr' t).lab = some (l, e) → fr' t = fr t := fun t l e he => nv t (by
    cases hh : (fr' t).vague with
    | false => rfl
    | true => rw [vague_lab hh] at he; cases he)
  have hl : ∀ t l e, (fr t).lab = some (l, e) → fr' t = fr t := fun t l e he => by
    rcases hv t with e1 | ⟨e1, _⟩
    · exact e1
    · rw [vague_lab e1] at he; cases he
  have hbx : ∀ t s (x : Den s), fr' t = .box s x → fr' t = fr t := fun t s x he => nv t (by rw [he]; rfl)
  have hbx' : ∀ t s (x : Den s), fr t = .box s x → fr' t = fr t := fun t s x he => by
    rcases hv t with e1 | ⟨e1, _⟩
    · exact e1
    · rw [he] at e1; cases e1
  exact {
    below := h.below
    base_le := h.base_le
    old := h.old
    kp := h.kp
    slt := h.slt
    dfr := h.dfr
    rd := fun t => by
      rcases hv t with e | ⟨_, e⟩
      · rw [e]; exact h.rd t
      · exact vague_rd e _ _ _
    cp := fun t l e he => by
      have e1 := hlab t l e he
      rw [e1] at he
      obtain ⟨k1, k2⟩ := h.cp t l e he
      have e2 := hl l l e (by rw [k1]; exact he)
      exact ⟨by rw [e1, e2, k1], k2⟩
    sls := fun t s x l he => by
      have e1 := nv t (by rw [he]; rfl)
      exact h.sls t s x l (by rw [← e1]; exact he)
    own := fun t e x te he => by
      have e1 := nv t (by rw [he]; rfl)
      exact h.own t e x te (by rw [← e1]; exact he)
    dist := fun l l' e e' b h1 h2 => by
      have e1 := hlab l l e h1
      have e2 := hlab l' l' e' h2
      rw [e1] at h1
      rw [e2] at h2
      exact h.dist l l' e e' b h1 h2
    box := fun t s x he => by
      have e1 := hbx t s x he
      exact h.box t s x (by rw [← e1]; exact he)
    boxd := fun t t' s s' x x' b h1 h2 => by
      have e1 := hbx t s x h1
      have e2 := hbx t' s' x' h2
      exact h.boxd t t' s s' x x' b (by rw [← e1]; exact h1) (by rw [← e2]; exact h2)
    boxo := fun t s x b l e h1 hb h2 => by
      have e1 := hbx t s x h1
      have e2 := hlab l l e h2
      exact h.boxo t s x b l e (by rw [← e1]; exact h1) hb (by rw [← e2]; exact h2)
    badr := fun t s p he => by
      have e1 := nv t (by rw [he]; rfl)
      obtain ⟨u, y, z, g, k1, k2⟩ := h.badr t s p (by rw [← e1]; exact he)
      exact ⟨u, y, z, g, by rw [hbx' s u y k1]; exact k1, k2⟩ }
end
end Go.Av
