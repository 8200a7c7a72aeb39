/-
  How 'the state reads as the frame' is kept: a slot written, a slice used up, a world that has grown.
-/
import Derived.Test.YtcfhfjjohmdaoaaDoorAvR
namespace Go.Av
open Go.RowKit

theorem getD_put (a : Act) (d : Nat) (v : Value) (t : Nat) (hd : d < a.tmps.size) :
    (a.put (some d) v).tmps.getD t undef = if t = d then v else a.tmps.getD t undef := by
  simp only [Act.put]
  by_cases h : t = d
  · subst h
    simp [hd]
  · rw [if_neg h]
    simp [Array.getElem?_setIfInBounds_ne (Ne.symm h)]

theorem put_size (a : Act) (d : Option Nat) (v : Value) : (a.put d v).tmps.size = a.tmps.size := by
  cases d <;> simp [Act.put]

theorem put_dfr (a : Act) (d : Option Nat) (v : Value) : (a.put d v).defers = a.defers := by
  cases d <;> rfl

theorem drop_lab {v : AV} {d l : Nat} {e : TypeId} (h : (v.drop d).lab = some (l, e)) : v.lab = some (l, e) ∧ l ≠ d := by
  cases v with
  | dat s x o =>
    cases o with
    | none => simp [AV.drop, AV.lab] at h
    | some p =>
      obtain ⟨l', e'⟩ := p
      simp only [AV.drop, AV.lab] at h ⊢
      split at h
      · cases h
      · cases h; exact ⟨rfl, by assumption⟩
  | badr s p =>
    simp only [AV.drop] at h
    split at h <;> simp [AV.lab] at h
  | _ => simp [AV.drop, AV.lab] at h

theorem drop_self {v : AV} {d l : Nat} {e : TypeId} (h : v.lab = some (l, e)) (hne : l ≠ d) : v.drop d = v := by
  cases v with
  | dat s x o =>
    simp only [AV.lab] at h
    subst h
    simp [AV.drop, hne]
  | _ => simp [AV.lab] at h

theorem spent_lab {v : AV} {d l : Nat} {e : TypeId} (h : (v.spent d).lab = some (l, e)) : v.lab = some (l, e) ∧ l ≠ d := by
  cases v with
  | dat s x o =>
    cases o with
    | none => simp [AV.spent, AV.lab] at h
    | some p =>
      obtain ⟨l', e'⟩ := p
      simp only [AV.spent, AV.lab] at h ⊢
      split at h
      · cases h
      · cases h; exact ⟨rfl, by assumption⟩
  | _ => simp [AV.spent, AV.lab] at h

theorem spent_self {v : AV} {d l : Nat} {e : TypeId} (h : v.lab = some (l, e)) (hne : l ≠ d) : v.spent d = v := by
  cases v with
  | dat s x o =>
    simp only [AV.lab] at h
    subst h
    simp [AV.spent, hne]
  | _ => simp [AV.lab] at h

theorem drop_dat {v : AV} {d : Nat} {s : Sh} {x : Den s} {l : Nat × TypeId} (h : v.drop d = .dat s x (some l)) : v = .dat s x (some l) ∧ l.1 ≠ d := by
  have h1 := drop_lab (v := v) (d := d) (l := l.1) (e := l.2) (by rw [h]; rfl)
  rw [drop_self h1.1 h1.2] at h
  exact ⟨h, h1.2⟩
theorem spent_dat {v : AV} {d : Nat} {s : Sh} {x : Den s} {l : Nat × TypeId} (h : v.spent d = .dat s x (some l)) : v = .dat s x (some l) ∧ l.1 ≠ d := by
  have h1 := spent_lab (v := v) (d := d) (l := l.1) (e := l.2) (by rw [h]; rfl)
  rw [spent_self h1.1 h1.2] at h
  exact ⟨h, h1.2⟩
theorem drop_box {v : AV} {d : Nat} {s : Sh} {x : Den s} (h : v.drop d = .box s x) : v = .box s x := by
  cases v with
  | dat s x o => simp [AV.drop] at h
  | badr s p => simp only [AV.drop] at h; split at h <;> cases h
  | _ => exact h
theorem spent_box {v : AV} {d : Nat} {s : Sh} {x : Den s} (h : v.spent d = .box s x) : v = .box s x := by
  cases v with
  | dat s x o => simp [AV.spent] at h
  | _ => exact h
theorem drop_badr {v : AV} {d s : Nat} {p : List Nat} (h : v.drop d = .badr s p) : v = .badr s p ∧ s ≠ d := by
  cases v with
  | dat s x o => simp [AV.drop] at h
  | badr s' p' =>
    simp only [AV.drop] at h
    split at h
    · cases h
    · cases h; exact ⟨rfl, by assumption⟩
  | _ => simp [AV.drop] at h
theorem spent_badr {v : AV} {d s : Nat} {p : List Nat} (h : v.spent d = .badr s p) : v = .badr s p := by
  cases v with
  | dat s x o => simp [AV.spent] at h
  | _ => exact h
theorem box_drop {v : AV} {d : Nat} {s : Sh} {x : Den s} (h : v = .box s x) : v.drop d = .box s x := by subst h; rfl
theorem box_spent {v : AV} {d : Nat} {s : Sh} {x : Den s} (h : v = .box s x) : v.spent d = .box s x := by subst h; rfl

section
variable {base : Nat → Prop} {w0 w : World} {S0 S : Stable} {fr : Fr} {a : Act}

theorem R.put (h : R base w0 S0 S fr a w) {d : Nat} (hd : d < a.tmps.size) {val : Value} {v : AV} (hv : Rd w S val v)
    (hsl : ∀ s (x : Den s) l, v = .dat s x (some l) → ∃ e, s = .sl e)
    (hcp : ∀ l e, v.lab = some (l, e) → l ≠ d → fr l = v ∧ a.tmps.getD l undef = val)
    (hown : ∀ e (x : List (Den e)) te, v = .dat (.sl e) x (some (d, te)) → OwnRow w S base te e val x)
    (hdist : ∀ te, v.lab = some (d, te) → ∀ l e b, l ≠ d → (fr l).lab = some (l, e) → (a.tmps.getD l undef).ownBlock = some b → val.ownBlock ≠ some b)
    (hbox : ∀ s (x : Den s), v = .box s x → ∃ b, BoxAt w S base b s x ∧ val = .pointer (some ⟨b, 0, none⟩))
    (hboxd : ∀ s (x : Den s), v = .box s x → ∀ t s' (x' : Den s') b, t ≠ d → fr t = .box s' x' → val = .pointer (some ⟨b, 0, none⟩) → a.tmps.getD t undef ≠ .pointer (some ⟨b, 0, none⟩))
    (hboxo1 : ∀ s (x : Den s), v = .box s x → ∀ b l e, val = .pointer (some ⟨b, 0, none⟩) → l ≠ d → (fr l).lab = some (l, e) → (a.tmps.getD l undef).ownBlock ≠ some b)
    (hboxo2 : ∀ te, v.lab = some (d, te) → ∀ t s (x : Den s) b, t ≠ d → fr t = .box s x → a.tmps.getD t undef = .pointer (some ⟨b, 0, none⟩) → val.ownBlock ≠ some b)
    (hbadr : ∀ s p, v = .badr s p → s ≠ d ∧ ∃ u y z b, fr s = .box u y ∧ a.tmps.getD s undef = .pointer (some ⟨b, 0, none⟩) ∧ getPath u y p = some z ∧ ∃ o, pathOff u p = some o ∧ val = .pointer (some ⟨b, o, none⟩)) :
    R base w0 S0 S (fr.put d v) (a.put (some d) val) w where
  below := h.below
  base_le := h.base_le
  kp := h.kp
  old := h.old
  slt := h.slt
  dfr := by rw [put_dfr]; exact h.dfr
  rd := fun t => by
    rw [getD_put a d val t hd]
    unfold Fr.put
    split
    · exact hv
    · exact (h.rd t).drop d
  sls := fun t s x l he => by
    unfold Fr.put at he
    split at he
    · exact hsl s x l he
    · exact h.sls t s x l (drop_dat he).1
  cp := fun t l e he => by
    rw [getD_put a d val t hd, getD_put a d val l hd]
    unfold Fr.put at he ⊢
    by_cases ht : t = d
    · rw [if_pos ht] at he
      rw [if_pos ht, if_pos ht]
      by_cases hl : l = d
      · rw [if_pos hl, if_pos hl]; exact ⟨rfl, rfl⟩
      · rw [if_neg hl, if_neg hl]
        obtain ⟨e1, e2⟩ := hcp l e he hl
        rw [e1, drop_self he hl]
        exact ⟨rfl, e2⟩
    · rw [if_neg ht] at he
      rw [if_neg ht, if_neg ht]
      obtain ⟨h1, hne⟩ := drop_lab he
      rw [if_neg hne, if_neg hne]
      obtain ⟨e1, e2⟩ := h.cp t l e h1
      exact ⟨by rw [e1], e2⟩
  own := fun t e x te he => by
    rw [getD_put a d val t hd]
    unfold Fr.put at he
    by_cases ht : t = d
    · rw [if_pos ht] at he ⊢
      subst ht
      exact hown e x te he
    · rw [if_neg ht] at he ⊢
      exact h.own t e x te (drop_dat he).1
  dist := fun l l' e e' b h1 h2 hne hb => by
    rw [getD_put a d val l hd] at hb
    rw [getD_put a d val l' hd]
    unfold Fr.put at h1 h2
    by_cases hl : l = d
    · rw [if_pos hl] at h1 hb
      have hl' : l' ≠ d := fun e => hne (hl.trans e.symm)
      rw [if_neg hl'] at h2 ⊢
      subst hl
      intro hc
      exact hdist e h1 l' e' b hl' (drop_lab h2).1 hc hb
    · rw [if_neg hl] at h1 hb
      by_cases hl' : l' = d
      · rw [if_pos hl'] at h2 ⊢
        subst hl'
        exact hdist e' h2 l e b hl (drop_lab h1).1 hb
      · rw [if_neg hl'] at h2 ⊢
        exact h.dist l l' e e' b (drop_lab h1).1 (drop_lab h2).1 hne hb
  box := fun t s x he => by
    rw [getD_put a d val t hd]
    unfold Fr.put at he
    by_cases ht : t = d
    · rw [if_pos ht] at he ⊢
      exact hbox s x he
    · rw [if_neg ht] at he ⊢
      exact h.box t s x (drop_box he)
  boxd := fun t t' s s' x x' b h1 h2 hne hb => by
    rw [getD_put a d val t hd] at hb
    rw [getD_put a d val t' hd]
    unfold Fr.put at h1 h2
    by_cases ht : t = d
    · have ht' : t' ≠ d := fun e => hne (ht.trans e.symm)
      rw [if_pos ht] at h1 hb
      rw [if_neg ht'] at h2 ⊢
      exact hboxd s x h1 t' s' x' b ht' (drop_box h2) hb
    · rw [if_neg ht] at h1 hb
      by_cases ht' : t' = d
      · rw [if_pos ht'] at h2 ⊢
        intro hc
        exact hboxd s' x' h2 t s x b ht (drop_box h1) hc hb
      · rw [if_neg ht'] at h2 ⊢
        exact h.boxd t t' s s' x x' b (drop_box h1) (drop_box h2) hne hb
  boxo := fun t s x b l e h1 hb h2 => by
    rw [getD_put a d val t hd] at hb
    rw [getD_put a d val l hd]
    unfold Fr.put at h1 h2
    by_cases ht : t = d
    · rw [if_pos ht] at h1 hb
      by_cases hl : l = d
      · rw [if_pos hl] at h2
        rw [h1] at h2
        cases h2
      · rw [if_neg hl] at h2 ⊢
        exact hboxo1 s x h1 b l e hb hl (drop_lab h2).1
    · rw [if_neg ht] at h1 hb
      by_cases hl : l = d
      · rw [if_pos hl] at h2 ⊢
        subst hl
        exact hboxo2 e h2 t s x b ht (drop_box h1) hb
      · rw [if_neg hl] at h2 ⊢
        exact h.boxo t s x b l e (drop_box h1) hb (drop_lab h2).1
  badr := fun t s p he => by
    rw [getD_put a d val t hd, getD_put a d val s hd]
    unfold Fr.put at he ⊢
    by_cases ht : t = d
    · rw [if_pos ht] at he ⊢
      obtain ⟨hne, u, y, z, b, h1, h2, h3, o, h4, h5⟩ := hbadr s p he
      rw [if_neg hne, if_neg hne]
      exact ⟨u, y, z, b, box_drop h1, h2, h3, o, h4, h5⟩
    · rw [if_neg ht] at he ⊢
      obtain ⟨he, hne⟩ := drop_badr he
      rw [if_neg hne, if_neg hne]
      obtain ⟨u, y, z, b, h1, h2, h3, o, h4, h5⟩ := h.badr t s p he
      exact ⟨u, y, z, b, box_drop h1, h2, h3, o, h4, h5⟩

/-- A value that owns nothing and is no place. -/
def AV.plain : AV → Bool
  | .dat _ _ (some _) => false
  | .box _ _ => false
  | .badr _ _ => false
  | _ => true

theorem R.put_plain (h : R base w0 S0 S fr a w) {d : Nat} (hd : d < a.tmps.size) {val : Value} {v : AV} (hv : Rd w S val v) (hp : v.plain = true) :
    R base w0 S0 S (fr.put d v) (a.put (some d) val) w := by
  have hl : ∀ p, v.lab ≠ some p := fun p e => by
    cases v with
    | dat s x o => cases o <;> simp_all [AV.lab, AV.plain]
    | _ => simp [AV.lab] at e
  refine h.put hd hv ?_ ?_ ?_ ?_ ?_ ?_ ?_ ?_ ?_
  · intro s x l e; subst e; simp [AV.plain] at hp
  · intro l e he; exact absurd he (hl _)
  · intro e x te he; subst he; simp [AV.plain] at hp
  · intro te he; exact absurd he (hl _)
  · intro s x e; subst e; simp [AV.plain] at hp
  · intro s x e; subst e; simp [AV.plain] at hp
  · intro s x e; subst e; simp [AV.plain] at hp
  · intro te he; exact absurd he (hl _)
  · intro s p e; subst e; simp [AV.plain] at hp

/-- A slice has been used up: its slot, and the copies of it, own nothing. -/
theorem R.spend (h : R base w0 S0 S fr a w) (d : Nat) : R base w0 S0 S (fr.spend d) a w where
  below := h.below
  base_le := h.base_le
  kp := h.kp
  old := h.old
  slt := h.slt
  dfr := h.dfr
  rd := fun t => (h.rd t).spent d
  sls := fun t s x l he => h.sls t s x l (spent_dat he).1
  cp := fun t l e he => by
    obtain ⟨h1, hne⟩ := spent_lab he
    obtain ⟨e1, e2⟩ := h.cp t l e h1
    exact ⟨by unfold Fr.spend; rw [e1], e2⟩
  own := fun t e x te he => h.own t e x te (spent_dat he).1
  dist := fun l l' e e' b h1 h2 hne hb => h.dist l l' e e' b (spent_lab h1).1 (spent_lab h2).1 hne hb
  box := fun t s x he => h.box t s x (spent_box he)
  boxd := fun t t' s s' x x' b h1 h2 hne hb => h.boxd t t' s s' x x' b (spent_box h1) (spent_box h2) hne hb
  boxo := fun t s x b l e h1 hb h2 => h.boxo t s x b l e (spent_box h1) hb (spent_lab h2).1
  badr := fun t s p he => by
    obtain ⟨u, y, z, b, h1, r⟩ := h.badr t s p (spent_badr he)
    exact ⟨u, y, z, b, box_spent h1, r⟩

theorem spend_own (fr : Fr) (d : Nat) {l : Nat} {e : TypeId} (h : (fr.spend d l).lab = some (l, e)) : l ≠ d := (spent_lab h).2

theorem OwnRow.step {w w' : World} {S S' : Stable} {te : TypeId} {e : Sh} {v : Value} {l : List (Den e)} {row : Option Nat} (h : OwnRow w S base te e v l)
    (hk : Keeps w S w' S') (hg : w.grownBy w' row) (hne : ∀ b, v.ownBlock = some b → row ≠ some b) (hS : ∀ b o, b < w.heap.size → row ≠ some b → (S' b o ↔ S b o)) : OwnRow w' S' base te e v l := by
  obtain ⟨xs, h1, h2, h3, h4⟩ := h
  refine ⟨xs, h1.kept hg ?_, h2.mono (RdC.keeps hk e), fun b hb o => ?_, h4⟩
  · cases hv : v.ownBlock with
    | none => exact .inl rfl
    | some b => exact .inr (fun hc => hne b hv hc.symm)
  · rw [hS b o (h1.lt b hb).2 (hne b hb)]
    exact h3 b hb o

theorem BoxAt.step {w w' : World} {S S' : Stable} {b : Nat} {s : Sh} {x : Den s} {row : Option Nat} (h : BoxAt w S base b s x)
    (hk : Keeps w S w' S') (hg : w.grownBy w' row) (hne : row ≠ some b) (hS : ∀ b o, b < w.heap.size → row ≠ some b → (S' b o ↔ S b o)) : BoxAt w' S' base b s x := by
  obtain ⟨h1, h2, c, T, h3, h4⟩ := h
  have hlt : b < w.heap.size := (Array.getElem?_eq_some_iff.1 h3).1
  refine ⟨h1, fun o ho => h2 o ((hS b o hlt hne).1 ho), c, T, ?_, RdC.keeps hk s x _ h4⟩
  rw [hg.block b hlt (fun e => hne e.symm)]
  exact h3

/-- The world has grown: at most one row was written, which no slot owns and no box is. -/
theorem R.step (h : R base w0 S0 S fr a w) {w' : World} {S' : Stable} {row : Option Nat} (hg : w.grownBy w' row) (hk : Keeps w S w' S')
    (hS : ∀ b o, b < w.heap.size → row ≠ some b → (S' b o ↔ S b o)) (hlt : ∀ b o, S' b o → b < w'.heap.size)
    (hrow : ∀ g, row = some g → ¬ base g ∧ (∀ l e, (fr l).lab = some (l, e) → (a.tmps.getD l undef).ownBlock ≠ some g) ∧
      ∀ t s (x : Den s), fr t = .box s x → a.tmps.getD t undef ≠ .pointer (some ⟨g, 0, none⟩)) : R base w0 S0 S' fr a w' where
  below := h.below.grown hg h.base_le (fun g hg' => (hrow g hg').1)
  base_le := fun k hk => Nat.lt_of_lt_of_le (h.base_le k hk) hg.size
  old := fun b o hb => (hS b o (h.base_le b hb) (fun e => (hrow b e).1 hb)).trans (h.old b o hb)
  kp := h.kp.trans hk
  slt := hlt
  dfr := h.dfr
  rd := fun t => (h.rd t).keeps hk
  sls := h.sls
  cp := h.cp
  own := fun t e x te he => (h.own t e x te he).step hk hg (fun b hb hr => (hrow b hr).2.1 t te (by rw [he]; rfl) hb) hS
  dist := h.dist
  box := fun t s x he => by
    obtain ⟨b, h1, h2⟩ := h.box t s x he
    exact ⟨b, h1.step hk hg (fun hr => (hrow b hr).2.2 t s x he h2) hS, h2⟩
  boxd := h.boxd
  boxo := h.boxo
  badr := h.badr
end

end Go.Av
