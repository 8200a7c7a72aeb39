/-
  A private tree laid open: it is shared from here on.
-/
import Derived.Test.YtcfhfjjohmdaoaaDoorAvPOps5
namespace Go.Av
open Go.RowKit Go.Lib

theorem chunks_of_cells {α : Type} {R : α → List Value → Prop} {k : Nat} {cur : List Value} : ∀ (l : List α) (o : Nat), (∀ n x, l[n]? = some x → ∃ cs, R x cs ∧ cs.length = k ∧ ∀ (i : Nat) (v : Value), cs[i]? = some v → cur[(o + n) * k + i]? = some v) →
    (o + l.length) * k ≤ cur.length → Chunks R l ((cur.drop (o * k)).take (l.length * k))
  | [], o, _, _ => by simp [Chunks]
  | x :: l, o, h, hle => by
    obtain ⟨cs, h1, h2, h3⟩ := h 0 x rfl
    have ih := chunks_of_cells l (o + 1) (fun n y hn => by
      obtain ⟨cs, k1, k2, k3⟩ := h (n + 1) y (by simpa using hn)
      exact ⟨cs, k1, k2, fun i v hv => by rw [show o + 1 + n = o + (n + 1) by omega]; exact k3 i v hv⟩) (by rw [show o + 1 + l.length = o + (x :: l).length by simp; omega]; exact hle)
    simp only [List.length_cons] at hle ⊢
    rw [show (o + (l.length + 1)) * k = o * k + (l.length * k + k) by rw [Nat.add_mul, Nat.add_mul, Nat.one_mul]] at hle
    refine ⟨cs, (cur.drop ((o + 1) * k)).take (l.length * k), ?_, h1, ih⟩
    apply List.ext_getElem?
    intro i
    rw [show (l.length + 1) * k = k + l.length * k by rw [Nat.add_mul, Nat.one_mul]; omega]
    rcases Nat.lt_or_ge i k with hi | hi
    · rw [List.getElem?_append_left (by omega), List.getElem?_take_of_lt (by omega), List.getElem?_drop]
      have hlt : i < cs.length := by omega
      have := h3 i cs[i] (List.getElem?_eq_getElem hlt)
      rw [Nat.add_zero] at this
      rw [this, List.getElem?_eq_getElem hlt]
    · rw [List.getElem?_append_right (by omega), h2]
      rcases Nat.lt_or_ge i (k + l.length * k) with hj | hj
      · rw [List.getElem?_take_of_lt hj, List.getElem?_take_of_lt (by omega), List.getElem?_drop, List.getElem?_drop]
        congr 1
        rw [Nat.add_mul, Nat.one_mul]
        omega
      · rw [List.getElem?_eq_none (by simp; omega), List.getElem?_eq_none (by simp; omega)]

section
variable {base : Nat → Prop} {w0 w : World} {S0 S : Stable} {fr : Fr} {gv : Nat → Value} {a : Act} {F : Nat → Nat → Prop} {P : Program} {E : EnvP}

theorem rdc_of_row {S' : Stable} {te : TypeId} {e : Sh} {v : Value} {l : List (Den e)} {xs : List Value} (h1 : w.ownsRow 0 te e.size v l.length xs) (h2 : Chunks (RdC w S' e) l xs) (hS : ∀ b, v.ownBlock = some b → ∀ o, o < xs.length → S' b o) : RdC w S' (.sl e) l [v] := by
  simp only [RdC]
  rcases h1.2 with ⟨rfl, h0⟩ | ⟨g, cap, cur, rfl, _, k2, k3, k4, k5, k6⟩
  · have hnil : l = [] := List.eq_nil_of_length_eq_zero h0
    subst hnil
    exact ⟨none, 0, [], rfl, Nat.le_refl _, rfl, fun hh => absurd rfl hh⟩
  · refine ⟨some ⟨g, 0, none⟩, cap, xs, rfl, k3, h2, fun _ => ⟨_, rfl, rfl, fun i u hu => ⟨?_, ?_⟩⟩⟩
    · have := (List.getElem?_eq_some_iff.1 hu).1
      simp only [Nat.zero_add]
      exact hS g rfl i this
    · have c2 := h1.cells (g := g) rfl i u hu
      rw [add_eq _ _ rfl] at c2
      exact c2

/-- A private tree reads as shared data, if all its blocks are stable. -/
theorem PM.open {S' : Stable} (hS : ∀ b o, S b o → S' b o) : ∀ (p : PSh) (rd : Rdr) (x : Den p.sh) (F : Nat → Prop), PM w S p rd x F → (∀ b, F b → ∀ o, S' b o) → ∃ cs, RdC w S' p.sh x cs ∧ ∀ (i : Nat) (v : Value), cs[i]? = some v → rd i = some v
  | .leaf s, rd, x, F, h, hF => by
    simp only [PM] at h
    obtain ⟨_, cs, h1, h2⟩ := h
    exact ⟨cs, RdC.keeps (fun b o hs => ⟨hS b o hs, rfl⟩) s x cs h1, h2⟩
  | .parr n e, rd, x, F, h, hF => by
    simp only [PM] at h
    obtain ⟨_, cs, h1, h2⟩ := h
    exact ⟨cs, RdC.keeps (fun b o hs => ⟨hS b o hs, rfl⟩) (.arr n e) x cs h1, h2⟩
  | .osl te e, rd, l, F, h, hF => by
    simp only [PM] at h
    obtain ⟨v, h1, ⟨xs, h2, h3⟩, h4, h5⟩ := h
    refine ⟨[v], rdc_of_row h2 (h3.mono (RdC.keeps (fun b o hs => ⟨hS b o hs, rfl⟩) e)) (fun b hb o _ => hF b ((h4 b).2 hb) o), fun i u hu => ?_⟩
    cases i with
    | zero => simp at hu; subst hu; exact h1
    | succ i => simp at hu
  | .psl te e, rd, l, F, h, hF => by
    simp only [PM] at h
    obtain ⟨v, h1, h2⟩ := h
    refine ⟨[v], ?_, fun i u hu => ?_⟩
    · rcases h2 with ⟨rfl, h3, _⟩ | ⟨g, cap, cur, Fe, rfl, k2, k3, k4, k5, k6, k7, k8, k9, k10, k11⟩
      · have h3' : l = [] := h3
        subst h3'
        simp only [RdC]
        exact ⟨none, 0, [], rfl, Nat.le_refl _, rfl, fun hh => absurd rfl hh⟩
      · have hle : List.length l * e.size ≤ cur.toList.length := by rw [show cur.toList.length = cur.size from Array.length_toList, k5]; exact Nat.mul_le_mul_right _ k3
        have hch : Chunks (RdC w S' e.sh) l ((cur.toList.drop (0 * e.size)).take (List.length l * e.size)) := chunks_of_cells l 0 (fun n x hn => by
          obtain ⟨cs, m1, m2⟩ := PM.open hS e _ x (Fe n) (k7 n x hn) (fun b hb o => hF b ((k11 b).2 (.inr ⟨n, hb⟩)) o)
          have hl := RdC.length _ _ _ m1
          rw [PSh.size_eq] at hl
          refine ⟨cs, m1, hl, fun i v hv => ?_⟩
          have := m2 i v hv
          simp only [blkR, World.cell?, k2, Option.isSome_none, Bool.false_eq_true, if_false] at this
          rw [Nat.zero_add, Array.getElem?_toList]
          exact this) (by rw [Nat.zero_add]; exact hle)
        rw [Nat.zero_mul, List.drop_zero] at hch
        simp only [RdC]
        refine ⟨some ⟨g, 0, none⟩, cap, _, rfl, k3, hch, fun _ => ⟨_, rfl, rfl, fun i u hu => ⟨?_, ?_⟩⟩⟩
        · exact hF g ((k11 g).2 (.inl rfl)) _
        · have hi := (List.getElem?_eq_some_iff.1 hu).1
          rw [List.length_take] at hi
          rw [List.getElem?_take_of_lt (by omega), Array.getElem?_toList] at hu
          simp only [World.cell?, k2, Option.isSome_none, Bool.false_eq_true, if_false, Nat.zero_add]
          exact hu
    · cases i with
      | zero => simp at hu; subst hu; exact h1
      | succ i => simp at hu
  | .ppair a b, rd, x, F, h, hF => by
    simp only [PM] at h
    obtain ⟨F1, F2, h1, h2, _, h4⟩ := h
    obtain ⟨c1, k1, k2⟩ := PM.open hS a rd x.1 F1 h1 (fun k hk => hF k ((h4 k).2 (.inl hk)))
    obtain ⟨c2, k3, k4⟩ := PM.open hS b _ x.2 F2 h2 (fun k hk => hF k ((h4 k).2 (.inr hk)))
    have hl := RdC.length _ _ _ k1
    rw [PSh.size_eq] at hl
    refine ⟨c1 ++ c2, ?_, fun i v hv => ?_⟩
    · simp only [RdC]
      exact ⟨c1, c2, rfl, k1, k3⟩
    · rcases Nat.lt_or_ge i c1.length with hlt | hge
      · rw [List.getElem?_append_left hlt] at hv
        exact k2 i v hv
      · rw [List.getElem?_append_right hge] at hv
        have := k4 _ v hv
        rw [hl] at this hge
        rw [show a.size + (i - a.size) = i by omega] at this
        exact this

/-- Blocks that were kept are laid open. -/
theorem R.reveal {B X : Nat → Prop} (h : R B w S S fr a w) (hXB : ∀ b, X b → B b) {S' : Stable} (hS : ∀ b o, S b o → S' b o) (hS2 : ∀ b o, ¬ X b → (S' b o ↔ S b o)) (hlt : ∀ b o, S' b o → b < w.heap.size) {fr' : Fr} {s : Nat}
    (hfr : ∀ t, fr' t = fr t ∨ ((fr t).vague = true ∧ Rd w S' (a.tmps.getD t undef) (fr' t) ∧ (∀ u (x : Den u), fr' t ≠ .box u x) ∧ (∀ u r, fr' t ≠ .badr u r) ∧ (∀ u (x : Den u) l, fr' t = .dat u x (some l) → ∃ e, u = .sl e) ∧
      ∀ l te, (fr' t).lab = some (l, te) → l = s ∧ fr' t = fr' s ∧ a.tmps.getD t undef = a.tmps.getD s undef))
    (hs : (fr s).vague = true) (hown : ∀ te e (x : List (Den e)), fr' s = .dat (.sl e) x (some (s, te)) → OwnRow w S' (fun k => B k ∧ ¬ X k) te e (a.tmps.getD s undef) x ∧ ∀ b, (a.tmps.getD s undef).ownBlock = some b → X b) :
    R (fun k => B k ∧ ¬ X k) w S' S' fr' a w := by
  have hk : Keeps w S w S' := fun b o hs => ⟨hS b o hs, rfl⟩
  -- what bears a label is as it was, or is the one laid open
  have hlab : ∀ t l te, (fr' t).lab = some (l, te) → (fr' t = fr t ∧ l ≠ s) ∨ (l = s ∧ fr' t = fr' s ∧ a.tmps.getD t undef = a.tmps.getD s undef) := fun t l te he => by
    rcases hfr t with e | ⟨_, _, _, _, _, e⟩
    · left
      refine ⟨e, ?_⟩
      rintro rfl
      rw [e] at he
      have := (h.cp t _ te he).1
      rw [this] at hs
      rw [vague_lab hs] at he
      cases he
    · exact .inr (e l te he)
  have hold : ∀ t l te, (fr t).lab = some (l, te) → fr' t = fr t := fun t l te he => by
    rcases hfr t with e | ⟨e, _⟩
    · exact e
    · rw [vague_lab e] at he; cases he
  have hbx : ∀ t u (x : Den u), fr' t = .box u x → fr' t = fr t := fun t u x he => by
    rcases hfr t with e | ⟨_, _, e, _⟩
    · exact e
    · exact absurd he (e u x)
  have hbx' : ∀ t u (x : Den u), fr t = .box u x → fr' t = fr t := fun t u x he => by
    rcases hfr t with e | ⟨e, _⟩
    · exact e
    · rw [he] at e; cases e
  have hxo : ∀ t l te b, (fr t).lab = some (l, te) → (a.tmps.getD t undef).ownBlock = some b → ¬ X b := fun t l te b hl hb hX => by
    have h1 := h.cp t l te hl
    have h2 : (fr l).lab = some (l, te) := by rw [h1.1]; exact hl
    cases hf : fr l with
    | dat u x o =>
      rw [hf] at h2
      simp only [AV.lab] at h2
      subst h2
      obtain ⟨e, rfl⟩ := h.sls l u x _ hf
      obtain ⟨_, _, _, _, k4⟩ := h.own l e x te hf
      exact k4 b (by rw [h1.2]; exact hb) (hXB b hX)
    | _ => rw [hf] at h2; simp [AV.lab] at h2
  have hxb : ∀ t u (x : Den u) b, fr t = .box u x → a.tmps.getD t undef = .pointer (some ⟨b, 0, none⟩) → ¬ X b := fun t u x b hf hb hX => by
    obtain ⟨b', ⟨k1, _⟩, k2⟩ := h.box t u x hf
    rw [hb] at k2
    obtain rfl : b = b' := by simpa using k2
    exact k1 (hXB b hX)
  have hxs : ∀ te, (fr' s).lab = some (s, te) → ∀ b, (a.tmps.getD s undef).ownBlock = some b → X b := fun te he b hb => by
    cases hf : fr' s with
    | dat u x o =>
      rw [hf] at he
      simp only [AV.lab] at he
      subst he
      have : ∃ e, u = .sl e := by
        rcases hfr s with e | ⟨_, _, _, _, e, _⟩
        · rw [e] at hf; rw [hf] at hs; cases hs
        · exact e u x _ hf
      obtain ⟨e, rfl⟩ := this
      exact (hown te e x hf).2 b hb
    | _ => rw [hf] at he; simp [AV.lab] at he
  exact {
    below := Kept.refl _ _
    base_le := fun k hk => h.base_le k hk.1
    old := fun _ _ _ => Iff.rfl
    kp := Keeps.refl _ _
    slt := hlt
    dfr := h.dfr
    rd := fun t => by
      rcases hfr t with e | ⟨_, e, _⟩
      · rw [e]; exact (h.rd t).keeps hk
      · exact e
    cp := fun t l te he => by
      rcases hlab t l te he with ⟨e, hne⟩ | ⟨rfl, e2, e3⟩
      · rw [e] at he
        obtain ⟨k1, k2⟩ := h.cp t l te he
        exact ⟨by rw [e, hold l l te (by rw [k1]; exact he), k1], k2⟩
      · exact ⟨e2.symm, e3.symm⟩
    sls := fun t u x l he => by
      rcases hfr t with e | ⟨_, _, _, _, e, _⟩
      · exact h.sls t u x l (by rw [← e]; exact he)
      · exact e u x l he
    own := fun t e x te he => by
      rcases hlab t t te (by rw [he]; rfl) with ⟨e1, hne⟩ | ⟨rfl, _, _⟩
      · rw [e1] at he
        obtain ⟨xs, k1, k2, k3, k4⟩ := h.own t e x te he
        exact ⟨xs, k1, k2.mono (RdC.keeps hk e), fun b hb o => (hS2 b o (hxo t t te b (by rw [he]; rfl) hb)).trans (k3 b hb o), fun b hb hB => k4 b hb hB.1⟩
      · exact (hown te e x he).1
    dist := fun l l' te te' b h1 h2 hne hb hc => by
      rcases hlab l l te h1 with ⟨e1, n1⟩ | ⟨rfl, _, _⟩
      · rcases hlab l' l' te' h2 with ⟨e2, n2⟩ | ⟨rfl, _, _⟩
        · rw [e1] at h1
          rw [e2] at h2
          exact h.dist l l' te te' b h1 h2 hne hb hc
        · rw [e1] at h1
          exact hxo l l te b h1 hb (hxs te' h2 b hc)
      · rcases hlab l' l' te' h2 with ⟨e2, n2⟩ | ⟨rfl, _, _⟩
        · rw [e2] at h2
          exact hxo l' l' te' b h2 hc (hxs te h1 b hb)
        · exact hne rfl
    box := fun t u x he => by
      have e1 := hbx t u x he
      obtain ⟨b, ⟨k1, k2, c, T, k3, k4⟩, k5⟩ := h.box t u x (by rw [← e1]; exact he)
      exact ⟨b, ⟨fun hB => k1 hB.1, fun o ho => k2 o ((hS2 b o (hxb t u x b (by rw [← e1]; exact he) k5)).1 ho), c, T, k3, RdC.keeps hk _ _ _ k4⟩, k5⟩
    boxd := fun t t' u u' x x' b h1 h2 => by
      have e1 := hbx t u x h1
      have e2 := hbx t' u' x' h2
      exact h.boxd t t' u u' x x' b (by rw [← e1]; exact h1) (by rw [← e2]; exact h2)
    boxo := fun t u x b l te h1 hb h2 hc => by
      have e1 := hbx t u x h1
      rcases hlab l l te h2 with ⟨e2, _⟩ | ⟨rfl, _, _⟩
      · exact h.boxo t u x b l te (by rw [← e1]; exact h1) hb (by rw [← e2]; exact h2) hc
      · exact hxb t u x b (by rw [← e1]; exact h1) hb (hxs te h2 b hc)
    badr := fun t u r he => by
      rcases hfr t with e | ⟨_, _, _, e, _⟩
      · obtain ⟨u1, y, z, g, k1, k2⟩ := h.badr t u r (by rw [← e]; exact he)
        exact ⟨u1, y, z, g, by rw [hbx' u u1 y k1]; exact k1, k2⟩
      · exact absurd he (e u r) }

theorem isRef_vague {v : AV} (h : v.isRef = true) : v.vague = true := by cases v <;> first | rfl | cases h

/-- A value whose cells are a datum's. -/
theorem rdv_of_val {S' : Stable} {p : PSh} {x : Den p.sh} {v : Value} {cs : List Value} (hv : valOk p v) (h1 : RdC w S' p.sh x cs) (h2 : ∀ (i : Nat) (u : Value), cs[i]? = some u → v.cells[i]? = some u) : RdV w S' p.sh x v := by
  have hl := RdC.length _ _ _ h1
  rw [PSh.size_eq] at hl
  have hag : p.sh.agg = p.agg := by cases p <;> rfl
  unfold RdV
  unfold valOk at hv
  rw [hag]
  split
  · rename_i ha
    rw [if_pos ha] at hv
    obtain ⟨cc, rfl, hs⟩ := hv
    refine ⟨cc, rfl, ?_⟩
    have : cc.toList = cs := by
      apply List.ext_getElem?
      intro i
      rcases Nat.lt_or_ge i cs.length with hlt | hge
      · have := h2 i cs[i] (List.getElem?_eq_getElem hlt)
        rw [List.getElem?_eq_getElem hlt, Array.getElem?_toList]
        exact this
      · rw [List.getElem?_eq_none hge, List.getElem?_eq_none (by simp; omega)]
    rw [this]
    exact h1
  · rename_i ha
    rw [if_neg ha] at hv
    have hc : v.cells.toList = [v] := by cases v <;> first | rfl | (simp [Value.oneCell'] at hv)
    have h1s : p.size = 1 := by
      rw [← PSh.size_eq]
      exact size_one (by rw [hag]; simpa using ha)
    match cs, hl.trans h1s with
    | [u], _ =>
      have := h2 0 u rfl
      have h3 : v.cells[0]? = some v := by cases v <;> first | rfl | (simp [Value.oneCell'] at hv)
      rw [h3] at this
      obtain rfl := Option.some.inj this
      exact h1

/-- How far a tree's blocks are stable once it is laid open. -/
def openLim : (p : PSh) → Den p.sh → Nat → Prop
  | .osl _ e, l, o => o < List.length l * e.size
  | .psl _ e, l, o => match e, l with
    | .leaf u, l => o < List.length l * u.size
    | _, _ => True
  | _, _, _ => True

def AV.labelled : AV → Bool
  | .dat _ _ (some _) => true
  | _ => false

/-- What a whole tree reads as, laid open. -/
theorem open_whole {p : PSh} {x : Den p.sh} {v : Value} {F : Nat → Prop} (hv : valOk p v) (hp : PM w S p (valR v) x F) (s : Nat) :
    Rd w (fun b o => S b o ∨ (F b ∧ openLim p x o)) v (openV s p x) ∧ (∀ u (y : Den u), openV s p x ≠ .box u y) ∧ (∀ u r, openV s p x ≠ .badr u r) ∧ (∀ u (y : Den u) l, openV s p x = .dat u y (some l) → ∃ e, u = .sl e) ∧
      (∀ l te, (openV s p x).lab = some (l, te) → l = s) ∧
      ∀ te e (y : List (Den e)) (B : Nat → Prop), openV s p x = .dat (.sl e) y (some (s, te)) → (∀ b, F b → ¬ B b) → OwnRow w (fun b o => S b o ∨ (F b ∧ openLim p x o)) B te e v y ∧ ∀ b, v.ownBlock = some b → F b := by
  have gen : (∀ o, openLim p x o) → ∃ cs, RdC w (fun b o => S b o ∨ (F b ∧ openLim p x o)) p.sh x cs ∧ ∀ (i : Nat) (u : Value), cs[i]? = some u → v.cells[i]? = some u := fun hl =>
    PM.open (fun b o hs => .inl hs) p _ x F hp (fun b hb o => .inr ⟨hb, hl o⟩)
  have row : ∀ (te : TypeId) (e : Sh) (l : List (Den e)) (S' : Stable) (xs : List Value), (∀ b o, S b o → S' b o) → w.ownsRow 0 te e.size v l.length xs → Chunks (RdC w S' e) l xs → (∀ b, v.ownBlock = some b → F b ∧ ∀ o, (S' b o ↔ o < l.length * e.size)) →
      Rd w S' v (.dat (.sl e) l (some (s, te))) ∧ ∀ B : Nat → Prop, (∀ b, F b → ¬ B b) → OwnRow w S' B te e v l ∧ ∀ b, v.ownBlock = some b → F b := fun te e l S' xs hS h1 h2 h3 => by
    have hl := Chunks.length (RdC.length e) h2
    refine ⟨.dat _ _ _ _ ?_, fun B hB => ⟨⟨xs, h1, h2, fun b hb o => (h3 b hb).2 o, fun b hb => hB b (h3 b hb).1⟩, fun b hb => (h3 b hb).1⟩⟩
    unfold RdV
    exact rdc_of_row h1 h2 (fun b hb o ho => ((h3 b hb).2 o).2 (by omega))
  cases p with
  | leaf u =>
    obtain ⟨cs, h1, h2⟩ := gen (fun _ => trivial)
    exact ⟨.dat _ _ _ _ (rdv_of_val hv h1 h2), (fun _ _ e => by cases e), (fun _ _ e => by cases e), (fun _ _ _ e => by cases e), (fun _ _ e => by cases e), (fun _ _ _ _ e => by cases e)⟩
  | parr n u =>
    obtain ⟨cs, h1, h2⟩ := gen (fun _ => trivial)
    exact ⟨.dat _ _ _ _ (rdv_of_val hv h1 h2), (fun _ _ e => by cases e), (fun _ _ e => by cases e), (fun _ _ _ e => by cases e), (fun _ _ e => by cases e), (fun _ _ _ _ e => by cases e)⟩
  | ppair b c =>
    obtain ⟨cs, h1, h2⟩ := gen (fun _ => trivial)
    exact ⟨.dat _ _ _ _ (rdv_of_val hv h1 h2), (fun _ _ e => by cases e), (fun _ _ e => by cases e), (fun _ _ _ e => by cases e), (fun _ _ e => by cases e), (fun _ _ _ _ e => by cases e)⟩
  | osl te e =>
    simp only [PM] at hp
    obtain ⟨v', h1, ⟨xs, h2, h3⟩, h4, h5⟩ := hp
    have hvv : v' = v := by
      have h3' : v.cells[0]? = some v := valOk_cells hv rfl
      have h1' : v.cells[0]? = some v' := h1
      rw [h3'] at h1'
      exact (Option.some.inj h1').symm
    subst hvv
    obtain ⟨k1, k2⟩ := row te e x (fun b o => S b o ∨ (F b ∧ openLim (.osl te e) x o)) xs (fun b o hs => .inl hs) h2 (h3.mono (RdC.keeps (fun b o hs => ⟨.inl hs, rfl⟩) e))
      (fun b hb => ⟨(h4 b).2 hb, fun o => ⟨fun hh => hh.elim (fun hh => (h5 b ((h4 b).2 hb) o).1 hh) (·.2), fun hh => .inl ((h5 b ((h4 b).2 hb) o).2 hh)⟩⟩)
    refine ⟨k1, (fun _ _ e => by cases e), (fun _ _ e => by cases e), fun _ _ _ e => ⟨_, (AV.dat.inj e).1.symm⟩, fun l te' e => (by simp only [openV, AV.lab, Option.some.injEq, Prod.mk.injEq] at e; exact e.1.symm), fun te' e' y B he hB => ?_⟩
    simp only [openV, AV.dat.injEq, Sh.sl.injEq] at he
    obtain ⟨rfl, e2, e3⟩ := he
    obtain rfl := eq_of_heq e2
    simp only [Option.some.injEq, Prod.mk.injEq, true_and] at e3
    subst e3
    exact k2 B hB
  | psl te e =>
    by_cases hleaf : ∃ u, e = .leaf u
    · obtain ⟨u, rfl⟩ := hleaf
      simp only [PM] at hp
      obtain ⟨v', h1, h2⟩ := hp
      have hvv : v' = v := by
        have h3' : v.cells[0]? = some v := valOk_cells hv rfl
        have h1' : v.cells[0]? = some v' := h1
        rw [h3'] at h1'
        exact (Option.some.inj h1').symm
      subst hvv
      have hrow : ∃ xs, w.ownsRow 0 te u.size v' (List.length x) xs ∧ Chunks (RdC w S u) x xs ∧ ∀ b, v'.ownBlock = some b → F b ∧ ∀ o, ¬ S b o := by
        rcases h2 with ⟨rfl, h3, _⟩ | ⟨g, cap, cur, Fe, rfl, k2, k3, k4, k5, k6, k7, k8, k9, k10, k11⟩
        · have h3' : x = [] := h3
          subst h3'
          exact ⟨[], World.ownsRow_nil w _ _ _, rfl, fun b hb => by cases hb⟩
        · have hsz : (PSh.leaf u).size = u.size := rfl
          have hle : List.length x * u.size ≤ cur.toList.length := by rw [show cur.toList.length = cur.size from Array.length_toList, k5]; exact Nat.mul_le_mul_right _ k3
          have hch : Chunks (RdC w S u) x ((cur.toList.drop (0 * u.size)).take (List.length x * u.size)) := chunks_of_cells x 0 (fun n y hn => by
            have := k7 n y hn
            simp only at this
            obtain ⟨_, cs, m1, m2⟩ := this
            refine ⟨cs, m1, RdC.length _ _ _ m1, fun i z hz => ?_⟩
            have := m2 i z hz
            simp only [blkR, World.cell?, k2, Option.isSome_none, Bool.false_eq_true, if_false] at this
            rw [Nat.zero_add, Array.getElem?_toList]
            exact this) (by rw [Nat.zero_add]; exact hle)
          rw [Nat.zero_mul, List.drop_zero] at hch
          refine ⟨_, ⟨by rw [List.length_take]; omega, .inr ⟨g, cap, cur, rfl, Nat.zero_le _, k2, k3, k4, k5, rfl⟩⟩, hch, fun b hb => ?_⟩
          simp only [Value.ownBlock, Option.some.injEq] at hb
          subst hb
          exact ⟨(k11 _).2 (.inl rfl), k6⟩
      obtain ⟨xs, h3, h4, h5⟩ := hrow
      obtain ⟨k1, k2⟩ := row te u x (fun b o => S b o ∨ (F b ∧ openLim (.psl te (.leaf u)) x o)) xs (fun b o hs => .inl hs) h3 (h4.mono (RdC.keeps (fun b o hs => ⟨.inl hs, rfl⟩) u))
        (fun b hb => ⟨(h5 b hb).1, fun o => ⟨fun hh => hh.elim (fun hh => absurd hh ((h5 b hb).2 o)) (·.2), fun hh => .inr ⟨(h5 b hb).1, hh⟩⟩⟩)
      refine ⟨k1, (fun _ _ e => by cases e), (fun _ _ e => by cases e), fun _ _ _ e => ⟨_, (AV.dat.inj e).1.symm⟩, fun l te' e => (by simp only [openV, AV.lab, Option.some.injEq, Prod.mk.injEq] at e; exact e.1.symm), fun te' e' y B he hB => ?_⟩
      simp only [openV, AV.dat.injEq, Sh.sl.injEq] at he
      obtain ⟨rfl, e2, e3⟩ := he
      obtain rfl := eq_of_heq e2
      simp only [Option.some.injEq, Prod.mk.injEq, true_and] at e3
      subst e3
      exact k2 B hB
    · have ho : openV s (.psl te e) x = .dat (.sl e.sh) x none := by cases e <;> first | rfl | exact absurd ⟨_, rfl⟩ hleaf
      have hlim : ∀ o, openLim (.psl te e) x o := fun o => by cases e <;> first | trivial | exact absurd ⟨_, rfl⟩ hleaf
      obtain ⟨cs, h1, h2⟩ := gen hlim
      rw [ho]
      exact ⟨.dat _ _ _ _ (rdv_of_val hv h1 h2), (fun _ _ e => by cases e), (fun _ _ e => by cases e), (fun _ _ _ e => by cases e), (fun _ _ e => by cases e), (fun _ _ _ _ e => by cases e)⟩
end
end Go.Av
