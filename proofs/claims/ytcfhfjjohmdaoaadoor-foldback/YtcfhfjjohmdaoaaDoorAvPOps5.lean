/-
  What is made becomes private; what is private is laid open.
-/
import Derived.Test.YtcfhfjjohmdaoaaDoorAvPOps4
namespace Go.Av
open Go.RowKit Go.Lib

theorem RdC.flat {w w' : World} {S S' : Stable} : ∀ (s : Sh) (x : Den s) (vs : List Value), s.flat = true → RdC w S s x vs → RdC w' S' s x vs
  | .bool, _, _, _, h => by simpa only [RdC] using h
  | .byte, _, _, _, h => by simpa only [RdC] using h
  | .int _, _, _, _, h => by simpa only [RdC] using h
  | .str, _, _, _, h => by simpa only [RdC] using h
  | .sl e, _, _, hf, _ => by cases hf
  | .unit, _, _, _, h => by simpa only [RdC] using h
  | .pair a b, _, _, hf, h => by
    simp only [Sh.flat, Bool.and_eq_true] at hf
    simp only [RdC] at h ⊢
    obtain ⟨v1, v2, e, h1, h2⟩ := h
    exact ⟨v1, v2, e, RdC.flat a _ _ hf.1 h1, RdC.flat b _ _ hf.2 h2⟩
  | .arr n e, l, vs, hf, h => by
    simp only [RdC] at h ⊢
    exact ⟨h.1, h.2.mono (fun x vs hx => RdC.flat e x vs hf hx)⟩

/-- A row's cells, element by element. -/
theorem chunks_cells {α : Type} {R : α → List Value → Prop} {k : Nat} (hR : ∀ x vs, R x vs → vs.length = k) {l : List α} {xs : List Value} (h : Chunks R l xs) {w : World} {g : Nat} {cur : Array Value} {te : TypeId} {fz : Nat × Nat}
    (hg : w.heap[g]? = some (.cells cur te fz)) (hx : cur.toList.take (l.length * k) = xs) {n : Nat} {x : α} (hn : l[n]? = some x) : ∃ cs, R x cs ∧ ∀ (i : Nat) (v : Value), cs[i]? = some v → blkR w g (n * k) i = some v := by
  obtain ⟨hlt, rfl⟩ := List.getElem?_eq_some_iff.1 hn
  refine ⟨_, Chunks.at hR n h hlt, fun i v hv => ?_⟩
  have hlen := Chunks.length hR h
  have hi := (List.getElem?_eq_some_iff.1 hv).1
  simp only [List.length_take, List.length_drop] at hi
  rw [List.getElem?_take_of_lt (by omega), List.getElem?_drop, ← hx] at hv
  have hle : (n + 1) * k ≤ l.length * k := Nat.mul_le_mul_right _ hlt
  rw [Nat.add_mul, Nat.one_mul] at hle
  rw [List.getElem?_take_of_lt (by omega), Array.getElem?_toList] at hv
  simp only [blkR, World.cell?, hg, Option.isSome_none, Bool.false_eq_true, if_false]
  exact hv

section
variable {base : Nat → Prop} {w0 w : World} {S0 S : Stable} {fr : Fr} {gv : Nat → Value} {a : Act} {F : Nat → Nat → Prop} {P : Program} {E : EnvP}

theorem R.widen {B X : Nat → Prop} (h : R B w S S fr a w) (hX : ∀ k, X k → k < w.heap.size) (ho : ∀ t l e b, (fr t).lab = some (l, e) → (a.tmps.getD t undef).ownBlock = some b → ¬ X b)
    (hb : ∀ t s (x : Den s) b, fr t = .box s x → a.tmps.getD t undef = .pointer (some ⟨b, 0, none⟩) → ¬ X b) : R (fun k => B k ∨ X k) w S S fr a w where
  below := Kept.refl _ _
  base_le := fun k hk => hk.elim (h.base_le k) (hX k)
  old := fun _ _ _ => Iff.rfl
  kp := Keeps.refl _ _
  slt := h.slt
  dfr := h.dfr
  rd := h.rd
  cp := h.cp
  sls := h.sls
  own := fun t e x te he => by
    obtain ⟨xs, h1, h2, h3, h4⟩ := h.own t e x te he
    exact ⟨xs, h1, h2, h3, fun b hb' hk => hk.elim (h4 b hb') (ho t t te b (by rw [he]; rfl) hb')⟩
  dist := h.dist
  box := fun t s x he => by
    obtain ⟨b, ⟨h1, h2⟩, h3⟩ := h.box t s x he
    exact ⟨b, ⟨fun hk => hk.elim h1 (hb t s x b he h3), h2⟩, h3⟩
  boxd := h.boxd
  boxo := h.boxo
  badr := h.badr

/-- A new tree in a slot; the world has grown by it. -/
theorem RP.newRoot (h : RP base w0 S0 S fr gv a w F) {d : Nat} (hd : d < a.tmps.size) {val : Value} {v : AV} {S' : Stable} {w' : World} (g : Grew w S w' S') {Fd : Nat → Prop} (hnew : ∀ b, Fd b → w.heap.size ≤ b ∧ b < w'.heap.size)
    (hv : v.isRoot = true) (hr : RootAny w' S' Fd v val) : RP base w0 S0 S' (fr.putP d v) gv (a.put (some d) val) w' (fun t b => (t = d ∧ Fd b) ∨ (t ≠ d ∧ F t b)) := by
  have hk := g.keeps h.r.slt
  have htv : ∀ t, t ≠ d → tv gv (a.put (some d) val) t = tv gv a t := fun t ht => by rw [tv_put gv a d val t hd, if_neg ht]
  have htd : tv gv (a.put (some d) val) d = val := by rw [tv_put gv a d val d hd, if_pos rfl]
  have hvague := vague_of_root hv
  have hplain : v.plain = true := by cases v <;> first | rfl | cases hv
  have hR0 : R (fun k => base k ∨ ∃ t, F t k) w S S' ((fr.sweep d).put d v) (a.put (some d) val) w' := ((h.rsweep d).grow g).put_plain hd (vague_rd hvague _ _ _) hplain
  have hR1 := hR0.rebase (b2 := fun k => base k ∨ ∃ t, t ≠ d ∧ F t k) (fun k hk => hk.imp id (fun ⟨t, ht⟩ => ⟨t, ht.2⟩))
  -- the labels and boxes lie in what was there
  have hlab : ∀ t l e b, ((fr.sweep d).put d v t).lab = some (l, e) → ((a.put (some d) val).tmps.getD t undef).ownBlock = some b → b < w.heap.size := fun t l e b hl hb => by
    unfold Fr.put at hl
    split at hl
    · rw [vague_lab hvague] at hl; cases hl
    · rename_i ht
      rw [getD_put a d val t hd, if_neg ht] at hb
      exact (h.rsweep d).own_lt' (drop_lab hl).1 hb
  have hbox : ∀ t s (x : Den s) b, (fr.sweep d).put d v t = .box s x → (a.put (some d) val).tmps.getD t undef = .pointer (some ⟨b, 0, none⟩) → b < w.heap.size := fun t s x b hl hb => by
    unfold Fr.put at hl
    split at hl
    · rw [hl] at hv; cases hv
    · rename_i ht
      rw [getD_put a d val t hd, if_neg ht] at hb
      exact (h.rsweep d).box_lt (drop_box hl) hb
  have hR2 := hR1.widen (X := Fd) (fun k hk => (hnew k hk).2) (fun t l e b hl hb hX => by have := hlab t l e b hl hb; have := (hnew b hX).1; omega)
    (fun t s x b hl hb hX => by have := hbox t s x b hl hb; have := (hnew b hX).1; omega)
  refine h.upd (fun t => t = d) (hR2.rebase (fun k hk => ?_)) ⟨g.below.os, g.below.tape, g.below.output, g.below.size, fun k hk => g.below.block k (h.base_le hk)⟩ (fun b o hB => g.old b o (h.base_le hB)) hk
    (fun t ht b => ⟨fun hh => hh.elim (fun hh => absurd hh.1 ht) (·.2), fun hh => .inr ⟨ht, hh⟩⟩) (fun t b _ hb => g.below.block b (h.lt hb)) (fun t b o _ hb => g.old b o (h.lt hb))
    (fun t ht => ?_) (fun t b ht hb => ?_) (fun t t' b ht hne hb hb' => ?_) (fun t ht hr' b hb => ?_) (fun t ht hr' => ?_) (fun t s r ht => ?_) (fun t s r ht => ?_)
  · rcases hk with hk | ⟨t, ⟨rfl, ht⟩ | ht⟩
    · exact .inl (.inl hk)
    · exact .inr ht
    · exact .inl (.inr ⟨t, ht⟩)
  · obtain ⟨e1, e2⟩ := putP_root fr d v ht
    exact ⟨e1, fun hh => ⟨e2 hh, htv t ht⟩⟩
  · subst ht
    rcases hb with hb | hb
    · intro hB
      have := h.base_le hB
      have := (hnew b hb.2).1
      omega
    · exact absurd rfl hb.1
  · subst ht
    rcases hb with hb | hb
    · rcases hb' with hb' | hb'
      · exact hne hb'.1.symm
      · have := h.lt hb'.2
        have := (hnew b hb.2).1
        omega
    · exact absurd rfl hb.1
  · subst ht
    rw [putP_self, hv] at hr'
    cases hr'
  · subst ht
    rw [putP_self, htd]
    have e : (fun b => (t = t ∧ Fd b) ∨ (t ≠ t ∧ F t b)) = Fd := funext fun b => propext ⟨fun hh => hh.elim (·.2) (fun hh => absurd rfl hh.1), fun hh => .inl ⟨rfl, hh⟩⟩
    rw [e]
    exact hr
  · by_cases htd' : t = d
    · subst htd'
      rw [putP_self] at ht
      rw [ht] at hv
      cases hv
    · obtain ⟨e1, e2⟩ := putP_adr ht htd'
      exact .inl ⟨e2, e1, htv t htd'⟩
  · by_cases htd' : t = d
    · subst htd'
      rw [putP_self] at ht
      rw [ht] at hv
      cases hv
    · obtain ⟨e1, e2⟩ := putP_val ht htd'
      exact .inl ⟨e2, e1, htv t htd'⟩

/-- A slice that was made and is its own: private. -/
theorem own_private {w' : World} {S' : Stable} {te : TypeId} {e : Sh} {val : Value} {l : List (Den e)} (hg : Grew w S w' S') (hown : OwnRow w' S' (· < w.heap.size) te e val l) (hf : e.flat = true) :
    Grew w S w' (fun b o => S' b o ∧ val.ownBlock ≠ some b) ∧ RootAny w' (fun b o => S' b o ∧ val.ownBlock ≠ some b) (fun b => val.ownBlock = some b) (.pv (.psl te (.leaf e)) l none) val ∧ ∀ b, val.ownBlock = some b → w.heap.size ≤ b ∧ b < w'.heap.size := by
  obtain ⟨xs, h1, h2, h3, h4⟩ := hown
  have hnew : ∀ b, val.ownBlock = some b → w.heap.size ≤ b ∧ b < w'.heap.size := fun b hb => ⟨Nat.le_of_not_lt (h4 b hb), (h1.lt b hb).2⟩
  refine ⟨⟨hg.below, fun b o hb => ⟨fun hh => (hg.old b o hb).1 hh.1, fun hh => ⟨(hg.old b o hb).2 hh, fun e => by have := (hnew b e).1; omega⟩⟩, fun b o hh => hg.lt b o hh.1⟩, ?_, hnew⟩
  have hone : val.oneCell' = true := by
    rcases h1.2 with ⟨rfl, _⟩ | ⟨g, cap, cur, rfl, _⟩ <;> rfl
  have hpm : PM w' (fun b o => S' b o ∧ val.ownBlock ≠ some b) (.psl te (.leaf e)) (valR val) l (fun b => val.ownBlock = some b) := by
    simp only [PM]
    refine ⟨val, by show val.cells[0]? = some val; cases val <;> first | rfl | (simp [Value.oneCell'] at hone), ?_⟩
    rcases h1.2 with ⟨rfl, h0⟩ | ⟨g, cap, cur, rfl, _, k2, k3, k4, k5, k6⟩
    · exact .inl ⟨rfl, List.eq_nil_of_length_eq_zero h0, fun b hb => by cases hb⟩
    · refine .inr ⟨g, cap, cur, fun _ _ => False, rfl, k2, k3, k4, k5, fun o ho => ho.2 rfl, fun n x hn => ?_, fun _ _ _ h => h, fun _ _ _ _ h => h.elim, fun _ _ h => h.elim, fun b => ?_⟩
      · obtain ⟨cs, m1, m2⟩ := chunks_cells (RdC.length e) h2 k2 k6 hn
        exact ⟨fun _ h => h, cs, RdC.flat e x cs hf m1, m2⟩
      · simp [Value.ownBlock, eq_comm]
  have hvk : valOk (.psl te (.leaf e)) val := by unfold valOk PSh.agg; simpa using hone
  have hcore : PM w' (fun b o => S' b o ∧ val.ownBlock ≠ some b) (.psl te (.leaf e)) ((Spot.val val).rdr w') l (fun b => val.ownBlock = some b ∧ (Spot.val val).block ≠ some b) := hpm.congrF fun b => ⟨fun hb => ⟨hb, fun e => by cases e⟩, fun hb => hb.1⟩
  exact .tree _ _ (.psl te (.leaf e)) l none (.val val) (.pv _ _ _ _ hvk) ⟨(fun g hg => by cases hg), hcore, (fun v hv hsl => by cases hv; exact hdr_mono (hdr_of_core hvk hcore hsl) (fun b hb => hb.1))⟩

/-- The contracts that a reading goes by, and what is laid. -/
def GlOk (gl : Nat → Option (Sigma Den)) (w : World) (S : Stable) : Prop := ∀ g s (x : Den s), gl g = some ⟨s, x⟩ → Rd w S (.pointer (some ⟨g, 0, none⟩)) (.adr s x)
theorem GlOk.keeps {gl : Nat → Option (Sigma Den)} {w w' : World} {S S' : Stable} (h : GlOk gl w S) (hk : Keeps w S w' S') : GlOk gl w' S' := fun g s x e => (h g s x e).keeps hk

theorem RP.made (h : RP base w0 S0 S fr gv a w F) (hT : TyOk P E.toEnv) (hF : FnsOk P E.toEnv w S) {o : Oper} {d : Nat} (hdst : o.dst = some d) (hd : d < a.tmps.size) {e : Sh} {l : List (Den e)} {k : Nat} {te : TypeId}
    (he : eff E.toEnv fr true o = some (true, .dat (.sl e) l (some (k, te)))) (hf : e.flat = true) :
    OpDoes P o a w (PPost base w0 S0 a.tmps.size gv w S F ((fr d).isRoot = false) (fr.putP d (.pv (.psl te (.leaf e)) l none))) := by
  refine (eff_ok h.r hT hF he).mono fun a' w' ⟨S', val, g, hr, ha⟩ => ?_
  obtain ⟨e', x, h1, h2⟩ := hr.own k te rfl
  obtain ⟨h4, h5, _⟩ := AV.dat.inj h1
  obtain rfl : e = e' := by simpa using h4
  obtain rfl := eq_of_heq h5
  obtain ⟨k1, k2, k3⟩ := own_private g h2 hf
  subst ha
  rw [hdst]
  exact ⟨put_size _ _ _, _, _, h.newRoot hd k1 k3 rfl k2, k1.keeps h.r.slt, fun ht t b hb => ⟨k1.below.block b (h.lt hb), t, .inr ⟨not_root h ht hb, hb⟩⟩⟩
end
end Go.Av
