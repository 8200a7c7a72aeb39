/-
  Operations on private trees that write nothing: references, lengths, loads, addresses.
-/
import Derived.Test.YtcfhfjjohmdaoaaDoorAvPOps
namespace Go.Av
open Go.RowKit Go.Lib

/-- What is left behind an operation. -/
def PPost (base : Nat → Prop) (w0 : World) (S0 : Stable) (n : Nat) (gv : Nat → Value) (wi : World) (Si : Stable) (Fi : Nat → Nat → Prop) (tame : Prop) (fr' : Fr) (a' : Act) (w' : World) : Prop :=
  a'.tmps.size = n ∧ ∃ S' F', RP base w0 S0 S' fr' gv a' w' F' ∧ Keeps wi Si w' S' ∧ (tame → ∀ t b, Fi t b → w'.heap[b]? = wi.heap[b]? ∧ ∃ t', F' t' b)

section
variable {base : Nat → Prop} {w0 w : World} {S0 S : Stable} {fr : Fr} {gv : Nat → Value} {a : Act} {F : Nat → Nat → Prop} {P : Program} {E : EnvP}

theorem not_root (h : RP base w0 S0 S fr gv a w F) {d : Nat} (hd : (fr d).isRoot = false) {t b : Nat} (hF : F t b) : t ≠ d := by
  rintro rfl
  exact h.nroot t hd b hF

/-- An operation that yields a value, the same in all worlds of a kind, and leaves them as they are. -/
def PYields (P : Program) (base : Nat → Prop) (w0 : World) (S0 : Stable) (gv : Nat → Value) (a : Act) (w : World) (S : Stable) (F : Nat → Nat → Prop) (o : Oper) (d : Nat) (tame : Prop) (Wd : World → Prop) (fr' : Fr) : Prop :=
  Wd w ∧ ∃ v, (∀ w', Wd w' → (execOp a.eval o).run P w' = .ok (.value v) w') ∧ ∃ F', RP base w0 S0 S fr' gv (a.put (some d) v) w F' ∧ (tame → ∀ t b, F t b → ∃ t', F' t' b)

theorem PYields.does {o : Oper} {d : Nat} {tame : Prop} {Wd : World → Prop} {fr' : Fr} (hdst : o.dst = some d) (h : PYields P base w0 S0 gv a w S F o d tame Wd fr') : OpDoes P o a w (PPost base w0 S0 a.tmps.size gv w S F tame fr') := by
  obtain ⟨h0, v, h1, F', h2, h3⟩ := h
  exact OpDoes.value (h1 w h0) ⟨by rw [hdst, put_size], S, F', by rw [hdst]; exact h2, Keeps.refl w S, fun ht t b hF => ⟨rfl, h3 ht t b hF⟩⟩

/-- A value that owns nothing, yielded in the same world. -/
theorem RP.yields (h : RP base w0 S0 S fr gv a w F) {o : Oper} {d : Nat} (hd : d < a.tmps.size) {val : Value} {v : AV} {Wd : World → Prop} (hw : Wd w) (hrun : ∀ w', Wd w' → (execOp a.eval o).run P w' = .ok (.value val) w')
    (hv : Rd w S val v) (hp : v.plain = true) (hroot : v.isRoot = false)
    (hadr : ∀ s r, v = .padr s r → s ≠ d ∧ ∃ p x h c, IsRoot (fr s) (tv gv a s) p x h c ∧ AdrAt w p c x r val (F s))
    (hval : ∀ s r, v = .pval s r → s ≠ d ∧ ∃ p x h c, IsRoot (fr s) (tv gv a s) p x h c ∧ ValAt w p c x r val (F s)) :
    PYields P base w0 S0 gv a w S F o d ((fr d).isRoot = false) Wd (fr.putP d v) :=
  ⟨hw, val, hrun, _, h.putPlain hd hv hp hroot hadr hval, fun ht t _ hF => ⟨t, not_root h ht hF, hF⟩⟩

theorem RP.yieldsDat (h : RP base w0 S0 S fr gv a w F) {o : Oper} {d : Nat} (hd : d < a.tmps.size) {val : Value} {v : AV} {Wd : World → Prop} (hw : Wd w) (hrun : ∀ w', Wd w' → (execOp a.eval o).run P w' = .ok (.value val) w')
    (hv : Rd w S val v) (hp : v.plain = true) (hpr : v.isPriv = false) : PYields P base w0 S0 gv a w S F o d ((fr d).isRoot = false) Wd (fr.putP d v) := by
  refine h.yields hd hw hrun hv hp ?_ ?_ ?_
  · cases v <;> first | rfl | (simp [AV.isPriv, AV.isRoot] at hpr)
  · rintro s r rfl; cases hpr
  · rintro s r rfl; cases hpr

/-- A reference copied. -/
theorem RP.copyRef (h : RP base w0 S0 S fr gv a w F) {o : Oper} {d : Nat} (hd : d < a.tmps.size) {x : Operand} {ad : Bool} {s : Nat} {r : List PStep} (hp : placeV a.tmps.size fr x = some (ad, s, r)) (hne : s ≠ d)
    (hrun : ∀ y, x = .tmp y → y < a.tmps.size → ∀ w', (execOp a.eval o).run P w' = .ok (.value (tv gv a y)) w') :
    PYields P base w0 S0 gv a w S F o d ((fr d).isRoot = false) (fun _ => True) (fr.putP d (if ad then .padr s r else .pval s r)) := by
  obtain ⟨y, rfl, hy, p, z, hh, c, h1, h2, h3, h4⟩ := h.place hp
  cases ad with
  | true =>
    refine h.yields hd trivial (fun w' _ => hrun y rfl hy w') (.padr _ _ _) rfl rfl (fun s' r' e => ?_) (fun s' r' e => by cases e)
    cases e
    exact ⟨hne, p, z, hh, c, h1, h3 rfl⟩
  | false =>
    refine h.yields hd trivial (fun w' _ => hrun y rfl hy w') (.pval _ _ _) rfl rfl (fun s' r' e => by cases e) (fun s' r' e => ?_)
    cases e
    exact ⟨hne, p, z, hh, c, h1, h4 rfl⟩

theorem kill_self (fr : Fr) (d : Nat) : fr.kill d d = .bad := by simp [Fr.kill, Fr.set]
theorem kill_ne (fr : Fr) {d t : Nat} (h : t ≠ d) : fr.kill d t = fr.sweep d t := by simp [Fr.kill, Fr.set, h]
theorem kill_or (fr : Fr) (d t : Nat) (h : (fr d).vague = true) : fr.kill d t = fr t ∨ ((fr t).vague = true ∧ (fr.kill d t).vague = true) := by
  by_cases ht : t = d
  · subst ht; rw [kill_self]; exact .inr ⟨h, rfl⟩
  · rw [kill_ne fr ht]; exact sweep_or fr d t

/-- What is at the place of a slot's whole tree. -/
theorem RP.topVal (h : RP base w0 S0 S fr gv a w F) {x : Operand} {ad : Bool} {s : Nat} {r : List PStep} {n : Nat} (hp : placeV n fr x = some (ad, s, r)) (hw : wholeV fr ad s r = true) :
    ∃ y, x = .tmp y ∧ y < n ∧ (fr s).isRoot = true ∧ tv gv a y = tv gv a s ∧ (fr s).vague = true ∧ ∃ p z hh c, IsRoot (fr s) (tv gv a s) p z hh c ∧ Root w S p z hh c (F s) := by
  obtain ⟨y, rfl, hy, p, z, hh, c, h1, h2, h3, h4⟩ := h.place hp
  have hv : (fr s).vague = true := by
    have := h1.isRoot
    generalize fr s = av at this
    cases av <;> first | rfl | cases this
  refine ⟨y, rfl, hy, h1.isRoot, ?_, hv, p, z, hh, c, h1, h2⟩
  have hl : ∀ (p : PSh) (c : Spot), locP w p c [] = some (p, c) := fun p c => by cases p <;> rfl
  unfold wholeV at hw
  cases r with
  | cons a r => cases hw
  | nil =>
    simp only at hw
    generalize hav : fr s = av at h1 hw
    generalize hvv : tv gv a s = vv at h1
    cases h1 with
    | pv _ _ _ _ hv' =>
      cases ad with
      | true => cases hw
      | false =>
        obtain ⟨q, y', c', k1, k2, k3, k4, k5, _⟩ := h4 rfl
        rw [hl] at k4
        simp only [Option.some.injEq, Prod.mk.injEq] at k4
        obtain ⟨k6, k4⟩ := k4
        subst k6 k4
        have hsl : p.agg = false := by
          have e1 : getPP p z [] = some ⟨p, z⟩ := by cases p <;> rfl
          rw [e1] at k2
          simp only [Option.some.injEq, Sigma.mk.injEq, true_and] at k2
          obtain rfl := eq_of_heq k2
          cases p <;> first | rfl | exact k3.elim
        unfold valOk at hv'
        rw [hsl] at hv'
        simp only [Bool.false_eq_true, if_false] at hv'
        have : vv.cells[0]? = some (tv gv a y) := k5
        cases vv <;> first | (simpa [Value.cells] using this.symm) | (simp [Value.oneCell'] at hv')
    | pbox _ _ _ b =>
      cases ad with
      | false => cases hw
      | true =>
        obtain ⟨q, g, o, k1, k2, k3, _⟩ := h3 rfl
        rw [hl] at k2
        simp only [Option.some.injEq, Prod.mk.injEq] at k2
        obtain ⟨_, k2⟩ := k2
        cases k2
        exact k3

theorem vague_of_root {v : AV} (h : v.isRoot = true) : v.vague = true := by cases v <;> first | rfl | cases h

theorem moveR_at (fr : Fr) {y d : Nat} (hne : y ≠ d) (hr : (fr y).isRoot = true) (t : Nat) : fr.moveR y d t = if t = d then fr y else if t = y then .bad else ((fr.sweep y).sweep d t).drop d := by
  unfold Fr.moveR
  by_cases h1 : t = d
  · subst h1; rw [putP_self, if_pos rfl]
  · rw [if_neg h1]
    unfold Fr.putP Fr.put
    rw [if_neg h1]
    by_cases h2 : t = y
    · subst h2
      rw [if_pos rfl]
      have : (fr.kill t).sweep d t = .bad := by unfold Fr.sweep; rw [kill_self]
      rw [this]
      rfl
    · rw [if_neg h2]
      have : (fr.kill y).sweep d t = (fr.sweep y).sweep d t := by unfold Fr.sweep; rw [kill_ne fr h2]; rfl
      rw [this]

/-- A tree goes to another slot. -/
theorem RP.moved (h : RP base w0 S0 S fr gv a w F) {d y : Nat} (hd : d < a.tmps.size) (hy : (fr y).isRoot = true) (hne : y ≠ d) :
    RP base w0 S0 S (fr.moveR y d) gv (a.put (some d) (tv gv a y)) w (fun t b => (t = d ∧ F y b) ∨ (t ≠ d ∧ t ≠ y ∧ F t b)) := by
  have hv := vague_of_root hy
  have hat := moveR_at fr hne hy
  have htv : ∀ t, t ≠ d → tv gv (a.put (some d) (tv gv a y)) t = tv gv a t := fun t ht => by rw [tv_put gv a d _ t hd, if_neg ht]
  have htd : tv gv (a.put (some d) (tv gv a y)) d = tv gv a y := by rw [tv_put gv a d _ d hd, if_pos rfl]
  have hsw : ∀ t, t ≠ d → t ≠ y → (fr.moveR y d t).isRoot = (fr t).isRoot ∧ ((fr t).isRoot = true → fr.moveR y d t = fr t) := fun t h1 h2 => by
    rw [hat, if_neg h1, if_neg h2]
    obtain ⟨e1, e2⟩ := sweep_root fr y t
    obtain ⟨e3, e4⟩ := sweep_root (fr.sweep y) d t
    obtain ⟨e5, e6⟩ := drop_root ((fr.sweep y).sweep d t) d
    exact ⟨e5.trans (e3.trans e1), fun hh => by rw [e6 (e3.trans (e1.trans hh)), e4 (e1.trans hh), e2 hh]⟩
  have hR : R (fun k => base k ∨ ∃ t, F t k) w S S (fr.moveR y d) (a.put (some d) (tv gv a y)) w := by
    have h1 : R (fun k => base k ∨ ∃ t, F t k) w S S ((fr.kill y).sweep d) a w :=
      (h.r.repriv (fun t => kill_or fr y t hv)).repriv (fun t => sweep_or (fr.kill y) d t)
    exact h1.put_plain hd (vague_rd hv _ _ _) (by generalize fr y = av at hv; cases av <;> first | rfl | cases hv)
  refine h.upd (fun t => t = d ∨ t = y) (hR.rebase (fun k hk => hk.imp id (fun ⟨t, ht⟩ => ht.elim (fun ht => ⟨y, ht.2⟩) (fun ht => ⟨t, ht.2.2⟩)))) (Kept.refl _ _) (fun _ _ _ => Iff.rfl) (Keeps.refl _ _)
    (fun t ht b => ?_) (fun _ _ _ _ => rfl) (fun _ _ _ _ _ => Iff.rfl) (fun t ht => ?_) (fun t b ht hb => ?_) (fun t t' b ht hne' hb hb' => ?_) (fun t ht hr b hb => ?_) (fun t ht hr => ?_) (fun t s r ht => ?_) (fun t s r ht => ?_)
  · exact ⟨fun hh => hh.elim (fun hh => absurd (.inl hh.1) ht) (·.2.2), fun hh => .inr ⟨fun e => ht (.inl e), fun e => ht (.inr e), hh⟩⟩
  · have h1 : t ≠ d := fun e => ht (.inl e)
    obtain ⟨e1, e2⟩ := hsw t h1 (fun e => ht (.inr e))
    exact ⟨e1, fun hh => ⟨e2 hh, htv t h1⟩⟩
  · rcases hb with hb | hb
    · exact h.nb y b hb.2
    · exact h.nb t b hb.2.2
  · rcases hb with hb | hb
    · rcases hb' with hb' | hb'
      · exact hne' (hb.1.trans hb'.1.symm)
      · exact h.dj y t' b (Ne.symm hb'.2.1) hb.2 hb'.2.2
    · rcases hb' with hb' | hb'
      · exact h.dj t y b hb.2.1 hb.2.2 hb'.2
      · exact h.dj t t' b hne' hb.2.2 hb'.2.2
  · rcases ht with rfl | rfl
    · rw [hat, if_pos rfl, hy] at hr; cases hr
    · rcases hb with hb | hb
      · exact hne hb.1
      · exact hb.2.1 rfl
  · rcases ht with rfl | rfl
    · have e3 : (fun b => (t = t ∧ F y b) ∨ (t ≠ t ∧ t ≠ y ∧ F t b)) = F y := funext fun b => propext ⟨fun hh => hh.elim (·.2) (fun hh => absurd rfl hh.1), fun hh => .inl ⟨rfl, hh⟩⟩
      rw [e3, htd, hat, if_pos rfl]
      exact h.root y hy
    · rw [hat, if_neg hne, if_pos rfl] at hr; cases hr
  · by_cases h1 : t = d
    · rw [hat, if_pos h1] at ht; rw [ht] at hy; cases hy
    · by_cases h2 : t = y
      · rw [hat, if_neg h1, if_pos h2] at ht; cases ht
      · rw [hat, if_neg h1, if_neg h2] at ht
        obtain ⟨e1, e2⟩ := sweep_adr (drop_adr ht)
        obtain ⟨e3, e4⟩ := sweep_adr e1
        exact .inl ⟨fun e => e.elim e2 e4, e3, htv t h1⟩
  · by_cases h1 : t = d
    · rw [hat, if_pos h1] at ht; rw [ht] at hy; cases hy
    · by_cases h2 : t = y
      · rw [hat, if_neg h1, if_pos h2] at ht; cases ht
      · rw [hat, if_neg h1, if_neg h2] at ht
        obtain ⟨e1, e2⟩ := sweep_val (drop_val ht)
        obtain ⟨e3, e4⟩ := sweep_val e1
        exact .inl ⟨fun e => e.elim e2 e4, e3, htv t h1⟩

theorem RP.movesRoot (h : RP base w0 S0 S fr gv a w F) {o : Oper} {d y : Nat} (hd : d < a.tmps.size) (hy : (fr y).isRoot = true) (hne : y ≠ d) (hrun : ∀ w', (execOp a.eval o).run P w' = .ok (.value (tv gv a y)) w') :
    PYields P base w0 S0 gv a w S F o d ((fr d).isRoot = false) (fun _ => True) (fr.moveR y d) := by
  refine ⟨trivial, _, fun w' _ => hrun w', _, h.moved hd hy hne, fun ht t b hF => ?_⟩
  by_cases hty : t = y
  · subst hty; exact ⟨d, .inl ⟨rfl, hF⟩⟩
  · exact ⟨t, .inr ⟨not_root h ht hF, hty, hF⟩⟩

theorem PM.plain_cells {w : World} {S : Stable} : ∀ (q : PSh) (rd : Rdr) (y : Den q.sh) (F : Nat → Prop), q.plain = true → PM w S q rd y F → ∃ cs, RdC w S q.sh y cs ∧ ∀ (i : Nat) (v : Value), cs[i]? = some v → rd i = some v
  | .leaf s, rd, y, F, _, h => by simp only [PM] at h; exact h.2
  | .parr n e, rd, y, F, _, h => by simp only [PM] at h; exact h.2
  | .osl _ _, _, _, _, hp, _ => by cases hp
  | .psl _ _, _, _, _, hp, _ => by cases hp
  | .ppair a b, rd, y, F, hp, h => by
    simp only [PSh.plain, Bool.and_eq_true] at hp
    simp only [PM] at h
    obtain ⟨F1, F2, h1, h2, _⟩ := h
    obtain ⟨c1, k1, k2⟩ := PM.plain_cells a rd y.1 F1 hp.1 h1
    obtain ⟨c2, k3, k4⟩ := PM.plain_cells b _ y.2 F2 hp.2 h2
    have hl := RdC.length _ _ _ k1
    rw [PSh.size_eq] at hl
    refine ⟨c1 ++ c2, ?_, fun i v hv => ?_⟩
    · simp only [RdC]
      exact ⟨c1, c2, rfl, k1, k3⟩
    · rcases Nat.lt_or_ge i c1.length with hlt | hge
      · rw [List.getElem?_append_left hlt] at hv
        exact k2 i v hv
      · rw [List.getElem?_append_right hge] at hv
        have := k4 _ v hv
        rw [hl] at this hge
        rw [show a.size + (i - a.size) = i by omega] at this
        exact this

/-- The part of a whole tree at an address. -/
theorem Root.part {p : PSh} {z : Den p.sh} {c : Spot} {F : Nat → Prop} (h : Root w S p z none c F) {r : List PStep} {q : PSh} {y : Den q.sh} (hg : getPP p z r = some ⟨q, y⟩) (hin : inPP p z r)
    (hv : ∀ v, c = .val v → r = [] ∨ ∃ te e, p = .psl te e) : ∃ c' Fq, locP w p c r = some (q, c') ∧ Focus w S p c z (fun b => F b ∧ c.block ≠ some b) r q y c' Fq := by
  have h1 : PM w S p (c.rdr w) z (fun b => F b ∧ c.block ≠ some b) := h.core
  exact PM.focus p c z _ r q y h1 hg hin (fun g hg hh => hh.2 hg) hv

/-- An address in a whole tree, with what stands there. -/
theorem adr_part {p : PSh} {z : Den p.sh} {c : Spot} {F : Nat → Prop} (h : Root w S p z none c F) {r : List PStep} {u : Value} (ha : AdrAt w p c z r u F) {q : PSh} {y : Den q.sh} (hg : getPP p z r = some ⟨q, y⟩) :
    ∃ g o Fq, u = .pointer (some ⟨g, o, none⟩) ∧ locP w p c r = some (q, .blk g o) ∧ Focus w S p c z (fun b => F b ∧ c.block ≠ some b) r q y (.blk g o) Fq := by
  obtain ⟨q', g, o, k1, k2, k3, k4, k5⟩ := ha
  have hv : ∀ v, c = .val v → r = [] ∨ ∃ te e, p = .psl te e := fun v e => by
    subst e
    cases p with
    | psl te e => exact .inr ⟨te, e, rfl⟩
    | leaf s => left; cases r with
      | nil => rfl
      | cons a r => simp [locP] at k2
    | osl te e => left; cases r with
      | nil => rfl
      | cons a r => simp [locP] at k2
    | ppair a b =>
      exfalso
      match r, k2 with
      | [], k2 => simp [locP] at k2
      | .idx n :: r, k2 => simp [locP] at k2
      | .fld 0 :: r, k2 => simp [locP] at k2
      | .fld (i + 1) :: r, k2 => simp [locP] at k2
    | parr n e =>
      exfalso
      match r, k2 with
      | [], k2 => simp [locP] at k2
      | [.idx n], k2 => simp [locP] at k2
      | .fld i :: r, k2 => simp [locP] at k2
      | .idx n :: _ :: _, k2 => simp [locP] at k2
  obtain ⟨c', Fq, j1, j2⟩ := h.part hg k1 hv
  rw [k2] at j1
  simp only [Option.some.injEq, Prod.mk.injEq] at j1
  obtain ⟨rfl, rfl⟩ := j1
  exact ⟨g, o, Fq, k3, k2, j2⟩
end
end Go.Av
