import Derived.Test.YtejhjmmdachijaaDoorAvC
import Derived.Laws.RangeString
import Derived.OrdersHeld
import Derived.Scope
import Derived.IntWalk
import Derived.Test.YtejhjmmdachijaaDoorAvB
import Derived.ReadAgain
import Derived.ChangeReads
import Derived.OpenShut
import Derived.ChangeBears
section
/-
  Appends to private slices: the operation.
-/
namespace Go.Av
open Go.RowKit Go.Lib

section
variable {base : Nat → Prop} {w0 w : World} {S0 S : Stable} {fr : Fr} {gv : Nat → Value} {a : Act} {F : Nat → Nat → Prop} {P : Program} {E : EnvP}

/-- The tree of a slot that is a private slice. -/
theorem RP.pv_at (h : RP P base w0 S0 S fr gv a w F) {d : Nat} {q : PSh} {y : Den q.sh} (hd : fr d = .pv q y none) : valOk q (tv gv a d) ∧ PM w S q (valR (tv gv a d)) y (F d) := by
  have h1 := h.root d (by rw [hd]; rfl)
  rw [hd] at h1
  generalize tv gv a d = v at h1
  cases h1 with
  | tree _ _ p x hh c h1 h2 =>
    cases h1 with
    | pv _ _ _ _ hv =>
      have hc : PM w S q (valR v) y (fun b => F d b ∧ (Spot.val v).block ≠ some b) := h2.core
      exact ⟨hv, hc.congrF fun b => ⟨fun hb => hb.1, fun hb => ⟨hb, fun e => by cases e⟩⟩⟩

/-- An append of data to a private slice of data that a slot holds. -/
theorem RP.pushes {d : Nat} {q : PSh} {y : Den q.sh} {u : Value} (h : RP P base w0 S0 S (fr.putP d (.pv q y none)) gv (a.put (some d) u) w F) (hd : d < a.tmps.size) (hT : TyOk P E.toEnv) {o : Oper} {x yy : Operand} {t u' : TypeId} {vy : AV}
    (hop : o.op = .call { callee := .builtin .append, args := #[x, yy], argTypes := #[t, u'] }) (hry : Rd w S (a.eval yy) vy) (hs : (E.ti t).sh = some q.sh) (hby : (E.ti (E.ti t).el).bytes ≤ 1024) (hu : (E.ti u').sh = shOf vy)
    (hev : a.eval x = u) {m : Den q.sh} {e : Sh} {te : TypeId} (hrow : q.rowOf = some (te, e)) (hte : te = (E.ti t).el) (hm : ∃ m0 : List (Den e), newsV E.toEnv t u' e vy = some m0 ∧ HEq m0 m) (hroom : lenP q y + lenP q m ≤ room) :
    ∃ v' w' S' F', (execOp a.eval o).run P w = .ok (.value v') w' ∧ RP P base w0 S0 S' (fr.putP d (.pv q (appP q y m) none)) gv (a.put (some d) v') w' F' ∧ Keeps w S w' S' := by
  have hd' : d < (a.put (some d) u).tmps.size := by rw [put_size]; exact hd
  have htd : tv gv (a.put (some d) u) d = u := by rw [tv_put gv a d u d hd, if_pos rfl]
  obtain ⟨hv, hpm⟩ := h.pv_at (d := d) (putP_self _ _ _)
  rw [htd] at hv hpm
  obtain ⟨m0, hm0, hmm⟩ := hm
  have fin : ∀ {v' : Value} {w' : World} {S' : Stable} {n k : Nat} {xs news : List Value} {size : Nat}, AppM w 0 te size u n k xs news v' w' → (∀ b, u.ownBlock = some b → F d b) → q.isSl = true → PM w' S' q (valR v') (appP q y m) (fun b => v'.ownBlock = some b) → Keeps w S w' S' →
      (∀ b o, b < w.heap.size → ¬ F d b → (S' b o ↔ S b o)) → (∀ b o, S' b o → b < w'.heap.size) → (∀ b o, b < w.heap.size → u.ownBlock ≠ some b → (S' b o ↔ S b o)) →
      ∃ F', RP P base w0 S0 S' (fr.putP d (.pv q (appP q y m) none)) gv (a.put (some d) v') w' F' := fun {v' w' S' n k xs news size} happ hF hsl hpm' hk hS hlt hrS => by
    obtain ⟨hgr, hv'⟩ := happ.facts
    have h0 : valR v' 0 = some v' := by
      rcases happ.own.2 with ⟨rfl, _⟩ | ⟨g, cap, cur, _, rfl, _⟩ <;> rfl
    obtain ⟨hvo, hroot⟩ := slice_root hsl hpm' h0
    have := h.regrow (v := .pv q (appP q y m) none) hd' (by rw [putP_self]; rfl) hgr hF hk hS hlt rfl (fun b hb => (hv' b hb).1.elim (fun h1 => .inl (hF b h1)) (fun h1 => .inr ⟨h1, (hv' b hb).2⟩)) (.tree _ _ q _ none (.val v') (.pv q _ none v' hvo) hroot) hrS
    rw [putP_putP, put_put] at this
    exact ⟨_, this⟩
  cases q with
  | osl te' e' =>
    simp only [PSh.rowOf, Option.some.injEq, Prod.mk.injEq] at hrow
    obtain ⟨rfl, rfl⟩ := hrow
    obtain rfl := eq_of_heq hmm
    have hu0 : valR u 0 = some u := valOk_cells hv rfl
    obtain ⟨xs, k1, k2, k3, k4⟩ := osl_row hu0 hpm
    rw [hte] at k1
    obtain ⟨v', w', news, r1, r2, r3⟩ := app_data (P := P) hT hop hry hs hby hu hm0 hroom (Nat.zero_le _) k1 hev
    rw [← hte] at k1 r3
    obtain ⟨S', m1, m2, m3, m4⟩ := osl_grown h.r.slt k1 k2 k3 k4 r2 r3
    obtain ⟨F', hR⟩ := fin r3 (fun b hb => (k3 b).2 hb) rfl m1 m2 m3 m4 (fun b o hb hne => m3 b o hb (fun hF => hne ((k3 b).1 hF)))
    exact ⟨v', w', S', F', r1, hR, m2⟩
  | psl te' e' =>
    simp only [PSh.rowOf] at hrow
    split at hrow
    · rename_i hpl
      simp only [Option.some.injEq, Prod.mk.injEq] at hrow
      obtain ⟨rfl, rfl⟩ := hrow
      obtain rfl := eq_of_heq hmm
      have hu0 : valR u 0 = some u := valOk_cells hv rfl
      obtain ⟨xs, k1, k2, k3, k4⟩ := psl_row hpl hu0 hpm
      rw [hte] at k1
      obtain ⟨v', w', news, r1, r2, r3⟩ := app_data (P := P) hT hop hry hs hby hu hm0 hroom (Nat.zero_le _) (ownsRowM_of k1) hev
      rw [← hte] at k1 r3
      obtain ⟨m1, m2, m4⟩ := psl_grown hpl h.r.slt k2 k3 k4 r2 k1 r3
      obtain ⟨F', hR⟩ := fin r3 (fun b hb => (k3 b).2 hb) rfl m1 m2 (fun _ _ _ _ => Iff.rfl) m4 (fun _ _ _ _ => Iff.rfl)
      exact ⟨v', w', S, F', r1, hR, m2⟩
    · cases hrow
  | _ => cases hrow

/-- A slice that is nil, private. -/
theorem RP.nilRoot (h : RP P base w0 S0 S fr gv a w F) {d : Nat} (hd : d < a.tmps.size) {q : PSh} {y : Den q.sh} (hy : nilP q = some y) :
    RP P base w0 S0 S (fr.putP d (.pv q y none)) gv (a.put (some d) (.slice none 0 0)) w (fun t b => (t = d ∧ False) ∨ (t ≠ d ∧ F t b)) := by
  have hpm : PM w S q (valR (.slice none 0 0)) y (fun _ => False) ∧ q.isSl = true := by
    cases q with
    | osl te e =>
      simp only [nilP, Option.some.injEq] at hy
      subst hy
      refine ⟨?_, rfl⟩
      simp only [PM]
      exact ⟨_, rfl, ⟨[], ⟨by simp, .inl ⟨rfl, rfl⟩⟩, rfl⟩, fun b => ⟨fun hf => hf.elim, fun e => by cases e⟩, fun _ hf => hf.elim⟩
    | psl te e =>
      simp only [nilP, Option.some.injEq] at hy
      subst hy
      refine ⟨?_, rfl⟩
      simp only [PM]
      exact ⟨_, rfl, .inl ⟨rfl, rfl, fun _ hf => hf⟩⟩
    | _ => cases hy
  obtain ⟨hv, hroot⟩ := slice_root hpm.2 hpm.1 rfl
  exact h.newRoot hd ⟨Below.refl _ _, fun _ _ _ => Iff.rfl, h.r.slt⟩ (fun _ hf => hf.elim) rfl (.tree _ _ q y none (.val _) (.pv q y none _ hv) hroot)

/-- What a private slice is, in a slot of its own: the whole of what another held, or a part of it. -/
theorem RP.takes (h : RP P base w0 S0 S fr gv a w F) {d : Nat} (hd : d < a.tmps.size) {x : Operand} {s : Nat} {r : List PStep} {p : PSh} {z : Den p.sh} {q : PSh} {y : Den q.sh} (hp : placeV a.tmps.size fr x = some (false, s, r)) (hne : s ≠ d)
    (ht : treeV fr s = some ⟨p, z, none⟩) (hg : getPP p z r = some ⟨q, y⟩) : ∃ F', RP P base w0 S0 S ((fr.out s r).putP d (.pv q y none)) gv (a.put (some d) (a.eval x)) w F' := by
  obtain ⟨u, rfl, hu, c, h1, h2, _, h3⟩ := h.placeT hp ht
  have hval := h3 rfl
  rw [← tv_eval gv a u hu]
  unfold Fr.out
  split
  · rename_i hw
    obtain ⟨u2, e2, _, hroot, hv, hk⟩ := h.topVal hp hw
    obtain rfl : u = u2 := by simpa using e2
    have hr : r = [] := by unfold wholeV at hw; split at hw <;> first | rfl | cases hw
    subst hr
    have hs : fr s = .pv p z none := by
      unfold wholeV at hw
      simp only at hw
      split at hw
      · rename_i e
        unfold treeV at ht
        rw [e] at ht
        simp only [Option.some.injEq, Tree.mk.injEq] at ht
        obtain ⟨rfl, ht1, rfl⟩ := ht
        rw [e, eq_of_heq ht1]
      · cases hw
      · cases hw
    have hpq : q = p ∧ HEq y z := by
      cases p <;> (simp only [getPP, Option.some.injEq, Sigma.mk.injEq] at hg; exact ⟨hg.1.symm, hg.2.symm⟩)
    obtain ⟨rfl, hyz⟩ := hpq
    obtain rfl := eq_of_heq hyz
    have hm := h.moved hd hroot hne
    unfold Fr.moveR at hm
    rw [hs] at hm
    rw [hv]
    exact ⟨_, hm⟩
  · rename_i hw
    have hi : ∀ v, c = .val v → r = [] ∨ p.agg = false := fun v e => by
      subst e
      obtain ⟨q', y', c', k1, k2, k3, k4, _⟩ := hval
      cases p with
      | psl te e => exact .inr rfl
      | osl te e => exact .inr rfl
      | leaf s => left; cases r with
        | nil => rfl
        | cons a r => simp [locP] at k4
      | ppair a b =>
        match r, k4 with
        | [], _ => exact .inl rfl
        | .idx n :: r, k4 => simp [locP] at k4
        | .fld 0 :: r, k4 => simp [locP] at k4
        | .fld (i + 1) :: r, k4 => simp [locP] at k4
      | parr n e =>
        match r, k4 with
        | [], _ => exact .inl rfl
        | [.idx n], k4 => simp [locP] at k4
        | .fld i :: r, k4 => simp [locP] at k4
        | .idx n :: _ :: _, k4 => simp [locP] at k4
    obtain ⟨c', Fq, k1, k2, k3, k4, k5⟩ := val_part h2 hval hg hi
    have hblk : ∃ g o, c' = .blk g o := by
      cases c' with
      | blk g o => exact ⟨g, o, rfl⟩
      | val v =>
        exfalso
        cases c with
        | blk g o => exact loc_blk p g o r q v k1
        | val v0 =>
          rcases hi v0 rfl with hr | hp'
          · subst hr
            have hs : ∃ hh, fr s = .pv p z hh := by
              generalize fr s = av at h1
              generalize tv gv a s = vv at h1
              cases h1 with
              | pv => exact ⟨_, rfl⟩
            obtain ⟨hh, hs⟩ := hs
            unfold wholeV at hw
            simp [hs] at hw
          · cases p with
            | psl te e =>
              match r, k1 with
              | [], k1 =>
                have hs : ∃ hh, fr s = .pv (.psl te e) z hh := by
                  generalize fr s = av at h1
                  generalize tv gv a s = vv at h1
                  cases h1 with
                  | pv => exact ⟨_, rfl⟩
                obtain ⟨hh, hs⟩ := hs
                unfold wholeV at hw
                simp [hs] at hw
              | .fld i :: r, k1 => simp [locP] at k1
              | .idx n :: r, k1 =>
                simp only [locP] at k1
                split at k1
                · exact loc_blk e _ _ _ _ _ k1
                · cases k1
            | osl te e =>
              match r, k1 with
              | [], k1 =>
                have hs : ∃ hh, fr s = .pv (.osl te e) z hh := by
                  generalize fr s = av at h1
                  generalize tv gv a s = vv at h1
                  cases h1 with
                  | pv => exact ⟨_, rfl⟩
                obtain ⟨hh, hs⟩ := hs
                unfold wholeV at hw
                simp [hs] at hw
              | _ :: _, k1 => simp [locP] at k1
            | leaf s0 =>
              match r, k1 with
              | [], k1 => simp only [locP, Option.some.injEq, Prod.mk.injEq] at k1; obtain ⟨rfl, _⟩ := k1; cases k4
              | _ :: _, k1 => simp [locP] at k1
            | _ => cases hp'
    obtain ⟨g, o, rfl⟩ := hblk
    exact ⟨_, h.takenOut hd hne h1 h2 k1 k5 k2 k3 k4⟩
end
end Go.Av
end

section
/-
  Fields of structs in a tree; a part that is put back.
-/
namespace Go.Av
open Go.RowKit Go.Lib

theorem inPP_append : ∀ (p : PSh) (z : Den p.sh) (r r2 : List PStep) (q : PSh) (y : Den q.sh), getPP p z r = some ⟨q, y⟩ → inPP p z r → inPP q y r2 → inPP p z (r ++ r2)
  | .leaf s, z, r, r2, q, y, hg, h, h2 => by simp [inPP]
  | .osl te e, z, r, r2, q, y, hg, h, h2 => by simp [inPP]
  | .psl te e, z, r, r2, q, y, hg, h, h2 => by
    match r, hg, h with
    | [], hg, _ =>
      simp only [getPP, Option.some.injEq, Sigma.mk.injEq] at hg
      obtain ⟨rfl, hg⟩ := hg
      obtain rfl := eq_of_heq hg
      exact h2
    | .fld i :: r, hg, _ => simp [getPP] at hg
    | .idx n :: r, hg, h =>
      simp only [getPP] at hg
      simp only [inPP] at h
      simp only [List.cons_append, inPP]
      exact ⟨h.1, inPP_append e _ r r2 q y hg h.2 h2⟩
  | .ppair a b, z, r, r2, q, y, hg, h, h2 => by
    match r, hg, h with
    | [], hg, _ =>
      simp only [getPP, Option.some.injEq, Sigma.mk.injEq] at hg
      obtain ⟨rfl, hg⟩ := hg
      obtain rfl := eq_of_heq hg
      exact h2
    | .idx n :: r, hg, _ => simp [getPP] at hg
    | .fld 0 :: r, hg, h =>
      simp only [getPP] at hg
      simp only [inPP] at h
      simp only [List.cons_append, inPP]
      exact inPP_append a _ r r2 q y hg h h2
    | .fld (i + 1) :: r, hg, h =>
      simp only [getPP] at hg
      simp only [inPP] at h
      have := inPP_append b _ (.fld i :: r) r2 q y hg h h2
      simpa only [List.cons_append, inPP] using this
  | .parr n e, z, r, r2, q, y, hg, h, h2 => by
    match r, hg, h with
    | [], hg, _ =>
      simp only [getPP, Option.some.injEq, Sigma.mk.injEq] at hg
      obtain ⟨rfl, hg⟩ := hg
      obtain rfl := eq_of_heq hg
      exact h2
    | [.idx k], hg, h => exact h
    | .fld i :: r, hg, _ => simp [getPP] at hg
    | .idx k :: _ :: _, hg, _ => simp [getPP] at hg

theorem locP_fld {w : World} : ∀ (q : PSh) (g o f : Nat) (u : PSh), q.fld f = some u → locP w q (.blk g o) [.fld f] = some (u, .blk g (o + fldOff q.sh f)) ∧ spineP w q (.blk g o) [.fld f] = [] ∧ q.sh.fld f = some u.sh ∧ ∀ y : Den q.sh, inPP q y [.fld f]
  | .ppair a b, g, o, 0, u, h => by
    simp only [PSh.fld, Option.some.injEq] at h
    subst h
    have hloc : ∀ (e : PSh) (c : Spot), locP w e c [] = some (e, c) ∧ spineP w e c [] = [] := fun e c => by cases e <;> exact ⟨rfl, rfl⟩
    have hin0 : ∀ (e : PSh) (x : Den e.sh), inPP e x [] := fun e x => by cases e <;> trivial
    exact ⟨by simp only [locP, (hloc _ _).1]; simp [fldOff], by simp only [spineP, (hloc _ _).2], rfl, fun y => hin0 _ _⟩
  | .ppair a b, g, o, i + 1, u, h => by
    simp only [PSh.fld] at h
    obtain ⟨k1, k2, k3, k4⟩ := locP_fld (w := w) b g (o + a.size) i u h
    refine ⟨?_, by simp only [spineP, k2], k3, fun y => k4 _⟩
    simp only [locP, k1]
    show some (u, Spot.blk g (o + a.size + fldOff b.sh i)) = some (u, Spot.blk g (o + (a.sh.size + fldOff b.sh i)))
    rw [PSh.size_eq, Nat.add_assoc]
  | .leaf _, _, _, _, _, h => by simp [PSh.fld] at h
  | .osl _ _, _, _, _, _, h => by simp [PSh.fld] at h
  | .psl _ _, _, _, _, _, h => by simp [PSh.fld] at h
  | .parr _ _, _, _, _, _, h => by simp [PSh.fld] at h

/-- The kind of part that a path leads to. -/
theorem loc_get {w : World} : ∀ (p : PSh) (c : Spot) (z : Den p.sh) (r : List PStep) (q1 q2 : PSh) (c' : Spot) (y : Den q2.sh), locP w p c r = some (q1, c') → getPP p z r = some ⟨q2, y⟩ → q1 = q2
  | .leaf s, c, z, r, q1, q2, c', y, h, hg => by
    cases r with
    | nil => simp only [locP, Option.some.injEq, Prod.mk.injEq] at h; simp only [getPP, Option.some.injEq, Sigma.mk.injEq] at hg; exact h.1.symm.trans hg.1
    | cons a r => simp [locP] at h
  | .osl te e, c, z, r, q1, q2, c', y, h, hg => by
    cases r with
    | nil => simp only [locP, Option.some.injEq, Prod.mk.injEq] at h; simp only [getPP, Option.some.injEq, Sigma.mk.injEq] at hg; exact h.1.symm.trans hg.1
    | cons a r => simp [locP] at h
  | .psl te e, c, z, r, q1, q2, c', y, h, hg => by
    match r, h, hg with
    | [], h, hg => simp only [locP, Option.some.injEq, Prod.mk.injEq] at h; simp only [getPP, Option.some.injEq, Sigma.mk.injEq] at hg; exact h.1.symm.trans hg.1
    | .fld i :: r, h, _ => simp [locP] at h
    | .idx n :: r, h, hg =>
      simp only [locP] at h
      simp only [getPP] at hg
      split at h
      · exact loc_get e _ _ r q1 q2 c' y h hg
      · cases h
  | .ppair a b, c, z, r, q1, q2, c', y, h, hg => by
    match r, h, hg with
    | [], h, hg => simp only [locP, Option.some.injEq, Prod.mk.injEq] at h; simp only [getPP, Option.some.injEq, Sigma.mk.injEq] at hg; exact h.1.symm.trans hg.1
    | .idx n :: r, h, _ => simp [locP] at h
    | .fld 0 :: r, h, hg =>
      cases c with
      | val v => simp [locP] at h
      | blk g o => simp only [locP] at h; simp only [getPP] at hg; exact loc_get a _ _ r q1 q2 c' y h hg
    | .fld (i + 1) :: r, h, hg =>
      cases c with
      | val v => simp [locP] at h
      | blk g o => simp only [locP] at h; simp only [getPP] at hg; exact loc_get b _ _ _ q1 q2 c' y h hg
  | .parr n e, c, z, r, q1, q2, c', y, h, hg => by
    match r, h, hg with
    | [], h, hg => simp only [locP, Option.some.injEq, Prod.mk.injEq] at h; simp only [getPP, Option.some.injEq, Sigma.mk.injEq] at hg; exact h.1.symm.trans hg.1
    | [.idx k], h, hg =>
      cases c with
      | val v => simp [locP] at h
      | blk g o => simp only [locP, Option.some.injEq, Prod.mk.injEq] at h; simp only [getPP, Option.some.injEq, Sigma.mk.injEq] at hg; exact h.1.symm.trans hg.1
    | .fld i :: r, h, _ => simp [locP] at h
    | .idx k :: _ :: _, h, _ => simp [locP] at h

section
variable {base : Nat → Prop} {w0 w : World} {S0 S : Stable} {fr : Fr} {gv : Nat → Value} {a : Act} {F : Nat → Nat → Prop} {P : Program} {E : EnvP}

/-- A field of a struct in a tree. -/
theorem RP.rFld (h : RP P base w0 S0 S fr gv a w F) (hT : TyOk P E.toEnv) {o : Oper} {d : Nat} (hd : d < a.tmps.size) {x : Operand} {s : Nat} {r : List PStep} {t : TypeId} {p : PSh} {z : Den p.sh} {hh : Option (List PStep)}
    {q u : PSh} {y : Den q.sh} {f : Nat} (hop : o.op = .fieldAddr t x f) (hp : placeV a.tmps.size fr x = some (true, s, r)) (hne : s ≠ d) (ht : treeV fr s = some ⟨p, z, hh⟩) (hg : getPP p z r = some ⟨q, y⟩)
    (hty : (E.ti t).sh = some q.sh) (hf : q.fld f = some u) (hz : u.size ≠ 0) :
    PYields P base w0 S0 gv a w S F o d ((fr d).isRoot = false) (fun _ => True) (fr.putP d (.padr s (r ++ [.fld f]))) := by
  obtain ⟨v, rfl, hu, c, h1, h2, h3, _⟩ := h.placeT hp ht
  obtain ⟨q', g, o', k1, k2, k3, k4, k5⟩ := (h3 rfl).zero (by rw [hg]; simp)
  obtain rfl := loc_get p c z r q' q _ y k2 hg
  obtain ⟨m1, m2, m3, m4⟩ := locP_fld (w := w) q' g o' f u hf
  obtain ⟨j1, j2⟩ := locP_append p c r [.fld f] q' _ k2
  refine h.yields hd (val := .pointer (some ((⟨g, o', none⟩ : Addr).add (fldOff q'.sh f)))) trivial (fun w' _ => ?_) (.padr _ _ _) rfl rfl (fun s' r' e' => ?_) (fun _ _ e => by cases e)
  · unfold execOp
    simp only [hop]
    refine run_v ?_
    rw [← tv_eval gv a v hu, k3]
    exact run_fieldAt hT (hT t _ hty) m3 (by rw [PSh.size_eq]; exact hz) _ w'
  · cases e'
    refine ⟨hne, .inl ⟨p, z, hh, c, h1, .inl ⟨u, g, o' + fldOff q'.sh f, inPP_append p z r _ q' y hg k1 (m4 y), j1.trans m1, by rw [add_eq _ _ rfl], fun k hk => ?_, k5⟩⟩⟩
    rw [j2, m2, List.append_nil] at hk
    exact k4 k hk

/-- A part that was taken out is put back, or another in its place. -/
theorem RP.filled (h : RP P base w0 S0 S fr gv a w F) (hT : TyOk P E.toEnv) {o : Oper} (hdst : o.dst = none) {x : Operand} {z0 s : Nat} {r : List PStep} {t : TypeId} {p : PSh} {z z' : Den p.sh} {q : PSh} {y0 m : Den q.sh}
    (hop : o.op = .store t x (.tmp z0)) (hp : placeV a.tmps.size fr x = some (true, s, r)) (ht : treeV fr s = some ⟨p, z, some r⟩) (hg : getPP p z r = some ⟨q, y0⟩) (hty : (E.ti t).sh = some q.sh) (hz0 : fr z0 = .pv q m none) (hn : z0 < a.tmps.size)
    (hsl : q.isSl = true) (hset : setPP p z r q m = some z') :
    OpDoes P o a w (PPost P base w0 S0 a.tmps.size gv w S F False ((fr.kill z0).turn s p z' none)) := by
  obtain ⟨u, rfl, hu, c, h1, h2, h3, _⟩ := h.placeT hp ht
  obtain ⟨q1, g1, o1, i1, i2, i3, i4, i5⟩ := (h3 rfl).zero (by rw [hg]; simp)
  obtain ⟨q2, g, o', hole⟩ := h2.core
  rw [hole.loc] at i2
  simp only [Option.some.injEq, Prod.mk.injEq, Spot.blk.injEq] at i2
  obtain ⟨rfl, rfl, rfl⟩ := i2
  obtain rfl := loc_get p c z r q2 q _ y0 hole.loc hg
  have hzs : z0 ≠ s := fun e => by
    subst e
    unfold treeV at ht
    rw [hz0] at ht
    simp only [Option.some.injEq, Tree.mk.injEq] at ht
    exact absurd ht.2.2 (by simp)
  obtain ⟨hvo, hpm⟩ := h.pv_at hz0
  rw [tv_eval gv a z0 hn] at hvo hpm
  have hsz : q2.size = 1 := by cases q2 <;> first | rfl | cases hsl
  have hcell0 : (a.eval (.tmp z0)).cells[0]? = some (a.eval (.tmp z0)) := valOk_cells hvo hsl
  have hone : (a.eval (.tmp z0)).oneCell' = true := by
    have hag : q2.agg = false := by cases q2 <;> first | rfl | cases hsl
    unfold valOk at hvo
    rw [hag] at hvo
    simpa using hvo
  have hcells : (a.eval (.tmp z0)).cells = #[a.eval (.tmp z0)] := by
    generalize a.eval (.tmp z0) = v at hone
    cases v <;> first | rfl | (simp [Value.oneCell'] at hone)
  obtain ⟨cur, T, hcur, hroom⟩ := hole.room
  have hFg : F s g := by
    rcases hole.blk with h5 | h5
    · exact h5.1
    · exact (h2.blk g h5).1
  have hns : ∀ o, ¬ S g o := by
    rcases hole.uns with h5 | h5
    · exact (h2.blk g h5).2.1
    · exact h5
  have hrun : (execOp a.eval o).run P w = .ok .skip (w.setRow g (cur.toList.take o' ++ (a.eval (.tmp z0)).cells.toList ++ cur.toList.drop (o' + q2.size)).toArray) := by
    have e1 := run_storeAt (E := E) (hT t _ hty) hcur (o := o') (v := a.eval (.tmp z0)) (by rw [hcells, PSh.size_eq, hsz]; rfl) (by rw [PSh.size_eq]; exact hroom) (fun u hu => by rw [hcells] at hu; simp at hu; subst hu; exact hone)
    rw [PSh.size_eq] at e1
    unfold execOp
    simp only [hop]
    rw [← tv_eval gv a u hu, i3, Sem.run_bind, e1]
    rfl
  obtain ⟨m1, m2⟩ := setRow_same (w := w) (o := o') hcur (vs := (a.eval (.tmp z0)).cells.toList) (k := q2.size) (by rw [hcells, hsz]; rfl) hroom
  generalize hw' : w.setRow g (cur.toList.take o' ++ (a.eval (.tmp z0)).cells.toList ++ cur.toList.drop (o' + q2.size)).toArray = w' at hrun m1 m2
  have hgr : w.grownBy w' (some g) := by
    rw [← hw']
    exact ⟨rfl, rfl, rfl, by simp, fun k _ hk => setRow_other w g k _ (fun e => hk (by rw [e]))⟩
  have hkeep : Keeps w S w' S := fun b o2 hs => ⟨hs, cell_of_block (hgr.block b (h.r.slt b o2 hs) (fun e => by
    have := Option.some.inj e
    subst this
    exact hns o2 hs)) o2⟩
  have hz0g : ∀ b, F z0 b → b ≠ g := fun b hb e => by subst e; exact h.dj z0 s b hzs hb hFg
  have hpm' : PM w' S q2 ((Spot.blk g o').rdr w') m (F z0) := PM.step hkeep q2 _ _ m (F z0) hpm (fun i hi => by
    obtain rfl : i = 0 := by omega
    have e2 : blkR w' g o' 0 = some (a.eval (.tmp z0)) := m2 0 (a.eval (.tmp z0)) (by rw [hcells]; rfl)
    exact e2.trans hcell0.symm) (fun b hb => hgr.block b (h.lt hb) (fun e => hz0g b hb (Option.some.inj e))) (fun _ _ _ => Iff.rfl)
  obtain ⟨z2, n1, n2⟩ := hole.wand w' S m (F z0) hkeep (fun b hb hne => hgr.block b (h.lt hb.1) hne) m1 (fun g' hg' hne => hgr.block g' (h.lt (h2.blk g' hg').1) (fun e => hne e.symm)) (fun _ _ _ => Iff.rfl) hpm'
    (fun b hb hh => h.dj z0 s b hzs hb hh.1) (fun g' hg' hb => by
      simp only [Spot.block, Option.some.injEq] at hg'
      subst hg'
      exact hz0g g hb rfl) (fun g' hg' hb => h.dj z0 s g' hzs hb (h2.blk g' hg').1)
  rw [hset] at n1
  obtain rfl := Option.some.inj n1
  let F' : Nat → Nat → Prop := fun t b => (t = s ∧ (F s b ∨ F z0 b)) ∨ (t ≠ s ∧ t ≠ z0 ∧ F t b)
  have hcore : PM w' S p (c.rdr w') z' (fun b => (F s b ∨ F z0 b) ∧ c.block ≠ some b) := n2.congrF fun b => ⟨fun hb => hb.elim (fun hb => ⟨.inr hb, fun e => h.dj z0 s b hzs hb (h2.blk b e).1⟩) (fun hb => ⟨.inl hb.1, hb.2⟩), fun hb => hb.1.elim (fun hF => .inr ⟨hF, hb.2⟩) .inl⟩
  have hroot : Root w' S p z' none c (fun b => F s b ∨ F z0 b) := by
    refine ⟨fun g' hg' => ?_, hcore, fun v hv hs => ?_⟩
    · obtain ⟨e1, e2, cc, T', e3, e4⟩ := h2.blk g' hg'
      refine ⟨.inl e1, e2, ?_⟩
      by_cases hgg : g' = g
      · subst hgg
        rw [hcur] at e3
        simp only [Option.some.injEq, Obj.cells.injEq, and_true] at e3
        obtain ⟨rfl, rfl⟩ := e3
        obtain ⟨cu, cu', te, fz, f1, f2, f3, _⟩ := m1
        rw [hcur] at f1
        simp only [Option.some.injEq, Obj.cells.injEq] at f1
        obtain ⟨rfl, rfl, rfl⟩ := f1
        exact ⟨cu', _, f2, f3.trans e4⟩
      · exact ⟨cc, T', (hgr.block g' (h.lt e1) (fun e => hgg (Option.some.inj e))).trans e3, e4⟩
    · subst hv
      have hvk : valOk p v := by
        generalize fr s = av at h1
        generalize tv gv a s = vv at h1
        cases h1 with
        | pv _ _ _ _ hv => exact hv
      exact hdr_mono (hdr_of_core hvk hcore hs) (fun b hb => hb.1)
  have hrz : (fr z0).vague = true := by rw [hz0]; rfl
  have hks : fr.kill z0 s = fr s := by
    rw [kill_ne fr (Ne.symm hzs)]
    exact (sweep_root fr z0 s).2 h1.isRoot
  have hi' : IsRoot (fr.kill z0 s) (tv gv a s) p z (some r) c := by rw [hks]; exact h1
  have hor : ∀ t, (fr.kill z0).turn s p z' none t = fr t ∨ ((fr t).vague = true ∧ ((fr.kill z0).turn s p z' none t).vague = true) := fun t => by
    rcases turn_or (fr := fr.kill z0) (s := s) (p := p) (z := z') (hh := none) hi'.isRoot t with e1 | ⟨e1, e2⟩
    · rcases kill_or fr z0 t hrz with e3 | ⟨e3, e4⟩
      · exact .inl (e1.trans e3)
      · exact .inr ⟨e3, by rw [e1]; exact e4⟩
    · rcases kill_or fr z0 t hrz with e3 | ⟨e3, e4⟩
      · rw [e3] at e1; exact .inr ⟨e1, e2⟩
      · exact .inr ⟨e3, e2⟩
  have hFF : ∀ b, (∃ t, F' t b) ↔ ∃ t, F t b := fun b => by
    constructor
    · rintro ⟨t, ⟨_, hb | hb⟩ | ⟨_, _, hb⟩⟩
      · exact ⟨s, hb⟩
      · exact ⟨z0, hb⟩
      · exact ⟨t, hb⟩
    · rintro ⟨t, hb⟩
      by_cases e1 : t = s
      · subst e1; exact ⟨t, .inl ⟨rfl, .inl hb⟩⟩
      · by_cases e2 : t = z0
        · subst e2; exact ⟨s, .inl ⟨rfl, .inr hb⟩⟩
        · exact ⟨t, .inr ⟨e1, e2, hb⟩⟩
  have hbase : ¬ base g := h.nb s g hFg
  have hFs' : F' s = fun b => F s b ∨ F z0 b := funext fun b => propext ⟨fun hh => hh.elim (·.2) (fun hh => absurd rfl hh.1), fun hh => .inl ⟨rfl, hh⟩⟩
  have hroots : ∀ t, t ≠ s → t ≠ z0 → ((fr.kill z0).turn s p z' none t).isRoot = (fr t).isRoot ∧ ((fr t).isRoot = true → (fr.kill z0).turn s p z' none t = fr t) := fun t e1 e2 => by
    rw [turn_ne e1]
    obtain ⟨e3, e4⟩ := sweepK_root (fr.kill z0) s t
    have e5 : fr.kill z0 t = fr.sweep z0 t := kill_ne fr e2
    rw [e5] at e3 e4
    obtain ⟨e6, e7⟩ := sweep_root fr z0 t
    exact ⟨e3.trans e6, fun hh => (e4 (e6.trans hh)).trans (e7 hh)⟩
  refine OpDoes.skip hrun ⟨by rw [hdst]; rfl, S, F', ?_, hkeep, fun hf => hf.elim⟩
  rw [hdst]
  show RP P base w0 S0 S ((fr.kill z0).turn s p z' none) gv a w' F'
  refine h.upd (fun t => t = s ∨ t = z0) (((h.r.repriv hor).wrote (.inr ⟨s, hFg⟩) hns hgr).rebase (fun k hk => hk.imp id (hFF k).1)) ⟨hgr.os, hgr.tape, hgr.output, hgr.size, fun k hk => hgr.block k (h.base_le hk) (fun e => by
      have := Option.some.inj e
      subst this
      exact hbase hk)⟩ (fun _ _ _ => Iff.rfl) hkeep (fun t ht b => ⟨fun hh => hh.elim (fun hh => absurd (.inl hh.1) ht) (·.2.2), fun hh => .inr ⟨fun e => ht (.inl e), fun e => ht (.inr e), hh⟩⟩)
    (fun t b ht hb => hgr.block b (h.lt hb) (fun e => by
      have := Option.some.inj e
      subst this
      exact h.dj t s b (fun e => ht (.inl e)) hb hFg)) (fun _ _ _ _ _ => Iff.rfl)
    (fun t ht => ?_) (fun t b ht hb => ?_) (fun t t' b ht hne hb hb' => ?_) (fun t ht hr b hb => ?_) (fun t ht hr => ?_) (fun t s' r' ht => ?_) (fun t s' r' ht => ?_)
  · obtain ⟨e1, e2⟩ := hroots t (fun e => ht (.inl e)) (fun e => ht (.inr e))
    exact ⟨e1, fun hh => ⟨e2 hh, rfl⟩⟩
  · obtain ⟨t', ht'⟩ := (hFF b).1 ⟨t, hb⟩
    exact h.nb t' b ht'
  · rcases hb with ⟨rfl, hb⟩ | ⟨e1, e2, hb⟩
    · rcases hb' with ⟨e3, _⟩ | ⟨e3, e4, hb'⟩
      · exact hne e3.symm
      · rcases hb with hb | hb
        · exact h.dj t t' b hne hb hb'
        · exact h.dj z0 t' b (Ne.symm e4) hb hb'
    · rcases ht with ht | ht
      · exact e1 ht
      · exact e2 ht
  · rcases ht with rfl | rfl
    · rw [(turn_isRoot (z' := z') (hh' := none) hi').isRoot] at hr; cases hr
    · rcases hb with hb | hb
      · exact hzs hb.1
      · exact hb.2.1 rfl
  · rcases ht with rfl | rfl
    · rw [hFs']
      exact .tree _ _ p z' none c (turn_isRoot hi') hroot
    · rw [turn_ne hzs] at hr
      have : (fr.kill t).sweepK s t = .bad := by unfold Fr.sweepK; rw [kill_self]
      rw [this] at hr
      cases hr
  · by_cases e1 : t = s
    · subst e1
      have := (turn_isRoot (z' := z') (hh' := none) hi').isRoot
      rw [ht] at this; cases this
    · rw [turn_ne e1] at ht
      obtain ⟨e2, e3⟩ := sweepK_adr ht
      by_cases e4 : t = z0
      · subst e4; rw [kill_self] at e2; cases e2
      · rw [kill_ne fr e4] at e2
        obtain ⟨e5, e6⟩ := sweep_adr e2
        by_cases e7 : s' = s
        · subst e7
          refine .inr (h.turnRef h1 (F' := F' s') (by rw [hFs']; exact hroot) (fun g0 _ hF0 => ?_) e5 (e3.resolve_left (fun e => e rfl)) (turn_isRoot hi'))
          rw [hFs']
          exact .inl hF0
        · exact .inl ⟨fun hx => hx.elim e7 e6, e5, rfl⟩
  · by_cases e1 : t = s
    · subst e1
      have := (turn_isRoot (z' := z') (hh' := none) hi').isRoot
      rw [ht] at this; cases this
    · rw [turn_ne e1] at ht
      obtain ⟨e2, e3⟩ := sweepK_val ht
      by_cases e4 : t = z0
      · subst e4; rw [kill_self] at e2; cases e2
      · rw [kill_ne fr e4] at e2
        obtain ⟨e5, e6⟩ := sweep_val e2
        exact .inl ⟨fun hx => hx.elim e3 e6, e5, rfl⟩
end
end Go.Av
end

section
/-
  Trees put behind a private slice of trees; a slice of one tree; an owned slice that becomes a tree.
-/
namespace Go.Av
open Go.RowKit Go.Lib

/-- Every cell of a tree is one value. -/
theorem PM.cells1 {w : World} {S : Stable} : ∀ (p : PSh) (rd : Rdr) (x : Den p.sh) (F : Nat → Prop), PM w S p rd x F → ∀ i, i < p.size → ∃ v, rd i = some v ∧ v.oneCell' = true
  | .leaf s, rd, x, F, h, i, hi => by
    simp only [PM] at h
    obtain ⟨_, cs, h1, h2⟩ := h
    have hl := RdC.length _ _ _ h1
    have hlt : i < cs.length := by simp only [PSh.size] at hi; omega
    exact ⟨cs[i], h2 i _ (List.getElem?_eq_getElem hlt), RdC.oneCell _ _ _ h1 _ (List.getElem_mem hlt)⟩
  | .parr n e, rd, x, F, h, i, hi => by
    simp only [PM] at h
    obtain ⟨_, cs, h1, h2⟩ := h
    have hl := RdC.length _ _ _ h1
    have hlt : i < cs.length := by simp only [PSh.size] at hi; simp only [Sh.size] at hl; omega
    exact ⟨cs[i], h2 i _ (List.getElem?_eq_getElem hlt), RdC.oneCell _ _ _ h1 _ (List.getElem_mem hlt)⟩
  | .osl te e, rd, x, F, h, i, hi => by
    obtain rfl : i = 0 := by simp only [PSh.size] at hi; omega
    obtain ⟨u, h1, _, h3⟩ := h.hdr (n := List.length x) rfl
    exact ⟨u, h1, h3⟩
  | .psl te e, rd, x, F, h, i, hi => by
    obtain rfl : i = 0 := by simp only [PSh.size] at hi; omega
    obtain ⟨u, h1, _, h3⟩ := h.hdr (n := List.length x) rfl
    exact ⟨u, h1, h3⟩
  | .ppair a b, rd, x, F, h, i, hi => by
    simp only [PM] at h
    obtain ⟨F1, F2, h1, h2, _⟩ := h
    simp only [PSh.size] at hi
    rcases Nat.lt_or_ge i a.size with hlt | hge
    · exact PM.cells1 a _ _ _ h1 i hlt
    · obtain ⟨v, k1, k2⟩ := PM.cells1 b _ _ _ h2 (i - a.size) (by omega)
      rw [show a.size + (i - a.size) = i by omega] at k1
      exact ⟨v, k1, k2⟩

/-- The cells of rows of trees, one behind the other. -/
theorem cells_list {rd : Rdr} : ∀ (n : Nat), (∀ i, i < n → ∃ v, rd i = some v ∧ v.oneCell' = true) → ∃ xs : List Value, xs.length = n ∧ (∀ i, i < n → xs[i]? = rd i) ∧ ∀ u ∈ xs, u.oneCell' = true
  | 0, _ => ⟨[], rfl, fun i hi => by omega, fun u hu => by cases hu⟩
  | n + 1, h => by
    obtain ⟨xs, h1, h2, h3⟩ := cells_list n (fun i hi => h i (by omega))
    obtain ⟨v, h4, h5⟩ := h n (by omega)
    refine ⟨xs ++ [v], by simp [h1], fun i hi => ?_, fun u hu => ?_⟩
    · rcases Nat.lt_or_ge i n with hlt | hge
      · rw [List.getElem?_append_left (by omega)]; exact h2 i hlt
      · obtain rfl : i = n := by omega
        rw [List.getElem?_append_right (by omega), h1, Nat.sub_self, h4]
        rfl
    · rcases List.mem_append.1 hu with hu | hu
      · exact h3 u hu
      · simp only [List.mem_singleton] at hu; subst hu; exact h5

section
variable {base : Nat → Prop} {w0 w : World} {S0 S : Stable} {fr : Fr} {gv : Nat → Value} {a : Act} {F : Nat → Nat → Prop} {P : Program} {E : EnvP}

/-- A private slice of trees, taken apart. -/
structure PslAt (w : World) (S : Stable) (te : TypeId) (e : PSh) (u : Value) (l : List (Den e.sh)) (Fq : Nat → Prop) (xs : List Value) (Fe : Nat → Nat → Prop) : Prop where
  own : w.ownsRow 0 te e.size u l.length xs
  one : ∀ v ∈ xs, v.oneCell' = true
  els : ∀ n x, l[n]? = some x → PM w S e (fun i => xs[n * e.size + i]?) x (Fe n)
  fe1 : ∀ n b, l.length ≤ n → ¬ Fe n b
  fe2 : ∀ n m b, n ≠ m → Fe n b → ¬ Fe m b
  fe3 : ∀ n b, Fe n b → u.ownBlock ≠ some b
  fq : ∀ b, Fq b ↔ u.ownBlock = some b ∨ ∃ n, Fe n b
  ns : ∀ b, u.ownBlock = some b → ∀ o, ¬ S b o

theorem psl_apart {te : TypeId} {e : PSh} {l : List (Den e.sh)} {u : Value} {Fq : Nat → Prop} (hu : valR u 0 = some u) (h : PM w S (.psl te e) (valR u) l Fq) : ∃ xs Fe, PslAt w S te e u l Fq xs Fe := by
  simp only [PM] at h
  obtain ⟨v, h1, h2⟩ := h
  rw [hu] at h1
  obtain rfl := Option.some.inj h1
  rcases h2 with ⟨rfl, rfl, h3⟩ | ⟨g, cap, cur, Fe, rfl, k2, k3, k4, k5, k6, k7, k8, k9, k10, k11⟩
  · refine ⟨[], fun _ _ => False, ⟨by simp, .inl ⟨rfl, rfl⟩⟩, fun v hv => (by cases hv), fun n x hn => by simp at hn, fun _ _ _ h => h, fun _ _ _ _ h => h.elim, fun _ _ h => h.elim, fun b => ⟨fun hb => absurd hb (h3 b), fun hb => ?_⟩, fun b hb => by cases hb⟩
    rcases hb with hb | ⟨_, hb⟩
    · cases hb
    · exact hb.elim
  · have hle : l.length * e.size ≤ cap * e.size := Nat.mul_le_mul_right _ k3
    have hxs : ∀ i, i < l.length * e.size → (cur.toList.take (l.length * e.size))[i]? = blkR w g 0 i := fun i hi => by
      rw [List.getElem?_take_of_lt hi, Array.getElem?_toList]
      simp [blkR, World.cell?, k2]
    refine ⟨cur.toList.take (l.length * e.size), Fe, ⟨by rw [List.length_take]; simp; omega, .inr ⟨g, cap, cur, rfl, Nat.zero_le _, k2, k3, k4, k5, rfl⟩⟩, fun v hv => ?_, fun n x hn => ?_, k8, k9, fun n b hb hc => ?_, fun b => ?_, fun b hb o => ?_⟩
    · obtain ⟨i, hi, rfl⟩ := List.getElem_of_mem hv
      rw [List.length_take] at hi
      have hi' : i < l.length * e.size := by omega
      have hlt : i / e.size < l.length := Nat.div_lt_of_lt_mul (by rw [Nat.mul_comm]; exact hi')
      have hpos : 0 < e.size := by
        rcases Nat.eq_zero_or_pos e.size with h0 | h0
        · rw [h0] at hi'; omega
        · exact h0
      obtain ⟨v', m1, m2⟩ := PM.cells1 e _ _ _ (k7 (i / e.size) l[i / e.size] (List.getElem?_eq_getElem hlt)) (i % e.size) (Nat.mod_lt _ hpos)
      have h1 := hxs i hi'
      have h2 : blkR w g (i / e.size * e.size) (i % e.size) = blkR w g 0 i := by
        unfold blkR
        rw [show i / e.size * e.size + i % e.size = 0 + i by rw [Nat.mul_comm, Nat.div_add_mod]; omega]
      rw [← h2, m1] at h1
      have h3 := List.getElem?_eq_some_iff.1 h1
      obtain ⟨_, h3⟩ := h3
      rw [h3]
      exact m2
    · refine PM.step (Keeps.refl w S) e _ _ x (Fe n) (k7 n x hn) (fun i hi => ?_) (fun _ _ => rfl) (fun _ _ _ => Iff.rfl)
      have hlt := (List.getElem?_eq_some_iff.1 hn).1
      have hle' : (n + 1) * e.size ≤ l.length * e.size := Nat.mul_le_mul_right _ hlt
      rw [Nat.add_mul, Nat.one_mul] at hle'
      show (cur.toList.take (l.length * e.size))[n * e.size + i]? = _
      rw [hxs _ (by omega)]
      simp [blkR]
    · simp only [Value.ownBlock, Option.some.injEq] at hc
      exact k10 n b hb hc.symm
    · rw [k11 b]
      simp only [Value.ownBlock, Option.some.injEq]
      exact ⟨fun hh => hh.imp (fun e => e.symm) id, fun hh => hh.imp (fun e => e.symm) id⟩
    · simp only [Value.ownBlock, Option.some.injEq] at hb
      subst hb
      exact k6 o

/-- Put together again: a row that holds the cells of trees. -/
theorem psl_join {te : TypeId} {e : PSh} {l : List (Den e.sh)} {v : Value} {xs : List Value} {Fe : Nat → Nat → Prop} (hown : w.ownsRow 0 te e.size v l.length xs) (hels : ∀ n x, l[n]? = some x → PM w S e (fun i => xs[n * e.size + i]?) x (Fe n))
    (h1 : ∀ n b, l.length ≤ n → ¬ Fe n b) (h2 : ∀ n m b, n ≠ m → Fe n b → ¬ Fe m b) (h3 : ∀ n b, Fe n b → v.ownBlock ≠ some b) (hns : ∀ b, v.ownBlock = some b → ∀ o, ¬ S b o) :
    PM w S (.psl te e) (valR v) l (fun b => v.ownBlock = some b ∨ ∃ n, Fe n b) := by
  simp only [PM]
  rcases hown.2 with ⟨rfl, h0⟩ | ⟨g, cap, cur, rfl, _, k2, k3, k4, k5, k6⟩
  · have hl : l = [] := List.eq_nil_of_length_eq_zero h0
    subst hl
    refine ⟨_, rfl, .inl ⟨rfl, rfl, fun b hb => ?_⟩⟩
    rcases hb with hb | ⟨n, hb⟩
    · cases hb
    · exact h1 n b (Nat.zero_le _) hb
  · refine ⟨_, rfl, .inr ⟨g, cap, cur, Fe, rfl, k2, k3, k4, k5, hns g rfl, fun n x hn => ?_, h1, h2, fun n b hb hc => h3 n b hb (by rw [hc]; rfl), fun b => ?_⟩⟩
    · refine PM.step (Keeps.refl w S) e _ _ x (Fe n) (hels n x hn) (fun i hi => ?_) (fun _ _ => rfl) (fun _ _ _ => Iff.rfl)
      have hlt := (List.getElem?_eq_some_iff.1 hn).1
      have hle' : (n + 1) * e.size ≤ l.length * e.size := Nat.mul_le_mul_right _ hlt
      rw [Nat.add_mul, Nat.one_mul] at hle'
      rw [← k6, List.getElem?_take_of_lt (by omega), Array.getElem?_toList]
      simp [blkR, World.cell?, k2]
    · simp only [Value.ownBlock, Option.some.injEq]
      exact ⟨fun hh => hh.imp (fun e => e.symm) id, fun hh => hh.imp (fun e => e.symm) id⟩

/-- Trees put behind. -/
theorem psl_pushed {te : TypeId} {e : PSh} {l m : List (Den e.sh)} {u z v' : Value} {Fq Fz : Nat → Prop} {xs ys : List Value} {Fe Ge : Nat → Nat → Prop} {w' : World} (hslt : ∀ b o, S b o → b < w.heap.size) (h : PslAt w S te e u l Fq xs Fe) (k : PslAt w S te e z m Fz ys Ge)
    (hdj : ∀ b, Fq b → ¬ Fz b) (hlt : ∀ b, Fq b ∨ Fz b → b < w.heap.size) (happ : App w 0 te e.size u l.length m.length xs ys v' w') :
    PM w' S (.psl te e) (valR v') (l ++ m) (fun b => v'.ownBlock = some b ∨ ∃ n, (fun n b => (n < l.length ∧ Fe n b) ∨ (l.length ≤ n ∧ Ge (n - l.length) b)) n b) ∧ Keeps w S w' S := by
  obtain ⟨hgr, hv'⟩ := happ.facts
  have hlen : (l ++ m).length = l.length + m.length := by simp
  have hxl : xs.length = l.length * e.size := h.own.1
  have hkeep : Keeps w S w' S := fun b o hs => ⟨hs, cell_of_block (hgr.block b (hslt b o hs) (fun e => h.ns b e.symm o hs)) o⟩
  have hFe : ∀ n b, Fe n b → Fq b := fun n b hb => (h.fq b).2 (.inr ⟨n, hb⟩)
  have hGe : ∀ n b, Ge n b → Fz b := fun n b hb => (k.fq b).2 (.inr ⟨n, hb⟩)
  have hown := happ.own
  rw [← hlen] at hown
  refine ⟨psl_join hown (fun n x hn => ?_) (fun n b hn hh => ?_) (fun n n' b hne h1 h2 => ?_) (fun n b hh hc => ?_) (fun b hb o hs => ?_), hkeep⟩
  · rcases Nat.lt_or_ge n l.length with hlt' | hge
    · rw [List.getElem?_append_left hlt'] at hn
      have := PM.step hkeep e _ (fun i => (xs ++ ys)[n * e.size + i]?) x (Fe n) (h.els n x hn) (fun i hi => by
        have hle' : (n + 1) * e.size ≤ l.length * e.size := Nat.mul_le_mul_right _ hlt'
        rw [Nat.add_mul, Nat.one_mul] at hle'
        rw [List.getElem?_append_left (by omega)]) (fun b hb => hgr.block b (hlt b (.inl (hFe n b hb))) (fun e => h.fe3 n b hb e.symm)) (fun _ _ _ => Iff.rfl)
      exact this.congrF fun b => ⟨fun hb => .inl ⟨hlt', hb⟩, fun hb => hb.elim (·.2) (fun hb => absurd hb.1 (by omega))⟩
    · rw [List.getElem?_append_right hge] at hn
      have := PM.step hkeep e _ (fun i => (xs ++ ys)[n * e.size + i]?) x (Ge (n - l.length)) (k.els _ x hn) (fun i hi => by
        have : n * e.size = l.length * e.size + (n - l.length) * e.size := by rw [← Nat.add_mul]; congr 1; omega
        rw [List.getElem?_append_right (by omega)]
        congr 1
        omega) (fun b hb => hgr.block b (hlt b (.inr (hGe _ b hb))) (fun e => hdj b ((h.fq b).2 (.inl e.symm)) (hGe _ b hb))) (fun _ _ _ => Iff.rfl)
      exact this.congrF fun b => ⟨fun hb => .inr ⟨hge, hb⟩, fun hb => hb.elim (fun hb => absurd hb.1 (by omega)) (·.2)⟩
  · rcases hh with hh | hh
    · omega
    · exact k.fe1 _ b (by omega) hh.2
  · rcases h1 with h1 | h1 <;> rcases h2 with h2 | h2
    · exact h.fe2 n n' b hne h1.2 h2.2
    · exact hdj b (hFe _ b h1.2) (hGe _ b h2.2)
    · exact hdj b (hFe _ b h2.2) (hGe _ b h1.2)
    · exact k.fe2 _ _ b (by omega) h1.2 h2.2
  · have hb : b < w.heap.size := by
      rcases hh with hh | hh
      · exact hlt b (.inl (hFe _ b hh.2))
      · exact hlt b (.inr (hGe _ b hh.2))
    rcases (hv' b hc).1 with h1 | h1
    · rcases hh with hh | hh
      · exact h.fe3 n b hh.2 h1
      · exact hdj b ((h.fq b).2 (.inl h1)) (hGe _ b hh.2)
    · omega
  · rcases (hv' b hb).1 with h1 | h1
    · exact h.ns b h1 o hs
    · have := hslt b o hs
      omega

/-- The tree of a slot grows, and takes in another's. -/
theorem RP.regrow2 (h : RP P base w0 S0 S fr gv a w F) {d z : Nat} (hd : d < a.tmps.size) (hzd : z ≠ d) (hroot : (fr d).isRoot = true) (hrz : (fr z).isRoot = true) {w' : World} {row : Option Nat} (hg : w.grownBy w' row) (hrow : ∀ g, row = some g → F d g)
    (hk : Keeps w S w' S) (hlt : ∀ b o, S b o → b < w'.heap.size)
    {v' : Value} {v : AV} {Fd : Nat → Prop} (hv : v.isRoot = true) (hFd : ∀ b, Fd b → F d b ∨ F z b ∨ (w.heap.size ≤ b ∧ b < w'.heap.size)) (hr : RootAny P w' S Fd v v') :
    RP P base w0 S0 S ((fr.kill z).putP d v) gv (a.put (some d) v') w' (fun t b => (t = d ∧ Fd b) ∨ (t ≠ d ∧ t ≠ z ∧ F t b)) := by
  have hvz := vague_of_root hrz
  have htv : ∀ t, t ≠ d → tv gv (a.put (some d) v') t = tv gv a t := fun t ht => by rw [tv_put gv a d v' t hd, if_neg ht]
  have htd : tv gv (a.put (some d) v') d = v' := by rw [tv_put gv a d v' d hd, if_pos rfl]
  have hvague := vague_of_root hv
  have hplain : v.plain = true := by cases v <;> first | rfl | cases hv
  have hbase : ∀ b, base b → some b ≠ row := fun b hb e => h.nb d b (hrow b e.symm) hb
  have hother : ∀ t b, t ≠ d → F t b → some b ≠ row := fun t b ht hb e => h.dj t d b ht hb (hrow b e.symm)
  have hsize := hg.size
  have hlabF : ∀ l e g t, (fr l).lab = some (l, e) → F t g → (a.tmps.getD l undef).ownBlock ≠ some g := fun l e g t hl hF hb => h.r.lab_base hl hb (.inr ⟨t, hF⟩)
  have hboxF : ∀ t s (x : Den s) g t', fr t = .box s x → F t' g → a.tmps.getD t undef ≠ .pointer (some ⟨g, 0, none⟩) := fun t s x g t' hf hF hb => by
    obtain ⟨b, h1, h2⟩ := h.r.box t s x hf
    rw [hb] at h2
    simp only [Value.pointer.injEq, Option.some.injEq, Addr.mk.injEq, and_true] at h2
    subst h2
    exact h1.1 (.inr ⟨t', hF⟩)
  have hor : ∀ t, (fr.kill z).sweep d t = fr t ∨ ((fr t).vague = true ∧ ((fr.kill z).sweep d t).vague = true) := fun t => by
    rcases sweep_or (fr.kill z) d t with e1 | ⟨e1, e2⟩
    · rcases kill_or fr z t hvz with e3 | ⟨e3, e4⟩
      · exact .inl (e1.trans e3)
      · exact .inr ⟨e3, by rw [e1]; exact e4⟩
    · rcases kill_or fr z t hvz with e3 | ⟨e3, e4⟩
      · rw [e3] at e1; exact .inr ⟨e1, e2⟩
      · exact .inr ⟨e3, e2⟩
  have hR1 : R (fun k => base k ∨ ∃ t, t ≠ d ∧ t ≠ z ∧ F t k) w S S ((fr.kill z).sweep d) a w := (h.r.repriv hor).rebase (fun k hk => hk.imp id (fun ⟨t, ht⟩ => ⟨t, ht.2.2⟩))
  have hnv : ∀ l e l', ((fr.kill z).sweep d l).lab = some (l', e) → (fr l).lab = some (l', e) := fun l e l' hl => by
    rcases hor l with e1 | ⟨_, e1⟩
    · rwa [e1] at hl
    · rw [vague_lab e1] at hl; cases hl
  have hnb : ∀ t s (x : Den s), ((fr.kill z).sweep d) t = .box s x → fr t = .box s x := fun t s x hb => by
    rcases hor t with e1 | ⟨_, e1⟩
    · rwa [e1] at hb
    · rw [hb] at e1; cases e1
  have hR2 : R (fun k => base k ∨ ∃ t, t ≠ d ∧ t ≠ z ∧ F t k) w S S ((fr.kill z).sweep d) a w' := hR1.step hg hk (fun _ _ _ _ => Iff.rfl) hlt (fun g hg' => by
    refine ⟨fun hB => ?_, fun l e hl => hlabF l e g d (hnv l e l hl) (hrow g hg'), fun t s x hf => hboxF t s x g d (hnb t s x hf) (hrow g hg')⟩
    rcases hB with hB | ⟨t, ht, _, hF⟩
    · exact hbase g hB hg'.symm
    · exact hother t g ht hF hg'.symm)
  have hR3 : R (fun k => base k ∨ ∃ t, t ≠ d ∧ t ≠ z ∧ F t k) w S S ((fr.kill z).putP d v) (a.put (some d) v') w' := hR2.put_plain hd (vague_rd hvague _ _ _) hplain
  have hFdt : ∀ b, Fd b → (∃ t, F t b) ∨ (w.heap.size ≤ b ∧ b < w'.heap.size) := fun b hb => (hFd b hb).elim (fun hh => .inl ⟨d, hh⟩) (fun hh => hh.elim (fun hh => .inl ⟨z, hh⟩) .inr)
  have hR4 := (hR3.rebase (fun k hk => hk)).widen (X := Fd) (fun k hk => (hFdt k hk).elim (fun ⟨_, hh⟩ => Nat.lt_of_lt_of_le (h.lt hh) hsize) (·.2))
    (fun t l e b hl hb hX => by
      unfold Fr.putP Fr.put at hl
      split at hl
      · rw [vague_lab hvague] at hl; cases hl
      · rename_i ht
        rw [getD_put a d v' t hd, if_neg ht] at hb
        have hl2 := hnv t e l (drop_lab hl).1
        have hl3 := h.r.cp t l e hl2
        have hl4 : (fr l).lab = some (l, e) := by rw [hl3.1]; exact hl2
        rw [← hl3.2] at hb
        rcases hFdt b hX with ⟨t', hF⟩ | hF
        · exact hlabF l e b t' hl4 hF hb
        · have := h.r.own_lt hl4 hb
          omega)
    (fun t s x b hl hb hX => by
      unfold Fr.putP Fr.put at hl
      split at hl
      · rw [hl] at hv; cases hv
      · rename_i ht
        rw [getD_put a d v' t hd, if_neg ht] at hb
        have hl1 := hnb t s x (drop_box hl)
        rcases hFdt b hX with ⟨t', hF⟩ | hF
        · exact hboxF t s x b t' hl1 hF hb
        · have := h.r.box_lt hl1 hb
          omega)
  have hroots : ∀ t, t ≠ d → t ≠ z → ((fr.kill z).putP d v t).isRoot = (fr t).isRoot ∧ ((fr t).isRoot = true → (fr.kill z).putP d v t = fr t) := fun t e1 e2 => by
    obtain ⟨e3, e4⟩ := putP_root (fr.kill z) d v e1
    have e5 : fr.kill z t = fr.sweep z t := kill_ne fr e2
    rw [e5] at e3 e4
    obtain ⟨e6, e7⟩ := sweep_root fr z t
    exact ⟨e3.trans e6, fun hh => (e4 (e6.trans hh)).trans (e7 hh)⟩
  refine h.upd (fun t => t = d ∨ t = z) (hR4.rebase (fun k hk => ?_)) ⟨hg.os, hg.tape, hg.output, hg.size, fun k hk => hg.block k (h.base_le hk) (hbase k hk)⟩ (fun _ _ _ => Iff.rfl) hk
    (fun t ht b => ⟨fun hh => hh.elim (fun hh => absurd (.inl hh.1) ht) (·.2.2), fun hh => .inr ⟨fun e => ht (.inl e), fun e => ht (.inr e), hh⟩⟩) (fun t b ht hb => hg.block b (h.lt hb) (hother t b (fun e => ht (.inl e)) hb)) (fun _ _ _ _ _ => Iff.rfl)
    (fun t ht => ?_) (fun t b ht hb => ?_) (fun t t' b ht hne hb hb' => ?_) (fun t ht hr' b hb => ?_) (fun t ht hr' => ?_) (fun t s r ht => ?_) (fun t s r ht => ?_)
  · rcases hk with hk | ⟨t, ⟨rfl, ht⟩ | ht⟩
    · exact .inl (.inl hk)
    · exact .inr ht
    · exact .inl (.inr ⟨t, ht⟩)
  · obtain ⟨e1, e2⟩ := hroots t (fun e => ht (.inl e)) (fun e => ht (.inr e))
    exact ⟨e1, fun hh => ⟨e2 hh, htv t (fun e => ht (.inl e))⟩⟩
  · rcases hb with hb | hb
    · rcases hFdt b hb.2 with ⟨t', hF⟩ | hF
      · exact h.nb t' b hF
      · intro hB
        have := h.base_le hB
        omega
    · exact h.nb t b hb.2.2
  · rcases hb with ⟨rfl, hb⟩ | hb
    · rcases hb' with hb' | hb'
      · exact hne hb'.1.symm
      · rcases hFd b hb with hF | hF | hF
        · exact h.dj t t' b hne hF hb'.2.2
        · exact h.dj z t' b (Ne.symm hb'.2.1) hF hb'.2.2
        · have := h.lt hb'.2.2
          omega
    · rcases ht with ht | ht
      · exact hb.1 ht
      · exact hb.2.1 ht
  · rcases ht with rfl | rfl
    · rw [putP_self, hv] at hr'
      cases hr'
    · rcases hb with hb | hb
      · exact hzd hb.1
      · exact hb.2.1 rfl
  · rcases ht with rfl | rfl
    · rw [putP_self, htd]
      have e : (fun b => (t = t ∧ Fd b) ∨ (t ≠ t ∧ t ≠ z ∧ F t b)) = Fd := funext fun b => propext ⟨fun hh => hh.elim (·.2) (fun hh => absurd rfl hh.1), fun hh => .inl ⟨rfl, hh⟩⟩
      rw [e]
      exact hr
    · obtain ⟨e3, _⟩ := putP_root (fr.kill t) d v hzd
      rw [kill_self] at e3
      rw [e3] at hr'
      cases hr'
  · by_cases htd' : t = d
    · subst htd'
      rw [putP_self] at ht
      rw [ht] at hv
      cases hv
    · obtain ⟨e1, e2⟩ := putP_adr ht htd'
      by_cases htz : t = z
      · subst htz; rw [kill_self] at e1; cases e1
      · rw [kill_ne fr htz] at e1
        obtain ⟨e3, e4⟩ := sweep_adr e1
        exact .inl ⟨fun hx => hx.elim e2 e4, e3, htv t htd'⟩
  · by_cases htd' : t = d
    · subst htd'
      rw [putP_self] at ht
      rw [ht] at hv
      cases hv
    · obtain ⟨e1, e2⟩ := putP_val ht htd'
      by_cases htz : t = z
      · subst htz; rw [kill_self] at e1; cases e1
      · rw [kill_ne fr htz] at e1
        obtain ⟨e3, e4⟩ := sweep_val e1
        exact .inl ⟨fun hx => hx.elim e2 e4, e3, htv t htd'⟩
end
end Go.Av
end

section
/-
  Trees put behind a private slice, and slices of one tree: the operations. An owned slice that becomes a tree.
-/
namespace Go.Av
open Go.RowKit Go.Lib

section
variable {base : Nat → Prop} {w0 w : World} {S0 S : Stable} {fr : Fr} {gv : Nat → Value} {a : Act} {F : Nat → Nat → Prop} {P : Program} {E : EnvP}

theorem cells_one {v : Value} (h : v.oneCell' = true) : v.cells = #[v] := by
  cases v <;> first | rfl | (simp [Value.oneCell'] at h)

theorem valOk_one {q : PSh} {v : Value} (h : valOk q v) (hs : q.isSl = true) : v.oneCell' = true := by
  have hag : q.agg = false := by cases q <;> first | rfl | cases hs
  unfold valOk at h
  rw [hag] at h
  simpa using h

/-- Trees put behind a private slice of trees. -/
theorem RP.pushesT {d z : Nat} {te : TypeId} {e : PSh} {l m : List (Den e.sh)} {u : Value} (h : RP P base w0 S0 S (fr.putP d (.pv (.psl te e) l none)) gv (a.put (some d) u) w F) (hd : d < a.tmps.size) (hz : z < a.tmps.size) (hzd : z ≠ d) (hT : TyOk P E.toEnv)
    {o : Oper} {x : Operand} {t : TypeId} (hop : o.op = .call { callee := .builtin .append, args := #[x, .tmp z], argTypes := #[t, t] }) (hs : (E.ti t).sh = some (.sl e.sh)) (hby : (E.ti (E.ti t).el).bytes ≤ 1024) (hte : te = (E.ti t).el)
    (hzv : fr.putP d (.pv (.psl te e) l none) z = .pv (.psl te e) m none) (hev : a.eval x = u) (hroom : List.length l + List.length m ≤ room) :
    ∃ v' w' F', (execOp a.eval o).run P w = .ok (.value v') w' ∧ RP P base w0 S0 S (((fr.putP d (.pv (.psl te e) l none)).kill z).putP d (.pv (.psl te e) (List.append l m) none)) gv (a.put (some d) v') w' F' ∧ Keeps w S w' S := by
  have hd' : d < (a.put (some d) u).tmps.size := by rw [put_size]; exact hd
  have htd : tv gv (a.put (some d) u) d = u := by rw [tv_put gv a d u d hd, if_pos rfl]
  have htz : tv gv (a.put (some d) u) z = a.eval (.tmp z) := by rw [tv_put gv a d u z hd, if_neg hzd, tv_eval gv a z hz]
  obtain ⟨hv, hpm⟩ := h.pv_at (d := d) (putP_self _ _ _)
  obtain ⟨hv2, hpm2⟩ := h.pv_at hzv
  rw [htd] at hv hpm
  rw [htz] at hv2 hpm2
  obtain ⟨xs, Fe, k1⟩ := psl_apart (valOk_cells hv rfl) hpm
  obtain ⟨ys, Ge, k2⟩ := psl_apart (valOk_cells hv2 rfl) hpm2
  obtain ⟨te', ht, hte', hpos, rfl⟩ := (hT t _ hs).desc
  obtain ⟨i, z0, hi, hsz, hbys, hz0, hrd⟩ := (hT _ _ hte').info
  have hzs : z0.cells.size = e.sh.size := by have := RdC.length _ _ _ (hrd w S).cells; simpa using this
  have hroom' : List.length l + List.length m ≤ 1073741824 := hroom
  have h63 : List.length l + List.length m ≤ maxLen := by unfold maxLen; omega
  have hbytes : (List.length l + List.length m) * (E.ti (E.ti t).el).bytes ≤ 140737488355328 := Nat.le_trans (Nat.mul_le_mul hroom' hby) (by decide)
  have hrun : ∀ {v' : Value} {w' : World}, (Builtin.append_ #[t, t] o.type #[a.eval x, a.eval (.tmp z)]).run P w = .ok v' w' → (execOp a.eval o).run P w = .ok (.value v') w' := fun hr => by
    unfold execOp
    simp only [hop, resolve, invoke, builtin, Sem.run_bind, Sem.run_pure, Result.andThen_ok, List.map_toArray, List.map_cons, List.map_nil, hr]
  have hesz : e.sh.size = e.size := PSh.size_eq e
  have happ : ∃ v' w', (execOp a.eval o).run P w = .ok (.value v') w' ∧ App w 0 te e.size u (List.length l) (List.length m) xs ys v' w' := by
    have hown1 := k1.own
    rw [hte, ← hesz] at hown1
    rcases k2.own.2 with ⟨e1, e2⟩ | ⟨g, cap, cur, e1, _⟩
    · have hys : ys = [] := List.eq_nil_of_length_eq_zero (by rw [k2.own.1, e2]; simp)
      obtain ⟨r1, r2⟩ := app_none (P := P) w 0 t o.type _ i e.sh.size ht hi u (List.length l) xs hown1 0
      refine ⟨u, w, hrun (by rw [hev, e1]; exact r1), ?_⟩
      rw [e2, hys, hte, ← hesz]
      exact r2
    · obtain ⟨v', w', r1, r2⟩ := app_slice (P := P) w 0 t o.type _ i z0 e.sh.size _ ht hi hz0 hsz hbys hzs hpos u (List.length l) xs hown1 ⟨g, 0, none⟩ (List.length m) cap ys (by rw [k2.own.1, hesz])
        (fun j q hq => k2.own.cells (g := g) (by rw [e1]; rfl) j q hq) k2.one h63 hbytes (Nat.zero_le _)
      refine ⟨v', w', hrun (by rw [hev, e1]; exact r1), ?_⟩
      rw [hte, ← hesz]
      exact r2
  obtain ⟨v', w', r1, r2⟩ := happ
  have hslt := h.r.slt
  obtain ⟨m1, m2⟩ := psl_pushed hslt k1 k2 (fun b h1 h2 => h.dj d z b (Ne.symm hzd) h1 h2) (fun b hb => hb.elim h.lt h.lt) r2
  obtain ⟨hgr, hv'⟩ := r2.facts
  have h0 : valR v' 0 = some v' := by
    rcases r2.own.2 with ⟨rfl, _⟩ | ⟨g, cap, cur, rfl, _⟩ <;> rfl
  obtain ⟨hvo, hroot⟩ := slice_root (q := .psl te e) rfl m1 h0
  have := h.regrow2 (v := .pv (.psl te e) (List.append l m) none) hd' hzd (by rw [putP_self]; rfl) (by rw [hzv]; rfl) hgr (fun b hb => (k1.fq b).2 (.inl hb)) m2 (fun b o hs => Nat.lt_of_lt_of_le (hslt b o hs) hgr.size) rfl
    (fun b hb => by
      rcases hb with hb | ⟨n, hb | hb⟩
      · rcases (hv' b hb).1 with h1 | h1
        · exact .inl ((k1.fq b).2 (.inl h1))
        · exact .inr (.inr ⟨h1, (hv' b hb).2⟩)
      · exact .inl ((k1.fq b).2 (.inr ⟨n, hb.2⟩))
      · exact .inr (.inl ((k2.fq b).2 (.inr ⟨_, hb.2⟩)))) (.tree _ _ (.psl te e) _ none (.val v') (.pv (.psl te e) _ none v' hvo) hroot)
  rw [put_put] at this
  exact ⟨v', w', _, r1, this, m2⟩

/-- A slice of one value. -/
theorem run_build1 (hT : TyOk P E.toEnv) {t : TypeId} {e : Sh} (hs : (E.ti t).sh = some (.sl e)) (he : e.size = 1) {v : Value} (hv : v.oneCell' = true) :
    (Instr.buildSlice t 1 #[(0, v)]).run P w = .ok (.slice (some ⟨w.heap.size, 0, none⟩) 1 1) (w.alloc (.cells #[v] (E.ti t).el)) := by
  obtain ⟨te, hd, hte, hpos, rfl⟩ := (hT t _ hs).desc
  obtain ⟨i, z, hi, hsz, _, hz, hrd⟩ := (hT _ _ hte).info
  have hzs : z.cells.size = 1 := by have := RdC.length _ _ _ (hrd w (fun _ _ => False)).cells; rw [he] at this; simpa using this
  have hcv := cells_one hv
  unfold Instr.buildSlice
  rw [Sem.run_bind, run_underlying hd, Result.andThen_ok]
  simp only
  rw [Sem.run_bind, (hT _ _ hte).sizeOf, Result.andThen_ok]
  rw [he, if_neg (by omega), if_neg (by omega)]
  simp only [Sem.run_bind, Sem.run_pure, Result.andThen_ok, zeroValue, typeInfo, program, Sem.run, hi, hz]
  have hfill : Instr.fill (fun i => some (i * 1, 1)) (Array.map (fun x => z.cells[x % z.cells.size]!) (Array.range (1 * 1))) [(0, v)] = some #[v] := by
    simp only [Instr.fill, hcv]
    rw [if_neg (by simp)]
    have hr : Array.range (1 * 1) = #[0] := rfl
    rw [hr]
    simp
  rw [hfill]
  simp [newRow]

/-- A slice of one tree. -/
theorem RP.buildsOne (h : RP P base w0 S0 S fr gv a w F) (hT : TyOk P E.toEnv) {d y : Nat} (hd : d < a.tmps.size) (hy : y < a.tmps.size) (hyd : y ≠ d) {o : Oper} {x : Operand} {t te : TypeId} {e : PSh} {m : Den e.sh}
    (hop : o.op = .buildSlice t 1 #[(0, x)]) (hs : (E.ti t).sh = some (.sl e.sh)) (hte : te = (E.ti t).el) (hsl : e.isSl = true) (hfy : fr y = .pv e m none) (hev : a.eval x = a.eval (.tmp y)) :
    ∃ v' w' F', (execOp a.eval o).run P w = .ok (.value v') w' ∧ RP P base w0 S0 S (((fr.putP d (.pv (.psl te e) [] none)).kill y).putP d (.pv (.psl te e) [m] none)) gv (a.put (some d) v') w' F' ∧ Keeps w S w' S ∧ Below w.heap.size w w' := by
  have hesz : e.sh.size = 1 := by rw [PSh.size_eq]; cases e <;> first | rfl | cases hsl
  have hes : e.size = 1 := by rw [← PSh.size_eq]; exact hesz
  obtain ⟨hv, hpm⟩ := h.pv_at hfy
  rw [tv_eval gv a y hy] at hv hpm
  have hone := valOk_one hv hsl
  have hrun : (execOp a.eval o).run P w = .ok (.value (.slice (some ⟨w.heap.size, 0, none⟩) 1 1)) (w.alloc (.cells #[a.eval x] (E.ti t).el)) := by
    have h1 := run_build1 (P := P) (w := w) hT hs hesz (v := a.eval x) (by rw [hev]; exact hone)
    unfold execOp
    simp only [hop]
    refine run_v ?_
    simpa using h1
  have h0 := h.nilRoot hd (q := .psl te e) (y := []) rfl
  have hd' : d < (a.put (some d) (.slice none 0 0)).tmps.size := by rw [put_size]; exact hd
  have hbel := below_alloc w (.cells #[a.eval x] (E.ti t).el)
  have hheap : (w.alloc (.cells #[a.eval x] (E.ti t).el)).heap[w.heap.size]? = some (.cells #[a.eval x] (E.ti t).el (0, 0)) := heap_alloc_new w _
  have hkeep : Keeps w S (w.alloc (.cells #[a.eval x] (E.ti t).el)) S := keeps_below h.r.slt hbel
  have hsize : (w.alloc (.cells #[a.eval x] (E.ti t).el)).heap.size = w.heap.size + 1 := by simp
  have hfy' : fr.putP d (.pv (.psl te e) [] none) y = .pv e m none := by
    rw [(putP_root fr d (.pv (.psl te e) [] none) hyd).2 (by rw [hfy]; rfl), hfy]
  have hFy : ∀ b, ((y = d ∧ False) ∨ (y ≠ d ∧ F y b)) ↔ F y b := fun b => ⟨fun hh => hh.elim (fun hh => hh.2.elim) (·.2), fun hh => .inr ⟨hyd, hh⟩⟩
  have hpm' : PM (w.alloc (.cells #[a.eval x] (E.ti t).el)) S (.psl te e) (valR (.slice (some ⟨w.heap.size, 0, none⟩) 1 1)) [m] (fun b => (Value.slice (some ⟨w.heap.size, 0, none⟩) 1 1).ownBlock = some b ∨ ∃ n, (fun n b => n = 0 ∧ F y b) n b) := by
    refine psl_join (xs := [a.eval x]) ⟨by simp [hes], .inr ⟨w.heap.size, 1, #[a.eval x], rfl, Nat.zero_le _, by rw [hte]; exact hheap, Nat.le_refl _, by unfold maxLen; omega, by simp [hes], by simp [hes]⟩⟩ (fun n z hn => ?_) (fun n b hn hh => ?_) (fun n n' b hne h1 h2 => hne (h1.1.trans h2.1.symm)) (fun n b hh hc => ?_) (fun b hb o hs => ?_)
    · match n, hn with
      | 0, hn =>
        simp only [List.getElem?_cons_zero, Option.some.injEq] at hn
        subst hn
        have := PM.step hkeep e _ (fun i => [a.eval x][0 * e.size + i]?) m (F y) hpm (fun i hi => by
          obtain rfl : i = 0 := by omega
          simp only [Nat.zero_mul, Nat.zero_add, List.getElem?_cons_zero, hev]
          exact (valOk_cells hv hsl).symm) (fun b hb => hbel.block b (h.lt hb)) (fun _ _ _ => Iff.rfl)
        exact this.congrF fun b => ⟨fun hb => ⟨rfl, hb⟩, (·.2)⟩
      | n + 1, hn => simp at hn
    · simp only [List.length_cons, List.length_nil] at hn
      omega
    · simp only [Value.ownBlock, Option.some.injEq] at hc
      have := h.lt hh.2
      omega
    · simp only [Value.ownBlock, Option.some.injEq] at hb
      have := h.r.slt b o hs
      omega
  obtain ⟨hvo, hroot⟩ := slice_root (q := .psl te e) rfl hpm' rfl
  have := h0.regrow2 (z := y) (row := none) (v := .pv (.psl te e) [m] none) hd' hyd (by rw [putP_self]; rfl) (by rw [hfy']; rfl) (grown_of_below hbel _) (fun _ e => by cases e) hkeep (fun b o hs => by have := h.r.slt b o hs; omega) rfl
    (fun b hb => by
      rcases hb with hb | ⟨n, _, hb⟩
      · simp only [Value.ownBlock, Option.some.injEq] at hb
        exact .inr (.inr (by omega))
      · exact .inr (.inl ((hFy b).2 hb))) (.tree _ _ (.psl te e) _ none (.val _) (.pv (.psl te e) _ none _ hvo) hroot)
  rw [put_put] at this
  exact ⟨_, _, _, hrun, this, hkeep, hbel⟩

/-- A slice of one nil. -/
theorem RP.buildsNil (h : RP P base w0 S0 S fr gv a w F) (hT : TyOk P E.toEnv) {d : Nat} (hd : d < a.tmps.size) {o : Oper} {t te : TypeId} {e : PSh} {m : Den e.sh}
    (hop : o.op = .buildSlice t 1 #[(0, .const (.slice none 0 0))]) (hs : (E.ti t).sh = some (.sl e.sh)) (hte : te = (E.ti t).el) (hsl : e.isSl = true) (hm : nilP e = some m) :
    ∃ v' w' F', (execOp a.eval o).run P w = .ok (.value v') w' ∧ RP P base w0 S0 S (fr.putP d (.pv (.psl te e) [m] none)) gv (a.put (some d) v') w' F' ∧ Keeps w S w' S ∧ Below w.heap.size w w' := by
  have hesz : e.sh.size = 1 := by rw [PSh.size_eq]; cases e <;> first | rfl | cases hsl
  have hes : e.size = 1 := by rw [← PSh.size_eq]; exact hesz
  have hpm : PM w S e (valR (.slice none 0 0)) m (fun _ => False) := by
    cases e with
    | osl te e =>
      simp only [nilP, Option.some.injEq] at hm
      subst hm
      simp only [PM]
      exact ⟨_, rfl, ⟨[], ⟨by simp, .inl ⟨rfl, rfl⟩⟩, rfl⟩, fun b => ⟨fun hf => hf.elim, fun e => by cases e⟩, fun _ hf => hf.elim⟩
    | psl te e =>
      simp only [nilP, Option.some.injEq] at hm
      subst hm
      simp only [PM]
      exact ⟨_, rfl, .inl ⟨rfl, rfl, fun _ hf => hf⟩⟩
    | _ => cases hsl
  have hrun : (execOp a.eval o).run P w = .ok (.value (.slice (some ⟨w.heap.size, 0, none⟩) 1 1)) (w.alloc (.cells #[.slice none 0 0] (E.ti t).el)) := by
    have h1 := run_build1 (P := P) (w := w) hT hs hesz (v := .slice none 0 0) rfl
    unfold execOp
    simp only [hop]
    refine run_v ?_
    simp only [List.map_toArray, List.map_cons, List.map_nil]
    exact h1
  have hbel := below_alloc w (.cells #[.slice none 0 0] (E.ti t).el)
  have hheap : (w.alloc (.cells #[.slice none 0 0] (E.ti t).el)).heap[w.heap.size]? = some (.cells #[.slice none 0 0] (E.ti t).el (0, 0)) := heap_alloc_new w _
  have hkeep : Keeps w S (w.alloc (.cells #[.slice none 0 0] (E.ti t).el)) S := keeps_below h.r.slt hbel
  have hsize : (w.alloc (.cells #[.slice none 0 0] (E.ti t).el)).heap.size = w.heap.size + 1 := by simp
  have hpm' : PM (w.alloc (.cells #[.slice none 0 0] (E.ti t).el)) S (.psl te e) (valR (.slice (some ⟨w.heap.size, 0, none⟩) 1 1)) [m] (fun b => (Value.slice (some ⟨w.heap.size, 0, none⟩) 1 1).ownBlock = some b ∨ ∃ n : Nat, (fun _ _ => False : Nat → Nat → Prop) n b) := by
    refine psl_join (xs := [.slice none 0 0]) ⟨by simp [hes], .inr ⟨w.heap.size, 1, #[.slice none 0 0], rfl, Nat.zero_le _, by rw [hte]; exact hheap, Nat.le_refl _, by unfold maxLen; omega, by simp [hes], by simp [hes]⟩⟩ (fun n z hn => ?_) (fun n b hn hh => hh) (fun n n' b hne h1 h2 => h1) (fun n b hh hc => hh) (fun b hb o hs => ?_)
    · match n, hn with
      | 0, hn =>
        simp only [List.getElem?_cons_zero, Option.some.injEq] at hn
        subst hn
        exact PM.step hkeep e _ (fun i => [Value.slice none 0 0][0 * e.size + i]?) m (fun _ => False) hpm (fun i hi => by
          obtain rfl : i = 0 := by omega
          simp only [Nat.zero_mul, Nat.zero_add, List.getElem?_cons_zero]
          rfl) (fun b hb => hb.elim) (fun _ _ _ => Iff.rfl)
      | n + 1, hn => simp at hn
    · simp only [Value.ownBlock, Option.some.injEq] at hb
      have := h.r.slt b o hs
      omega
  obtain ⟨hvo, hroot⟩ := slice_root (q := .psl te e) rfl hpm' rfl
  have := h.newRoot hd (S' := S) (v := .pv (.psl te e) [m] none) ⟨hbel, fun _ _ _ => Iff.rfl, fun b o hs => by have := h.r.slt b o hs; omega⟩ (fun b hb => by
      rcases hb with hb | ⟨n, hb⟩
      · simp only [Value.ownBlock, Option.some.injEq] at hb
        omega
      · exact hb.elim) rfl (.tree _ _ (.psl te e) _ none (.val _) (.pv (.psl te e) _ none _ hvo) hroot)
  exact ⟨_, _, _, hrun, this, hkeep, hbel⟩

/-- An owned slice becomes a tree. -/
theorem RP.privatize (h : RP P base w0 S0 S fr gv a w F) {y : Nat} (hy : y < a.tmps.size) {e : Sh} {x : List (Den e)} {te : TypeId} (hfy : fr y = .dat (.sl e) x (some (y, te))) :
    ∃ F', RP P base w0 S0 S ((fr.spend y).putP y (.pv (.osl te e) x none)) gv a w F' := by
  have hgy : a.tmps.getD y undef = tv gv a y := by rw [tv_eval gv a y hy]; rfl
  obtain ⟨xs, k1, k2, k3, k4⟩ := h.r.own y e x te hfy
  rw [hgy] at k1 k3 k4
  have hlab : (fr y).lab = some (y, te) := by rw [hfy]; rfl
  have hpm : PM w S (.osl te e) (valR (tv gv a y)) x (fun b => (tv gv a y).ownBlock = some b) := by
    simp only [PM]
    refine ⟨tv gv a y, ?_, ⟨xs, ownsRowM_of k1, k2⟩, fun b => Iff.rfl, fun b hb o => k3 b hb o⟩
    rcases k1.2 with ⟨e1, _⟩ | ⟨g, cap, cur, e1, _⟩ <;> (rw [e1]; rfl)
  have h0 : valR (tv gv a y) 0 = some (tv gv a y) := by
    rcases k1.2 with ⟨e1, _⟩ | ⟨g, cap, cur, e1, _⟩ <;> (rw [e1]; rfl)
  obtain ⟨hv, hroot⟩ := slice_root (q := .osl te e) rfl hpm h0
  have hblt : ∀ b, (tv gv a y).ownBlock = some b → b < w.heap.size := fun b hb => (k1.lt b hb).2
  have hnF : ∀ t b, (tv gv a y).ownBlock = some b → ¬ F t b := fun t b hb hF => k4 b hb (.inr ⟨t, hF⟩)
  have hR1 : R (fun k => base k ∨ ∃ t, F t k) w S S ((fr.spend y).sweep y) a w := (h.r.spend y).repriv (fun t => sweep_or _ y t)
  have hR2 := hR1.put_plain hy (val := a.tmps.getD y undef) (v := .pv (.osl te e) x none) (.pv _ _ _ _) rfl
  rw [put_self a y hy] at hR2
  have hR3 := (hR2.rebase (fun k hk => hk)).widen (X := fun b => (tv gv a y).ownBlock = some b) hblt
    (fun t l e' b hl hb hX => by
      unfold Fr.put at hl
      split at hl
      · cases hl
      · rename_i ht
        have hl1 := (drop_lab hl).1
        have hl2 : ((fr.spend y) t).lab = some (l, e') := by
          rcases sweep_or (fr.spend y) y t with e1 | ⟨_, e1⟩
          · rwa [e1] at hl1
          · rw [vague_lab e1] at hl1; cases hl1
        have hcp := (h.r.spend y).cp t l e' hl2
        have hl3 : ((fr.spend y) l).lab = some (l, e') := by rw [hcp.1]; exact hl2
        obtain ⟨hl4, hne⟩ := spent_lab hl3
        rw [← hcp.2] at hb
        exact h.r.dist l y e' te b hl4 hlab hne hb (by rw [hgy]; exact hX))
    (fun t s z b hl hb hX => by
      unfold Fr.put at hl
      split at hl
      · cases hl
      · rename_i ht
        have hl1 := drop_box hl
        have hl2 : (fr.spend y) t = .box s z := by
          rcases sweep_or (fr.spend y) y t with e1 | ⟨_, e1⟩
          · rwa [e1] at hl1
          · rw [hl1] at e1; cases e1
        exact h.r.boxo t s z b y te (spent_box hl2) hb hlab (by rw [hgy]; exact hX))
  have hsp : ∀ t, (fr t).isPriv = true → (fr.spend y) t = fr t := fun t ht => by
    unfold Fr.spend
    generalize fr t = av at ht
    cases av <;> first | rfl | cases ht
  have hsr : ∀ t, t ≠ y → ((fr.spend y).putP y (.pv (.osl te e) x none) t).isRoot = (fr t).isRoot ∧ ((fr t).isRoot = true → (fr.spend y).putP y (.pv (.osl te e) x none) t = fr t) := fun t ht => by
    obtain ⟨e1, e2⟩ := putP_root (fr.spend y) y (.pv (.osl te e) x none) ht
    have e3 : ((fr.spend y) t).isRoot = (fr t).isRoot := by
      unfold Fr.spend
      generalize fr t = av
      cases av <;> rfl
    refine ⟨e1.trans e3, fun hh => (e2 (e3.trans hh)).trans (hsp t ?_)⟩
    unfold AV.isPriv; rw [hh]; rfl
  refine ⟨fun t b => (t = y ∧ (tv gv a y).ownBlock = some b) ∨ (t ≠ y ∧ F t b), ?_⟩
  refine h.upd (fun t => t = y) (hR3.rebase (fun k hk => ?_)) (Kept.refl _ _) (fun _ _ _ => Iff.rfl) (Keeps.refl _ _) (fun t ht b => ⟨fun hh => hh.elim (fun hh => absurd hh.1 ht) (·.2), fun hh => .inr ⟨ht, hh⟩⟩) (fun _ _ _ _ => rfl) (fun _ _ _ _ _ => Iff.rfl)
    (fun t ht => ⟨(hsr t ht).1, fun hh => ⟨(hsr t ht).2 hh, rfl⟩⟩) (fun t b ht hb => ?_) (fun t t' b ht hne hb hb' => ?_) (fun t ht hr b hb => ?_) (fun t ht hr => ?_) (fun t s r ht => ?_) (fun t s r ht => ?_)
  · rcases hk with hk | ⟨t, ht | ht⟩
    · exact .inl (.inl hk)
    · exact .inr ht.2
    · exact .inl (.inr ⟨t, ht.2⟩)
  · rcases hb with hb | hb
    · exact fun hB => k4 b hb.2 (.inl hB)
    · exact h.nb t b hb.2
  · rcases hb with hb | hb
    · rcases hb' with hb' | hb'
      · exact hne (hb.1.trans hb'.1.symm)
      · exact hnF t' b hb.2 hb'.2
    · exact absurd ht hb.1
  · subst ht
    rw [putP_self] at hr
    cases hr
  · subst ht
    rw [putP_self]
    have e : (fun b => (t = t ∧ (tv gv a t).ownBlock = some b) ∨ (t ≠ t ∧ F t b)) = fun b => (tv gv a t).ownBlock = some b := funext fun b => propext ⟨fun hh => hh.elim (·.2) (fun hh => absurd rfl hh.1), fun hh => .inl ⟨rfl, hh⟩⟩
    rw [e]
    exact .tree _ _ (.osl te _) _ none (.val _) (.pv _ _ _ _ hv) hroot
  · by_cases hty : t = y
    · subst hty; rw [putP_self] at ht; cases ht
    · obtain ⟨e1, e2⟩ := putP_adr ht hty
      have e3 : fr t = .padr s r := by
        unfold Fr.spend at e1
        generalize fr t = av at e1
        cases av <;> first | exact e1 | cases e1
      exact .inl ⟨e2, e3, rfl⟩
  · by_cases hty : t = y
    · subst hty; rw [putP_self] at ht; cases ht
    · obtain ⟨e1, e2⟩ := putP_val ht hty
      have e3 : fr t = .pval s r := by
        unfold Fr.spend at e1
        generalize fr t = av at e1
        cases av <;> first | exact e1 | cases e1
      exact .inl ⟨e2, e3, rfl⟩
end
end Go.Av
end

section
/-
  Texts' iterators, package-level variables, boxes laid open.
-/
namespace Go.Av
open Go.RowKit Go.Lib

theorem run_next_at {P : Program} (w : World) (b pos : Nat) (bs : ByteArray) (ty : TypeId) (h : w.heap[b]? = some (.stringIter bs pos)) :
    (Instr.next (.pointer (some ⟨b, 0, none⟩)) true ty).run P w =
      if pos < bs.size then .ok (.tuple #[.bool true, .int .i64 pos, .int .i32 (Utf8.decode bs pos).1]) { w with heap := w.heap.setIfInBounds b (.stringIter bs (pos + (Utf8.decode bs pos).2)) }
      else .ok (.tuple #[.bool false]) w := by
  by_cases hp : pos < bs.size
  · simp only [Instr.next, getObj, setObj, Sem.run_bind, Sem.run, h, Result.andThen, hp, if_true]
    simp [goInt]
  · simp [Instr.next, getObj, Sem.run, h, hp]

theorem bytes_of {bs : ByteArray} {s : List UInt8} (h : bs.data.toList = s) : bs = ⟨s.toArray⟩ := by
  subst h
  cases bs
  simp

section
variable {base : Nat → Prop} {w0 w : World} {S0 S : Stable} {fr : Fr} {gv : Nat → Value} {a : Act} {F : Nat → Nat → Prop} {P : Program} {E : EnvP}

theorem set_or {y : Nat} {v : AV} (h1 : (fr y).vague = true) (h2 : v.vague = true) (t : Nat) : fr.set y v t = fr t ∨ ((fr t).vague = true ∧ (fr.set y v t).vague = true) := by
  unfold Fr.set
  by_cases ht : t = y
  · subst ht; rw [if_pos rfl]; exact .inr ⟨h1, h2⟩
  · rw [if_neg ht]; exact .inl rfl

/-- An iterator goes on. -/
theorem RP.iterated (h : RP P base w0 S0 S fr gv a w F) {y pos : Nat} {s : List UInt8} (hy : fr y = .itr s pos) (pos' : Nat) : ∃ b, tv gv a y = .pointer (some ⟨b, 0, none⟩) ∧ w.heap[b]? = some (.stringIter ⟨s.toArray⟩ pos) ∧
    ∀ w', w' = { w with heap := w.heap.setIfInBounds b (.stringIter ⟨s.toArray⟩ pos') } → RP P base w0 S0 S (fr.set y (.itr s pos')) gv a w' F ∧ Keeps w S w' S := by
  have hr := h.root y (by rw [hy]; rfl)
  rw [hy] at hr
  generalize hv : tv gv a y = v at hr
  cases hr with
  | tree _ _ p x hh c h1 h2 => cases h1
  | itr _ _ b bs h1 h2 h3 h4 =>
    obtain rfl := bytes_of h2
    refine ⟨b, rfl, h1, fun w' hw' => ?_⟩
    have hb : b < w.heap.size := (Array.getElem?_eq_some_iff.1 h1).1
    have hother : ∀ k, k ≠ b → w'.heap[k]? = w.heap[k]? := fun k hk => by
      subst hw'
      exact Array.getElem?_setIfInBounds_ne (Ne.symm hk)
    have hsize : w'.heap.size = w.heap.size := by subst hw'; simp
    have hat : w'.heap[b]? = some (.stringIter ⟨s.toArray⟩ pos') := by
      subst hw'
      simp [hb]
    have hg : w.grownBy w' (some b) := ⟨by subst hw'; rfl, by subst hw'; rfl, by subst hw'; rfl, by omega, fun k _ hk => hother k (fun e => hk (by rw [e]))⟩
    have hFb : F y b := (h3 b).2 rfl
    have hkeep : Keeps w S w' S := fun b1 o hs => ⟨hs, cell_of_block (hother b1 (fun e => by subst e; exact h4 o hs)) o⟩
    have hvy : (fr y).vague = true := by rw [hy]; rfl
    refine ⟨h.upd (fun t => t = y) ((h.r.repriv (set_or hvy rfl)).wrote (.inr ⟨y, hFb⟩) h4 hg) ⟨hg.os, hg.tape, hg.output, hg.size, fun k hk => hother k (fun e => by subst e; exact h.nb y _ hFb hk)⟩
      (fun _ _ _ => Iff.rfl) hkeep (fun _ _ _ => Iff.rfl) (fun t k ht hk => hother k (fun e => by subst e; exact h.dj t y _ ht hk hFb)) (fun _ _ _ _ _ => Iff.rfl)
      (fun t ht => ?_) (fun t k ht hk => h.nb t k hk) (fun t t' k ht hne hk => h.dj t t' k hne hk) (fun t ht hr k hk => ?_) (fun t ht hr => ?_) (fun t s' r ht => ?_) (fun t s' r ht => ?_), hkeep⟩
    · unfold Fr.set
      rw [if_neg ht]
      exact ⟨rfl, fun _ => ⟨rfl, rfl⟩⟩
    · subst ht
      unfold Fr.set at hr
      rw [if_pos rfl] at hr
      cases hr
    · subst ht
      unfold Fr.set
      rw [if_pos rfl, hv]
      exact .itr s pos' b _ hat rfl h3 h4
    · unfold Fr.set at ht
      split at ht
      · cases ht
      · rename_i hts
        refine .inl ⟨fun e => ?_, ht, rfl⟩
        rcases h.adr t s' r ht with ⟨p, x, hh, c, k1, _⟩ | ⟨s1, V, x, k1, _⟩
        · rw [e, hy] at k1
          cases k1
        · rw [e, hy] at k1
          cases k1
    · unfold Fr.set at ht
      split at ht
      · cases ht
      · rename_i hts
        refine .inl ⟨fun e => ?_, ht, rfl⟩
        obtain ⟨p, x, hh, c, k1, _⟩ := h.val t s' r ht
        rw [e, hy] at k1
        cases k1

/-- The contracts that a reading goes by are kept; what is laid is there. -/
def EnvOk (P : Program) (E : EnvP) (w : World) (S : Stable) : Prop := FnsOk P E.toEnv w S ∧ GlOk E.gl w S ∧ ∀ f sp, E.mns f = some sp → SoundMAt P f sp w S

theorem set_tv (d t : Nat) (v : Value) (hd : d < a.tmps.size) (ht : t ≠ d) : tv gv (a.put (some d) v) t = tv gv a t := by rw [tv_put gv a d v t hd, if_neg ht]

/-- What 'makeQ' says is what the machine does. -/
theorem makeQ_ok (hn : a.tmps.size = E.nt) (h : RP P base w0 S0 S fr gv a w F) (hT : TyOk P E.toEnv) (hG : GlOk E.gl w S) {o : Oper} {d : Nat} (hdst : o.dst = some d) (hd : d < a.tmps.size) {fr' : Fr} (he : makeQ E fr o d = some (some (true, fr'))) :
    OpDoes P o a w (PPost P base w0 S0 E.nt gv w S F ((fr d).isRoot = false ∧ (∀ x b, o.op ≠ .next x b)) fr') := by
  unfold makeQ at he
  split at he
  · -- range
    rename_i t x hop
    simp only [Option.some.injEq] at he
    split at he
    · rename_i ok s o1 h1
      split at he
      · rename_i hs
        simp only [Option.some.injEq, Prod.mk.injEq] at he
        obtain ⟨rfl, rfl⟩ := he
        obtain ⟨bs, ev, hbs⟩ := dat_str (rdo_ok h.r h1).1
        have hdd := (hT t _ hs).desc
        have hrun : (execOp a.eval o).run P w = .ok (.value (.pointer (some ⟨w.heap.size, 0, none⟩))) (w.iter bs 0) := by
          unfold execOp
          rw [hop]
          simp only
          rw [Sem.run_bind, ev, run_range_string w t bs hdd]
          rfl
        have hB : Below w.heap.size w (w.iter bs 0) := (Below.refl _ _).alloc (Nat.le_refl _) _
        have g : Grew w S (w.iter bs 0) S := ⟨hB, fun _ _ _ => Iff.rfl, fun b o hs => Nat.lt_of_lt_of_le (h.r.slt b o hs) hB.size⟩
        have hsz : (w.iter bs 0).heap.size = w.heap.size + 1 := by show (w.heap.push _).size = _; simp
        refine OpDoes.value hrun ?_
        rw [hdst]
        exact ⟨by rw [put_size, hn], S, _, h.newRoot hd g (Fd := fun b => b = w.heap.size) (fun b hb => by omega) rfl
          (.itr s 0 w.heap.size bs (World.iter_heap _ _ _) hbs (fun k => Iff.rfl) (fun o ho => by have := h.r.slt _ o ho; omega)), g.keeps h.r.slt,
          fun ht t b hb => ⟨g.below.block b (h.lt hb), t, .inr ⟨not_root h ht.1 hb, hb⟩⟩⟩
      · cases he
    · cases he
  · -- next
    rename_i y hop
    simp only [Option.some.injEq] at he
    split at he
    · rename_i s pos hy
      split at he
      · cases he
      · rename_i hc
        simp only [Option.some.injEq, Prod.mk.injEq, true_and] at he
        subst he
        have hne : ¬ y = d := fun e => hc (.inl e)
        have hly : y < a.tmps.size := by rw [hn]; exact Nat.lt_of_not_le (fun e => hc (.inr e))
        have hev : a.eval (.tmp y) = tv gv a y := by
          show a.tmps.getD y undef = a.tmps.getD y (gv y)
          unfold Array.getD
          rw [dif_pos hly, dif_pos hly]
        obtain ⟨b, hb, hat, hgo⟩ := h.iterated hy (bif decide (pos < s.length) then pos + (decL s pos).2 else pos)
        have hsz : (ByteArray.mk s.toArray).size = s.length := by simp [ByteArray.size]
        have hnx := run_next_at (P := P) w b pos ⟨s.toArray⟩ o.type hat
        rw [hsz] at hnx
        have hop' : ∀ val w1, (Instr.next (.pointer (some ⟨b, 0, none⟩)) true o.type).run P w = .ok val w1 → (execOp a.eval o).run P w = .ok (.value val) w1 := fun val w1 hr => by
          unfold execOp
          rw [hop]
          simp only
          rw [Sem.run_bind, hev, hb, hr]
          rfl
        have fin : ∀ val w1, (Instr.next (.pointer (some ⟨b, 0, none⟩)) true o.type).run P w = .ok val w1 → w1 = { w with heap := w.heap.setIfInBounds b (.stringIter ⟨s.toArray⟩ (bif decide (pos < s.length) then pos + (decL s pos).2 else pos)) } →
            Rd w1 S val (.tup [.bool (decide (pos < s.length)), .cnd (decide (pos < s.length)) (.int .i64 pos), .cnd (decide (pos < s.length)) (.int .i32 (decL s pos).1)]) →
            OpDoes P o a w (PPost P base w0 S0 E.nt gv w S F ((fr d).isRoot = false ∧ (∀ x b, o.op ≠ .next x b)) ((fr.set y (.itr s (bif decide (pos < s.length) then pos + (decL s pos).2 else pos))).putP d
              (.tup [.bool (decide (pos < s.length)), .cnd (decide (pos < s.length)) (.int .i64 pos), .cnd (decide (pos < s.length)) (.int .i32 (decL s pos).1)]))) := fun val w1 hr hw1 hrd => by
          obtain ⟨h1, hk⟩ := hgo w1 hw1
          refine OpDoes.value (hop' val w1 hr) ?_
          rw [hdst]
          exact ⟨by rw [put_size, hn], S, _, h1.putDat hd hrd rfl rfl, hk, fun ht => absurd hop (ht.2 _ _)⟩
        by_cases hp : pos < s.length
        · rw [if_pos hp] at hnx
          refine fin _ _ hnx (by simp [hp, decL]) (.tup _ _ (fun i c hi => ?_) (fun i c hi => ?_))
          · have := (List.getElem?_eq_some_iff.1 hi).1
            exact .inl (by simpa using this)
          · have hd : decide (pos < s.length) = true := by simpa using hp
            rw [hd] at hi
            match i, hi with
            | 0, hi => simp only [List.getElem?_cons_zero, Option.some.injEq] at hi; subst hi; exact rd_bool _ _ _
            | 1, hi => simp only [List.getElem?_cons_succ, List.getElem?_cons_zero, Option.some.injEq] at hi; subst hi; exact .cnd _ _ _ (fun e => by cases e) (fun _ => rd_int _ _ _ _)
            | 2, hi => simp only [List.getElem?_cons_succ, List.getElem?_cons_zero, Option.some.injEq] at hi; subst hi; exact .cnd _ _ _ (fun e => by cases e) (fun _ => rd_int _ _ _ _)
            | n + 3, hi => simp at hi
        · rw [if_neg hp] at hnx
          have hd : decide (pos < s.length) = false := by simpa using hp
          refine fin _ _ hnx ?_ (.tup _ _ (fun i c hi => ?_) (fun i c hi => ?_))
          · simp only [hd, cond_false]
            have : w.heap.setIfInBounds b (.stringIter ⟨s.toArray⟩ pos) = w.heap := by
              obtain ⟨hlt, hv⟩ := Array.getElem?_eq_some_iff.1 hat
              refine Array.ext (by simp) (fun i h1 h2 => ?_)
              rw [Array.getElem_setIfInBounds]
              split
              · rename_i e; subst e; exact hv.symm
              · rfl
            rw [this]
          · rw [hd] at hi
            match i, hi with
            | 0, hi => exact .inl (by simp)
            | 1, hi => simp only [List.getElem?_cons_succ, List.getElem?_cons_zero, Option.some.injEq] at hi; exact .inr ⟨_, hi.symm⟩
            | 2, hi => simp only [List.getElem?_cons_succ, List.getElem?_cons_zero, Option.some.injEq] at hi; exact .inr ⟨_, hi.symm⟩
            | n + 3, hi => simp at hi
          · rw [hd] at hi
            match i, hi with
            | 0, hi => simp only [List.getElem?_cons_zero, Option.some.injEq] at hi; subst hi; exact rd_bool _ _ _
            | 1, hi => simp only [List.getElem?_cons_succ, List.getElem?_cons_zero, Option.some.injEq] at hi; subst hi; exact .cnd _ _ _ (fun _ => rfl) (fun e => by cases e)
            | 2, hi => simp only [List.getElem?_cons_succ, List.getElem?_cons_zero, Option.some.injEq] at hi; subst hi; exact .cnd _ _ _ (fun _ => rfl) (fun e => by cases e)
            | n + 3, hi => simp at hi
    · cases he
  · -- a variable
    rename_i t g hop
    simp only [Option.some.injEq] at he
    split at he
    · rename_i s x hgl
      split at he
      · rename_i hs
        simp only [Option.some.injEq, Prod.mk.injEq, true_and] at he
        subst he
        have hr := hG g s x hgl
        cases hr with
        | adr _ _ ad cs h1 h2 =>
          have hcell : ∀ (i : Nat) (v : Value), cs[i]? = some v → w.cell? ⟨g, 0 + i, none⟩ = some v := fun i v hi => (((h2.2 (by rintro rfl; simp at hi)).2 i v hi).2)
          obtain ⟨m1, m2⟩ := run_loadVar_cells (hT t s hs) h1 (ad := ⟨g, 0, none⟩) rfl hcell
          have hrun : (execOp a.eval o).run P w = .ok (.value (valOf s cs)) w := by
            unfold execOp
            rw [hop]
            simp only
            rw [Sem.run_bind]
            have : (Instr.loadAt t (a.eval (.global g))).run P w = .ok (valOf s cs) w := m1
            rw [this]
            rfl
          refine OpDoes.value hrun ?_
          rw [hdst]
          exact ⟨by rw [put_size, hn], S, _, h.putDat hd (.dat _ _ _ _ m2) rfl rfl, Keeps.refl _ _, fun ht t b hb => ⟨rfl, t, not_root h ht.1 hb, hb⟩⟩
      · cases he
    · cases he
  · -- a variable's element
    rename_i t g i hop
    simp only [Option.some.injEq] at he
    split at he
    · rename_i m e l hgl
      cases h2 : rdo E.toEnv fr true 0 i with
      | mk oki vi =>
      rw [h2] at he
      simp only at he
      split at he
      · rename_i n hnn
        split at he
        · rename_i hs
          simp only [Option.some.injEq, Prod.mk.injEq, Bool.and_eq_true, decide_eq_true_eq] at he
          obtain ⟨⟨⟨rfl, h0⟩, hlt⟩, rfl⟩ := he
          have hr := hG g _ l hgl
          obtain ⟨k, e2⟩ := idxV_ok (rdo_ok h.r h2).1 hnn
          obtain ⟨te, hdd, hte⟩ := (hT t _ hs).desc
          cases hr with
          | adr _ _ ad cs h1 hm =>
            simp only [RdC] at h1
            obtain ⟨hlen, hch⟩ := h1
            have hl : n.toNat < List.length l := by omega
            have hel := Chunks.at (RdC.length e) n.toNat hch hl
            have hrun : (execOp a.eval o).run P w = .ok (.value (.pointer (some ((⟨g, 0, none⟩ : Addr).add (n.toNat * e.size))))) w := by
              unfold execOp
              rw [hop]
              simp only
              rw [Sem.run_bind]
              have : (Instr.indexAt t (a.eval (.global g)) (a.eval i)).run P w = .ok (.pointer (some ((⟨g, 0, none⟩ : Addr).add (n.toNat * e.size)))) w := by
                show (Instr.indexAt t (.pointer (some ⟨g, 0, none⟩)) (a.eval i)).run P w = _
                unfold Instr.indexAt
                rw [e2]
                have h1' : (n : Int) < ((m : Nat) : Int) := hlt
                simp only [asIntOf, Sem.run_bind, Sem.run_pure, Result.andThen_ok, run_underlying hdd, Instr.sureAddr]
                rw [if_pos ⟨h0, h1'⟩]
                simp only [Sem.run_bind, (hT te _ hte).sizeOf, Result.andThen_ok, Sem.run_pure]
              rw [this]
              rfl
            refine OpDoes.value hrun ?_
            rw [hdst]
            refine ⟨by rw [put_size, hn], S, _, h.putDat hd (v := .adr e (List.getD l n.toNat (dflt e))) ?_ rfl rfl, Keeps.refl _ _, fun ht t b hb => ⟨rfl, t, not_root h ht.1 hb, hb⟩⟩
            rw [show List.getD l n.toNat (dflt e) = l[n.toNat] by simp [List.getD, List.getElem?_eq_getElem hl]]
            exact .adr _ _ _ _ hel ⟨add_spot _ _ rfl, fun hne => (hm.2 (by rintro rfl; simp at hne)).sub _ _⟩
        · cases he
      · cases he
    · cases he
  · cases he

/-! ### Boxes laid open -/

theorem R.openB {B : Nat → Prop} (h : R B w S S fr a w) {b : Nat} {s : Sh} {x : Den s} (hb : fr b = .box s x) : ∃ S', R B w S' S' (fr.openB b) a w ∧ Keeps w S w S' ∧ (∀ k o, B k → (S' k o ↔ S k o)) := by
  obtain ⟨g, ⟨hgB, hns, c, T, hc, hr⟩, hp⟩ := h.box b s x hb
  have hg : g < w.heap.size := (Array.getElem?_eq_some_iff.1 hc).1
  let S' : Stable := fun k o => S k o ∨ (k = g ∧ o < c.size)
  have hk : Keeps w S w S' := fun k o hs => ⟨.inl hs, rfl⟩
  have hne : ∀ k o, k ≠ g → (S' k o ↔ S k o) := fun k o hkg => ⟨fun hh => hh.elim id (fun hh => absurd hh.1 hkg), .inl⟩
  have hat : ∀ t, fr.openB b t = if t = b then .adr s x else (fr t).unref b := fun t => by
    simp only [Fr.openB, hb]
  have hoth : ∀ t, t ≠ b → (fr.openB b t = fr t ∧ ∀ p, fr t ≠ .badr b p) ∨ (fr.openB b t = .bad ∧ ∃ p, fr t = .badr b p) := fun t ht => by
    rw [hat, if_neg ht]
    generalize fr t = v
    cases v with
    | badr b' p =>
      simp only [AV.unref]
      split
      · rename_i e; subst e; exact .inr ⟨rfl, p, rfl⟩
      · rename_i e; exact .inl ⟨rfl, fun p' hh => by cases hh; exact e rfl⟩
    | _ => exact .inl ⟨rfl, fun p hh => by cases hh⟩
  have hself : fr.openB b b = .adr s x := by rw [hat, if_pos rfl]
  have hsame : ∀ t, fr.openB b t = .adr s x ∧ t = b ∨ (fr.openB b t).lab = none ∧ fr.openB b t = .bad ∨ t ≠ b ∧ fr.openB b t = fr t := fun t => by
    by_cases ht : t = b
    · subst ht; exact .inl ⟨hself, rfl⟩
    · rcases hoth t ht with ⟨e, _⟩ | ⟨e, _⟩
      · exact .inr (.inr ⟨ht, e⟩)
      · exact .inr (.inl ⟨by rw [e]; rfl, e⟩)
  have hlab : ∀ t l e, (fr.openB b t).lab = some (l, e) → t ≠ b ∧ fr.openB b t = fr t := fun t l e he => by
    rcases hsame t with ⟨e1, _⟩ | ⟨e1, _⟩ | ⟨e1, e2⟩
    · rw [e1] at he; cases he
    · rw [e1] at he; cases he
    · exact ⟨e1, e2⟩
  have hlab' : ∀ t l e, (fr t).lab = some (l, e) → fr.openB b t = fr t := fun t l e he => by
    have ht : t ≠ b := by rintro rfl; rw [hb] at he; cases he
    rcases hoth t ht with ⟨e1, _⟩ | ⟨_, p, e1⟩
    · exact e1
    · rw [e1] at he; cases he
  have hown : ∀ t l e k, (fr t).lab = some (l, e) → (a.tmps.getD t undef).ownBlock = some k → k ≠ g := fun t l e k hl hk2 e2 => by
    subst e2
    obtain ⟨k1, k2⟩ := h.cp t l e hl
    exact h.boxo b s x k l e hb hp (by rw [k1]; exact hl) (by rw [k2]; exact hk2)
  refine ⟨S', ?_, hk, fun k o hB => hne k o (fun e => by subst e; exact hgB hB)⟩
  exact {
    below := Kept.refl _ _
    base_le := h.base_le
    old := fun _ _ _ => Iff.rfl
    kp := Keeps.refl _ _
    slt := fun k o hh => hh.elim (h.slt k o) (fun hh => by rw [hh.1]; exact hg)
    dfr := h.dfr
    rd := fun t => by
      by_cases ht : t = b
      · subst ht
        rw [hself, hp]
        refine .adr s x _ c.toList (RdC.keeps hk _ _ _ hr) ⟨rfl, fun _ => ⟨rfl, fun i v hi => ⟨.inr ⟨rfl, ?_⟩, ?_⟩⟩⟩
        · have := (List.getElem?_eq_some_iff.1 hi).1
          show 0 + i < c.size
          simpa using this
        · simp only [World.cell?, hc, Option.isSome_none, Bool.false_eq_true, if_false]
          simpa using hi
      · rcases hoth t ht with ⟨e, _⟩ | ⟨e, _⟩
        · rw [e]; exact (h.rd t).keeps hk
        · rw [e]; exact .bad _
    cp := fun t l e he => by
      obtain ⟨_, e1⟩ := hlab t l e he
      rw [e1] at he
      obtain ⟨k1, k2⟩ := h.cp t l e he
      exact ⟨by rw [e1, hlab' l l e (by rw [k1]; exact he), k1], k2⟩
    sls := fun t u y l he => by
      obtain ⟨_, e1⟩ := hlab t l.1 l.2 (by rw [he]; rfl)
      exact h.sls t u y l (by rw [← e1]; exact he)
    own := fun t e y te he => by
      obtain ⟨_, e1⟩ := hlab t t te (by rw [he]; rfl)
      rw [e1] at he
      obtain ⟨xs, m1, m2, m3, m4⟩ := h.own t e y te he
      exact ⟨xs, m1, m2.mono (RdC.keeps hk e), fun k hk2 o => (hne k o (hown t t te k (by rw [he]; rfl) hk2)).trans (m3 k hk2 o), m4⟩
    dist := fun l l' e e' k h1 h2 hne2 hk2 => by
      obtain ⟨_, e1⟩ := hlab l l e h1
      obtain ⟨_, e2⟩ := hlab l' l' e' h2
      rw [e1] at h1
      rw [e2] at h2
      exact h.dist l l' e e' k h1 h2 hne2 hk2
    box := fun t u y he => by
      rcases hsame t with ⟨e1, _⟩ | ⟨_, e1⟩ | ⟨ht, e1⟩
      · rw [e1] at he; cases he
      · rw [e1] at he; cases he
      · rw [e1] at he
        obtain ⟨k, ⟨m1, m2, c2, T2, m3, m4⟩, m5⟩ := h.box t u y he
        have hkg : k ≠ g := fun e => by subst e; exact h.boxd t b u s y x k he hb ht m5 hp
        exact ⟨k, ⟨m1, fun o ho => m2 o ((hne k o hkg).1 ho), c2, T2, m3, RdC.keeps hk _ _ _ m4⟩, m5⟩
    boxd := fun t t' u u' y y' k h1 h2 hne2 hk2 => by
      have f1 : fr.openB b t = fr t := by
        rcases hsame t with ⟨e1, _⟩ | ⟨_, e1⟩ | ⟨_, e1⟩
        · rw [e1] at h1; cases h1
        · rw [e1] at h1; cases h1
        · exact e1
      have f2 : fr.openB b t' = fr t' := by
        rcases hsame t' with ⟨e1, _⟩ | ⟨_, e1⟩ | ⟨_, e1⟩
        · rw [e1] at h2; cases h2
        · rw [e1] at h2; cases h2
        · exact e1
      rw [f1] at h1
      rw [f2] at h2
      exact h.boxd t t' u u' y y' k h1 h2 hne2 hk2
    boxo := fun t u y k l e h1 hk2 h2 => by
      have f1 : fr.openB b t = fr t := by
        rcases hsame t with ⟨e1, _⟩ | ⟨_, e1⟩ | ⟨_, e1⟩
        · rw [e1] at h1; cases h1
        · rw [e1] at h1; cases h1
        · exact e1
      rw [f1] at h1
      obtain ⟨_, e2⟩ := hlab l l e h2
      rw [e2] at h2
      exact h.boxo t u y k l e h1 hk2 h2
    badr := fun t s1 p he => by
      rcases hsame t with ⟨e1, _⟩ | ⟨_, e1⟩ | ⟨ht, e1⟩
      · rw [e1] at he; cases he
      · rw [e1] at he; cases he
      · rcases hoth t ht with ⟨e2, e3⟩ | ⟨e2, _⟩
        · rw [e2] at he
          obtain ⟨u, y, z, k, m1, m2⟩ := h.badr t s1 p he
          have hs1 : s1 ≠ b := fun e => by subst e; exact e3 p he
          rcases hoth s1 hs1 with ⟨e4, _⟩ | ⟨_, p', e4⟩
          · exact ⟨u, y, z, k, by rw [e4]; exact m1, m2⟩
          · rw [e4] at m1; cases m1
        · rw [e2] at he; cases he }

theorem openB_priv (fr : Fr) (b t : Nat) : ((fr t).isPriv = true → fr.openB b t = fr t) ∧ (fr.openB b t).isPriv = (fr t).isPriv := by
  by_cases hb : ∃ s x, fr b = .box s x
  · obtain ⟨s, x, hb⟩ := hb
    have hat : fr.openB b t = if t = b then .adr s x else (fr t).unref b := by simp only [Fr.openB, hb]
    rw [hat]
    by_cases ht : t = b
    · subst ht
      rw [if_pos rfl, hb]
      exact ⟨fun e => (by cases e), rfl⟩
    · rw [if_neg ht]
      generalize fr t = v
      cases v with
      | badr b' p =>
        simp only [AV.unref]
        split
        · exact ⟨fun e => (by cases e), rfl⟩
        · exact ⟨fun _ => rfl, rfl⟩
      | _ => exact ⟨fun _ => rfl, rfl⟩
  · have : fr.openB b = fr := by
      unfold Fr.openB
      split
      · rename_i s x he; exact absurd ⟨s, x, he⟩ hb
      · rfl
    rw [this]
    exact ⟨fun _ => rfl, rfl⟩

theorem priv_of_root {v : AV} (h : v.isRoot = true) : v.isPriv = true := by unfold AV.isPriv; rw [h]; rfl

theorem openB_root (fr : Fr) (b t : Nat) : (fr.openB b t).isRoot = (fr t).isRoot := by
  obtain ⟨e1, e2⟩ := openB_priv fr b t
  cases hp : (fr t).isPriv with
  | true => rw [e1 hp]
  | false =>
    rw [hp] at e2
    have f : ∀ v : AV, v.isPriv = false → v.isRoot = false := fun v hv => by
      cases hr : v.isRoot with
      | false => rfl
      | true => rw [priv_of_root hr] at hv; cases hv
    rw [f _ hp, f _ e2]

theorem openB_of_priv (fr : Fr) (b t : Nat) {v : AV} (h : fr.openB b t = v) (hp : v.isPriv = true) : fr t = v := by
  obtain ⟨e1, e2⟩ := openB_priv fr b t
  rw [h, hp] at e2
  rw [← e1 e2.symm, h]

theorem RP.openB (h : RP P base w0 S0 S fr gv a w F) (b : Nat) : ∃ S', RP P base w0 S0 S' (fr.openB b) gv a w F ∧ Keeps w S w S' := by
  by_cases hb : ∃ s x, fr b = .box s x
  · obtain ⟨s, x, hb⟩ := hb
    obtain ⟨S', h1, h2, h3⟩ := h.r.openB hb
    refine ⟨S', h.upd (fun _ => False) h1 (Kept.refl _ _) (fun k o hB => h3 k o (.inl hB)) h2 (fun _ _ _ => Iff.rfl) (fun _ _ _ _ => rfl) (fun t k o _ hF => h3 k o (.inr ⟨t, hF⟩))
      (fun t _ => ⟨openB_root fr b t, fun hr => ⟨(openB_priv fr b t).1 (priv_of_root hr), rfl⟩⟩) (fun _ _ hx => hx.elim) (fun _ _ _ hx => hx.elim) (fun _ hx => hx.elim) (fun _ hx => hx.elim)
      (fun t s' r ht => .inl ⟨id, openB_of_priv fr b t ht rfl, rfl⟩) (fun t s' r ht => .inl ⟨id, openB_of_priv fr b t ht rfl, rfl⟩), h2⟩
  · have : fr.openB b = fr := by
      unfold Fr.openB
      split
      · rename_i s x he; exact absurd ⟨s, x, he⟩ hb
      · rfl
    rw [this]
    exact ⟨S, h, Keeps.refl _ _⟩

theorem RP.openL : ∀ (l : List Nat) (fr : Fr) (S : Stable), RP P base w0 S0 S fr gv a w F → ∃ S', RP P base w0 S0 S' (openL l fr) gv a w F ∧ Keeps w S w S'
  | [], fr, S, h => ⟨S, h, Keeps.refl _ _⟩
  | b :: l, fr, S, h => by
    obtain ⟨S1, h1, k1⟩ := h.openB b
    obtain ⟨S2, h2, k2⟩ := RP.openL l _ S1 h1
    exact ⟨S2, h2, k1.trans k2⟩
end
end Go.Av
end

section
/-
  What turns the trees of a caller: calls by pointer and by closure; new roots.
-/
namespace Go.Av
open Go.RowKit Go.Lib

section
variable {base : Nat → Prop} {w0 w : World} {S0 S : Stable} {fr : Fr} {gv : Nat → Value} {a : Act} {F : Nat → Nat → Prop} {P : Program} {E : EnvP}

/-- The reading of the rest, where a set of blocks apart from it has turned. -/
theorem R.turnedSet {B : Nat → Prop} (h : R B w0 S0 S fr a w) {X : Nat → Prop} {w' : World} {S' : Stable} (ht : TurnedBut X w S w' S') (hB : ∀ k, B k → ¬ X k)
    (hl : ∀ t l e b, (fr t).lab = some (l, e) → (a.tmps.getD t undef).ownBlock = some b → ¬ X b) (hb : ∀ t s (x : Den s) b, fr t = .box s x → a.tmps.getD t undef = .pointer (some ⟨b, 0, none⟩) → ¬ X b) : R B w S S' fr a w' where
  below := ⟨ht.kept.os, ht.kept.tape, ht.kept.output, ht.kept.size, fun k hk => ht.kept.block k ⟨h.base_le k hk, hB k hk⟩⟩
  base_le := fun k hk => Nat.lt_of_lt_of_le (h.base_le k hk) ht.kept.size
  old := fun b o hk => ht.old b o (h.base_le b hk) (hB b hk)
  kp := ht.keeps
  slt := ht.lt
  dfr := h.dfr
  rd := fun t => (h.rd t).keeps ht.keeps
  cp := h.cp
  sls := h.sls
  own := fun t e x te he => by
    obtain ⟨xs, h1, h2, h3, h4⟩ := h.own t e x te he
    have hx : ∀ b, (a.tmps.getD t undef).ownBlock = some b → b < w.heap.size ∧ ¬ X b := fun b hb => ⟨(h1.lt b hb).2, hl t t te b (by rw [he]; rfl) hb⟩
    exact ⟨xs, ownsRow_block h1 (fun b hb => ht.kept.block b (hx b hb)), h2.mono (RdC.keeps ht.keeps e), fun b hb o => (ht.old b o (hx b hb).1 (hx b hb).2).trans (h3 b hb o), h4⟩
  dist := h.dist
  box := fun t s x he => by
    obtain ⟨b, ⟨k1, k2, c, T, k3, k4⟩, k5⟩ := h.box t s x he
    have hx : b < w.heap.size ∧ ¬ X b := ⟨(Array.getElem?_eq_some_iff.1 k3).1, hb t s x b he k5⟩
    exact ⟨b, ⟨k1, fun o ho => k2 o ((ht.old b o hx.1 hx.2).1 ho), c, T, (ht.kept.block b hx).trans k3, RdC.keeps ht.keeps _ _ _ k4⟩, k5⟩
  boxd := h.boxd
  boxo := h.boxo
  badr := h.badr

/-- The blocks of a whole root are there. -/
theorem RootAny.lt {av : AV} {v : Value} {X : Nat → Prop} (h : RootAny P w S X av v) (hs : sameRoot av av = true) {b : Nat} (hb : X b) : b < w.heap.size := by
  cases h with
  | tree _ _ p x hh c h1 h2 =>
    cases hh with
    | none =>
      by_cases hc : c.block = some b
      · obtain ⟨_, _, cur, T, e, _⟩ := h2.blk b hc
        exact (Array.getElem?_eq_some_iff.1 e).1
      · exact PM.lt p _ x _ h2.core b ⟨hb, hc⟩
    | some r => cases h1 <;> cases hs
  | itr s pos b' bs h1 h2 h3 h4 => cases hs
  | abs s V x _ hV hI => exact hV.lt _ _ _ _ _ _ hI hb

theorem sameRoot_self {av g : AV} (h : sameRoot av g = true) : sameRoot g g = true ∧ g.isRoot = true ∧ av.isRoot = true := by
  unfold sameRoot at h
  split at h
  · exact ⟨by simp [sameRoot], rfl, rfl⟩
  · exact ⟨rfl, rfl, rfl⟩
  · cases h

theorem turnR_self {s : Nat} {g : AV} : fr.turnR s g s = g := by simp [Fr.turnR, Fr.set]
theorem turnR_ne {s t : Nat} {g : AV} (ht : t ≠ s) : fr.turnR s g t = fr.sweepK s t := by simp [Fr.turnR, Fr.set, ht]

/-- A root's reference, when the root has turned. -/
theorem RefAt.turned {w' : World} {S' : Stable} {av g : AV} {v u : Value} {r : List PStep} {X Y : Nat → Prop} (h : RefAt w av v r u X) (ht : topRef r = true) (hs : sameRoot av g = true) (hg : RootAny P w' S' Y g v) : RefAt w' g v r u Y := by
  rcases h with ⟨p, x, hh, c, k1, k2⟩ | ⟨s, V, x, rfl, k1, k2⟩
  · cases k1 with
    | pv p x hh _ hv => cases hs
    | pbox p x hh b =>
      cases hh with
      | some r => cases hs
      | none =>
        cases g with
        | pbox q z hz =>
          cases hz with
          | some r => cases hs
          | none =>
            simp only [sameRoot, decide_eq_true_eq] at hs
            subst hs
            cases hg with
            | tree _ _ p' x' hh' c' m1 m2 =>
              cases m1 with
              | pbox _ _ _ _ =>
                refine .inl ⟨p, z, none, .blk b 0, .pbox _ _ _ _, k2.top ht (fun g0 e _ => ?_) (fun g0 o0 e => by cases e; rfl)⟩
                exact (m2.blk g0 (by rw [e]; rfl)).1
        | _ => cases hs
  · cases g with
    | abs s' V' x' => exact .inr ⟨s', V', x', rfl, k1, k2⟩
    | _ => cases hs

/-- A SLOT'S ROOT HAS TURNED, in its blocks and new ones. -/
theorem RP.calledM (h : RP P base w0 S0 S fr gv a w F) {s : Nat} {g : AV} {Fs : Nat → Prop} {w' : World} {S' : Stable} (ht : TurnedBut (F s) w S w' S') (hs : sameRoot (fr s) g = true) (hg : RootAny P w' S' Fs g (tv gv a s))
    (hsub : ∀ b, Fs b → F s b ∨ w.heap.size ≤ b) : RP P base w0 S0 S' (fr.turnR s g) gv a w' (fun t b => (t = s ∧ Fs b) ∨ (t ≠ s ∧ F t b)) := by
  obtain ⟨hgg, hgr, hsr⟩ := sameRoot_self hs
  have hlt : ∀ b, Fs b → b < w'.heap.size := fun b hb => hg.lt hgg hb
  have hvague := vague_of_root hsr
  have hor : ∀ t, fr.turnR s g t = fr t ∨ ((fr t).vague = true ∧ (fr.turnR s g t).vague = true) := fun t => by
    by_cases e : t = s
    · subst e
      rw [turnR_self]
      exact .inr ⟨hvague, vague_of_root hgr⟩
    · rw [turnR_ne e]
      exact sweepK_or fr s t
  have hR0 := h.r.repriv hor
  have hlab : ∀ t l e b, (fr.turnR s g t).lab = some (l, e) → (a.tmps.getD t undef).ownBlock = some b → ¬ F s b := fun t l e b hl hb hF => by
    have h1 := hR0.cp t l e hl
    have h2 : (fr.turnR s g l).lab = some (l, e) := by rw [h1.1]; exact hl
    rw [← h1.2] at hb
    exact hR0.lab_base h2 hb (.inr ⟨s, hF⟩)
  have hbox : ∀ t u (x : Den u) b, fr.turnR s g t = .box u x → a.tmps.getD t undef = .pointer (some ⟨b, 0, none⟩) → ¬ F s b := fun t u x b hl hb hF => by
    obtain ⟨b', k1, k2⟩ := hR0.box t u x hl
    rw [hb] at k2
    simp only [Value.pointer.injEq, Option.some.injEq, Addr.mk.injEq, and_true] at k2
    subst k2
    exact k1.1 (.inr ⟨s, hF⟩)
  have hR1 := (hR0.rebase (b2 := fun k => base k ∨ ∃ t, t ≠ s ∧ F t k) (fun k hk => hk.imp id (fun ⟨t, ht⟩ => ⟨t, ht.2⟩))).turnedSet ht (fun k hk => hk.elim (fun hB hF => h.nb s k hF hB) (fun ⟨t, h1, h2⟩ hF => h.dj t s k h1 h2 hF)) hlab hbox
  have hR2 := (hR1.rebase (fun k hk => hk)).widen (X := Fs) hlt
    (fun t l e b hl hb hX => by
      rcases hsub b hX with hF | hF
      · exact hlab t l e b hl hb hF
      · have h1 := hR0.cp t l e hl
        have h2 : (fr.turnR s g l).lab = some (l, e) := by rw [h1.1]; exact hl
        rw [← h1.2] at hb
        have := hR0.own_lt h2 hb
        omega)
    (fun t u x b hl hb hX => by
      rcases hsub b hX with hF | hF
      · exact hbox t u x b hl hb hF
      · have := hR0.box_lt hl hb
        omega)
  have hrest : ∀ t b, t ≠ s → F t b → ¬ F s b := fun t b h1 h2 hF => h.dj t s b h1 h2 hF
  refine h.upd (fun t => t = s) (hR2.rebase (fun k hk => ?_)) ⟨ht.kept.os, ht.kept.tape, ht.kept.output, ht.kept.size, fun k hk => ht.kept.block k ⟨h.base_le hk, fun hF => h.nb s k hF hk⟩⟩ (fun b o hB => ht.old b o (h.base_le hB) (fun hF => h.nb s b hF hB)) ht.keeps
    (fun t hts b => ⟨fun hh => hh.elim (fun hh => absurd hh.1 hts) (·.2), fun hh => .inr ⟨hts, hh⟩⟩) (fun t b hts hb => ht.kept.block b ⟨h.lt hb, hrest t b hts hb⟩) (fun t b o hts hb => ht.old b o (h.lt hb) (hrest t b hts hb))
    (fun t hts => ?_) (fun t b hts hb => ?_) (fun t t' b hts hne hb hb' => ?_) (fun t hts hr' b hb => ?_) (fun t hts hr' => ?_) (fun t s' r hh => ?_) (fun t s' r hh => ?_)
  · rcases hk with hk | ⟨t, ⟨rfl, hk⟩ | hk⟩
    · exact .inl (.inl hk)
    · exact .inr hk
    · exact .inl (.inr ⟨t, hk⟩)
  · rw [turnR_ne hts]
    obtain ⟨e1, e2⟩ := sweepK_root fr s t
    exact ⟨e1, fun hr => ⟨e2 hr, rfl⟩⟩
  · subst hts
    rcases hb with hb | hb
    · rcases hsub b hb.2 with hF | hF
      · exact h.nb t b hF
      · intro hB
        have := h.base_le hB
        omega
    · exact absurd rfl hb.1
  · subst hts
    rcases hb with hb | hb
    · rcases hb' with hb' | hb'
      · exact hne hb'.1.symm
      · rcases hsub b hb.2 with hF | hF
        · exact h.dj t t' b hne hF hb'.2
        · have := h.lt hb'.2
          omega
    · exact absurd rfl hb.1
  · subst hts
    rw [turnR_self, hgr] at hr'
    cases hr'
  · subst hts
    rw [turnR_self]
    have e : (fun b => (t = t ∧ Fs b) ∨ (t ≠ t ∧ F t b)) = Fs := funext fun b => propext ⟨fun hh => hh.elim (·.2) (fun hh => absurd rfl hh.1), fun hh => .inl ⟨rfl, hh⟩⟩
    rw [e]
    exact hg
  · by_cases hts : t = s
    · subst hts
      rw [turnR_self] at hh
      rw [hh] at hgr
      cases hgr
    · rw [turnR_ne hts] at hh
      obtain ⟨e1, e2⟩ := sweepK_adr hh
      by_cases hss : s' = s
      · subst hss
        right
        rw [turnR_self]
        have e : (fun b => (s' = s' ∧ Fs b) ∨ (s' ≠ s' ∧ F s' b)) = Fs := funext fun b => propext ⟨fun hh => hh.elim (·.2) (fun hh => absurd rfl hh.1), fun hh => .inl ⟨rfl, hh⟩⟩
        rw [e]
        exact (h.adr t s' r e1).turned (e2.resolve_left (fun e => e rfl)) hs hg
      · exact .inl ⟨hss, e1, rfl⟩
  · by_cases hts : t = s
    · subst hts
      rw [turnR_self] at hh
      rw [hh] at hgr
      cases hgr
    · rw [turnR_ne hts] at hh
      obtain ⟨e1, e2⟩ := sweepK_val hh
      exact .inl ⟨e2, e1, rfl⟩

/-! ### New roots -/

theorem RP.oslRoot {te : TypeId} {e : Sh} {l : List (Den e)} {xs : List Value} {val : Value} (h1 : ownsRowM w 0 te e.size val l.length xs) (h2 : Chunks (RdC w S e) l xs) (h3 : ∀ b, val.ownBlock = some b → ∀ o, (S b o ↔ o < l.length * e.size)) :
    RootAny P w S (fun b => val.ownBlock = some b) (.pv (.osl te e) l none) val := by
  have hv0 : valR val 0 = some val := by
    rcases h1.2 with ⟨rfl, _⟩ | ⟨g, cap, cur, _, rfl, _⟩ <;> rfl
  have hpm : PM w S (.osl te e) (valR val) l (fun b => val.ownBlock = some b) := by
    simp only [PM]
    exact ⟨val, hv0, ⟨xs, h1, h2⟩, fun b => Iff.rfl, h3⟩
  obtain ⟨k1, k2⟩ := slice_root (q := .osl te e) rfl hpm hv0
  exact .tree _ _ (.osl te e) l none (.val val) (.pv _ _ _ _ k1) k2

/-- Cells that are a tree's zero. -/
theorem zeroC_sl {e : Sh} {vs r : List Value} (h : zeroC (.sl e) vs = some r) : vs = .slice none 0 0 :: r := by
  simp only [zeroC] at h
  split at h
  · cases h
    rfl
  · cases h

theorem zeroV_cells {s : Sh} {z : Value} (h : zeroV s z = true) (ho : s.agg = false → z.oneCell' = true) : ∃ r, zeroC s z.cells.toList = some r := by
  cases hs : s.agg with
  | true =>
    cases z with
    | agg cs =>
      unfold zeroV at h
      rw [hs] at h
      simp only at h
      split at h
      · exact ⟨_, by assumption⟩
      · cases h
    | _ => unfold zeroV at h; rw [hs] at h; cases h
  | false =>
    have h1 := ho hs
    have hc : z.cells = #[z] := by cases z <;> first | rfl | (simp [Value.oneCell'] at h1)
    unfold zeroV at h
    rw [hs] at h
    simp only at h
    rw [hc]
    split at h
    · exact ⟨_, by assumption⟩
    · cases h

theorem zeroC_split {a b : Sh} {vs r : List Value} (h : zeroC (.pair a b) vs = some r) : ∃ r1, zeroC a vs = some r1 ∧ zeroC b r1 = some r := by
  simp only [zeroC] at h
  split at h
  · rename_i r1 h1
    exact ⟨r1, h1, h⟩
  · cases h

theorem PM.zero {w : World} {S : Stable} : ∀ (p : PSh) (vs r : List Value) (rd : Rdr), zeroC p.sh vs = some r → (∀ i v, i < p.size → vs[i]? = some v → rd i = some v) → PM w S p rd (dflt p.sh) (fun _ => False)
  | .leaf s, vs, r, rd, h, hr => by
    obtain ⟨us, e, k⟩ := zeroC_ok s vs r h
    simp only [PM]
    refine ⟨fun _ h => h, us, k w S, fun i v hv => hr i v ?_ ?_⟩
    · have := RdC.length _ _ _ (k w S)
      have := (List.getElem?_eq_some_iff.1 hv).1
      simp only [PSh.size]
      omega
    · rw [e, List.getElem?_append_left (List.getElem?_eq_some_iff.1 hv).1]
      exact hv
  | .parr n e, vs, r, rd, h, hr => by
    obtain ⟨us, e1, k⟩ := zeroC_ok (.arr n e) vs r h
    simp only [PM]
    refine ⟨fun _ h => h, us, k w S, fun i v hv => hr i v ?_ ?_⟩
    · have := RdC.length _ _ _ (k w S)
      have := (List.getElem?_eq_some_iff.1 hv).1
      simp only [PSh.size]
      simp only [Sh.size] at *
      omega
    · rw [e1, List.getElem?_append_left (List.getElem?_eq_some_iff.1 hv).1]
      exact hv
  | .osl te e, vs, r, rd, h, hr => by
    have hv := zeroC_sl h
    simp only [PM]
    refine ⟨.slice none 0 0, hr 0 _ (by simp [PSh.size]) (by rw [hv]; rfl), ⟨[], ownsRowM_of (World.ownsRow_nil w _ _ _), rfl⟩, fun b => ⟨fun hf => hf.elim, fun hb => by cases hb⟩, fun b hf => hf.elim⟩
  | .psl te e, vs, r, rd, h, hr => by
    have hv := zeroC_sl h
    simp only [PM]
    exact ⟨.slice none 0 0, hr 0 _ (by simp [PSh.size]) (by rw [hv]; rfl), .inl ⟨rfl, rfl, fun b hf => hf⟩⟩
  | .ppair a b, vs, r, rd, h, hr => by
    obtain ⟨r1, h1, h2⟩ := zeroC_split h
    obtain ⟨us, e1, k1⟩ := zeroC_ok a.sh vs r1 h1
    have hl := RdC.length _ _ _ (k1 w S)
    rw [PSh.size_eq] at hl
    simp only [PM]
    refine ⟨fun _ => False, fun _ => False, PM.zero a vs r1 rd h1 (fun i v hi hv => hr i v (by simp only [PSh.size]; omega) hv), PM.zero b r1 r _ h2 (fun i v hi hv => hr _ v (by simp only [PSh.size]; omega) ?_), fun _ h => h.elim, fun _ => by simp⟩
    rw [e1, List.getElem?_append_right (by omega), hl, show a.size + i - a.size = i by omega]
    exact hv

/-- A new block that holds a tree. -/
theorem boxRoot {p : PSh} {x : Den p.sh} {b : Nat} {cur : Array Value} {T : TypeId} (hb : w.heap[b]? = some (.cells cur T (0, 0))) (hsz : cur.size = p.size) (hns : ∀ o, ¬ S b o) (hpm : PM w S p (blkR w b 0) x (fun _ => False)) :
    RootAny P w S (fun k => k = b) (.pbox p x none) (.pointer (some ⟨b, 0, none⟩)) := by
  refine .tree _ _ p x none (.blk b 0) (.pbox _ _ _ _) ⟨fun g hg => ?_, ?_, fun v hv => by cases hv⟩
  · simp only [Spot.block, Option.some.injEq] at hg
    subst hg
    exact ⟨rfl, hns, cur, T, hb, hsz⟩
  · exact PM.congrF hpm fun k => ⟨fun hf => hf.elim, fun hk => hk.2 (by rw [hk.1]; rfl)⟩

theorem makeN_ok (hn : a.tmps.size = E.nt) (h : RP P base w0 S0 S fr gv a w F) (hT : TyOk P E.toEnv) {o : Oper} {d : Nat} (hdst : o.dst = some d) (hd : d < a.tmps.size) {fr' : Fr} (he : makeN E fr o d = some (some (true, fr'))) :
    OpDoes P o a w (PPost P base w0 S0 E.nt gv w S F ((fr d).isRoot = false) fr') := by
  unfold makeN at he
  split at he
  · cases he
  · rename_i p hp
    have tame : ∀ {w' : World} {S' : Stable} {Fd : Nat → Prop}, Grew w S w' S' → (fr d).isRoot = false → ∀ t b, F t b → w'.heap[b]? = w.heap[b]? ∧ ∃ t', (t' = d ∧ Fd b) ∨ (t' ≠ d ∧ F t' b) := fun g ht t b hb => ⟨g.below.block b (h.lt hb), t, .inr ⟨not_root h ht hb, hb⟩⟩
    split at he
    · -- a text's octets
      rename_i src dst x hop
      split at he
      · rename_i te
        simp only [Option.some.injEq] at he
        split at he
        · rename_i ok s ob hx
          split at he
          · rename_i hc
            obtain ⟨hs, hsrc, hte⟩ := hc
            simp only [Option.some.injEq, Prod.mk.injEq, Bool.and_eq_true, decide_eq_true_eq] at he
            obtain ⟨⟨rfl, hroom⟩, rfl⟩ := he
            subst hte
            obtain ⟨b, ev, hb⟩ := dat_str (rdo_ok h.r hx).1
            obtain ⟨te, hd1, hte, _, rfl⟩ := (hT dst _ hs).desc
            have hel := (hT _ _ hte).desc
            have hsr := (hT src _ hsrc).desc
            have hrun : (execOp a.eval o).run P w = .ok (.value (.slice (some ⟨w.heap.size, 0, none⟩) b.size (grownCap w b.size 0 (E.ti dst).el))) (Lib.bytesWorld w (E.ti dst).el b) := by
              unfold execOp
              simp only [hop]
              refine run_v ?_
              rw [ev]
              exact Lib.run_convert_string_bytes w src dst _ b hsr hd1 hel
            have hsz : b.size = s.length := by rw [← hb]; simp
            have hbel : Below w.heap.size w (Lib.bytesWorld w (E.ti dst).el b) := ⟨rfl, rfl, rfl, by rw [Lib.bytesWorld_size]; omega, fun k hk => Lib.bytesWorld_at_old w _ b k hk⟩
            have g : Grew w S (Lib.bytesWorld w (E.ti dst).el b) (fun k j => S k j ∨ (k = w.heap.size ∧ j < b.size)) :=
              ⟨hbel, fun k j hk => ⟨fun hs => hs.elim id (fun hh => absurd hh.1 (by omega)), .inl⟩, fun k j hs => by
                rw [Lib.bytesWorld_size]
                rcases hs with hs | hs
                · have := h.r.slt k j hs; omega
                · omega⟩
            have hcap := grownCap_ge w b.size 0 (E.ti dst).el
            have hmax : grownCap w b.size 0 (E.ti dst).el ≤ maxLen := grownCap_le_maxLen w b.size 0 _ (by unfold maxLen; unfold room at hroom; omega)
            have hbsz : (Lib.bytesCells w (E.ti dst).el b).size = grownCap w b.size 0 (E.ti dst).el := by
              simp only [Lib.bytesCells, Array.size_append, Array.size_map, ByteArray.size_data, Array.size_replicate]
              omega
            have htk : (Lib.bytesCells w (E.ti dst).el b).toList.take (b.size * 1) = strCells b := by
              simp only [Lib.bytesCells, Array.toList_append, Nat.mul_one]
              rw [List.take_left' (by simp)]
              unfold strCells
              simp
            have hrow : ownsRowM (Lib.bytesWorld w (E.ti dst).el b) 0 (E.ti dst).el 1 (.slice (some ⟨w.heap.size, 0, none⟩) b.size (grownCap w b.size 0 (E.ti dst).el)) s.length (strCells b) := by
              refine ⟨by rw [strCells_length, Nat.mul_one, hsz], .inr ⟨w.heap.size, _, Lib.bytesCells w (E.ti dst).el b, _, by rw [hsz], Nat.zero_le _, Lib.bytesWorld_at_new w _ b, .inr (Nat.le_refl _), by rw [← hsz]; exact hcap, hmax, by rw [hbsz, Nat.mul_one], by rw [← hsz]; exact htk⟩⟩
            have hch : Chunks (RdC (Lib.bytesWorld w (E.ti dst).el b) (fun k j => S k j ∨ (k = w.heap.size ∧ j < b.size)) .byte) s (strCells b) := by
              rw [← hb]
              exact (chunks_str (w := w) (S := S) b).mono (RdC.keeps (g.keeps h.r.slt) .byte)
            have hroot : RootAny P (Lib.bytesWorld w (E.ti dst).el b) (fun k j => S k j ∨ (k = w.heap.size ∧ j < b.size)) _ (.pv (.osl (E.ti dst).el .byte) s none) (.slice (some ⟨w.heap.size, 0, none⟩) b.size (grownCap w b.size 0 (E.ti dst).el)) :=
              RP.oslRoot (e := .byte) hrow hch (fun k hk j => by
                simp only [Value.ownBlock, Option.some.injEq] at hk
                subst hk
                have hsz1 : Sh.byte.size = 1 := rfl
                rw [hsz1, Nat.mul_one, ← hsz]
                exact ⟨fun hh => hh.elim (fun hh => absurd (h.r.slt _ _ hh) (Nat.lt_irrefl _)) (·.2), fun hh => .inr ⟨rfl, hh⟩⟩)
            have hnr := h.newRoot hd g (fun k hk => by
              simp only [Value.ownBlock, Option.some.injEq] at hk
              subst hk
              exact ⟨Nat.le_refl _, by rw [Lib.bytesWorld_size]; omega⟩) rfl hroot
            exact OpDoes.value hrun ⟨by rw [hdst, put_size, hn], _, _, by rw [hdst]; exact hnr, g.keeps h.r.slt, tame g⟩
          · cases he
        · cases he
      · cases he
    · -- a variable
      rename_i t hop
      simp only [Option.some.injEq] at he
      split at he
      · rename_i hs
        simp only [Option.some.injEq, Prod.mk.injEq, true_and] at he
        subst he
        obtain ⟨i, z, hi, hsz, _, hz, hrd⟩ := (hT t _ hs).info
        have hzv := (hT t _ hs).zero i z hi hz
        have hcells := RdC.length _ _ _ (hrd w S).cells
        have hrun : (execOp a.eval o).run P w = .ok (.value (.pointer (some ⟨w.heap.size, 0, none⟩))) (w.alloc (.cells z.cells t)) := by
          unfold execOp
          simp only [hop]
          refine run_v ?_
          simp [Instr.alloc, zeroValue, typeInfo, hi, hz, newVar, newRow]
        have hzc : ∃ r, zeroC p.sh z.cells.toList = some r := zeroV_cells hzv (fun hag => by
          have hr := hrd w S
          unfold RdV at hr
          rw [hag] at hr
          exact RdC.oneCell _ _ _ hr z (by simp))
        obtain ⟨r, hzc⟩ := hzc
        have hheap : (w.alloc (.cells z.cells t)).heap[w.heap.size]? = some (.cells z.cells t (0, 0)) := heap_alloc_new w _
        have hbel := below_alloc w (.cells z.cells t)
        have g : Grew w S (w.alloc (.cells z.cells t)) S := ⟨hbel, fun _ _ _ => Iff.rfl, fun b o hs => Nat.lt_of_lt_of_le (h.r.slt b o hs) hbel.size⟩
        have hpm : PM (w.alloc (.cells z.cells t)) S p (blkR (w.alloc (.cells z.cells t)) w.heap.size 0) (dflt p.sh) (fun _ => False) := PM.zero p _ r _ hzc (fun i v _ hv => by
          simp only [blkR, World.cell?, hheap, Option.isSome_none, Bool.false_eq_true, if_false, Nat.zero_add]
          simpa using hv)
        have hroot := boxRoot (P := P) hheap (by rw [← PSh.size_eq]; simpa using hcells) (fun o hs => absurd (h.r.slt _ _ hs) (Nat.lt_irrefl _)) hpm
        have hnr := h.newRoot hd g (fun k hk => by subst hk; exact ⟨Nat.le_refl _, (Array.getElem?_eq_some_iff.1 hheap).1⟩) rfl hroot
        exact OpDoes.value hrun ⟨by rw [hdst, put_size, hn], _, _, by rw [hdst]; exact hnr, g.keeps h.r.slt, tame g⟩
      · cases he
    · -- a struct without parts
      rename_i t parts hop
      simp only [Option.some.injEq] at he
      split at he
      · rename_i hc
        obtain ⟨hps, hag, hs⟩ := hc
        simp only [Option.some.injEq, Prod.mk.injEq, true_and] at he
        subst he
        obtain rfl : parts = #[] := Array.eq_empty_of_size_eq_zero hps
        cases p with
        | ppair pa pb =>
          obtain ⟨i, z, hi, hz, hbuild⟩ := run_build0 (P := P) (E := E.toEnv) hT hs rfl (fun n e e1 => by cases e1) w
          obtain ⟨i', z', hi', hsz, _, hz', hrd⟩ := (hT t _ hs).info
          obtain rfl : i = i' := by rw [hi] at hi'; exact Option.some.inj hi'
          obtain rfl : z = z' := by rw [hz] at hz'; exact Option.some.inj hz'
          have hzv := (hT t _ hs).zero i z hi hz
          have hcells := RdC.length _ _ _ (hrd w S).cells
          have hrun : (execOp a.eval o).run P w = .ok (.value (.agg z.cells)) w := by
            unfold execOp
            simp only [hop]
            exact run_v (by simpa using hbuild)
          obtain ⟨r, hzc⟩ : ∃ r, zeroC (PSh.ppair pa pb).sh z.cells.toList = some r := zeroV_cells hzv (fun hag => by cases hag)
          have hpm : PM w S (.ppair pa pb) (valR (.agg z.cells)) (dflt (PSh.ppair pa pb).sh) (fun _ => False) := PM.zero _ _ r _ hzc (fun i v _ hv => by
            unfold valR
            show z.cells[i]? = some v
            simpa using hv)
          have hroot : RootAny P w S (fun _ => False) (.pv (.ppair pa pb) (dflt (PSh.ppair pa pb).sh) none) (.agg z.cells) :=
            .tree _ _ _ _ none (.val (.agg z.cells)) (.pv _ _ _ _ ⟨z.cells, rfl, by rw [← PSh.size_eq]; simpa using hcells⟩) ⟨(fun g hg => by cases hg), PM.congrF hpm (fun k => ⟨fun hf => hf.elim, fun hk => hk.1⟩), (fun v _ hsl => by cases hsl)⟩
          have g : Grew w S w S := ⟨Below.refl _ _, fun _ _ _ => Iff.rfl, h.r.slt⟩
          have hnr := h.newRoot hd g (fun k hk => hk.elim) rfl hroot
          exact OpDoes.value hrun ⟨by rw [hdst, put_size, hn], _, _, by rw [hdst]; exact hnr, g.keeps h.r.slt, tame g⟩
        | _ => cases hag
      · cases he
    · -- a variable that holds a datum
      rename_i t x hop
      simp only [Option.some.injEq] at he
      split at he
      · -- or a struct that a slot owns
        rename_i y p' z hro
        split at he
        · cases he
        · rename_i hc
          rw [not_or] at hc
          obtain ⟨hyd, hs⟩ := hc
          have hs : (E.ti t).sh = some p'.sh := Classical.byContradiction hs
          simp only [Option.some.injEq, Prod.mk.injEq, true_and] at he
          subst he
          unfold rootOp at hro
          split at hro
          · rename_i y'
            split at hro
            · cases hro
            · rename_i hyn
              split at hro
              · rename_i p1 z1 hfy
                split at hro
                · rename_i hag
                  simp only [Option.some.injEq, Prod.mk.injEq, Sigma.mk.injEq] at hro
                  obtain ⟨rfl, rfl, hz⟩ := hro
                  obtain rfl := eq_of_heq hz
                  have hroot0 := h.root y' (by rw [hfy]; rfl)
                  rw [hfy] at hroot0
                  cases hroot0 with
                  | tree _ _ p2 x2 h2 c2 k1 k2 =>
                    cases k1 with
                    | pv _ _ _ _ hv =>
                      have hag' : p1.agg = true := by cases p1 <;> first | rfl | cases hag
                      unfold valOk at hv
                      rw [if_pos hag'] at hv
                      obtain ⟨cs, ev, hcs⟩ := hv
                      have hyl : y' < a.tmps.size := Nat.lt_of_not_le (fun hh => hyn (by rw [← hn]; exact hh))
                      have heval : a.eval (.tmp y') = .agg cs := by rw [← tv_eval gv a y' hyl]; exact ev
                      have hrun : (execOp a.eval o).run P w = .ok (.value (.pointer (some ⟨w.heap.size, 0, none⟩))) (w.alloc (.cells cs t)) := by
                        unfold execOp
                        simp only [hop, heval]
                        refine run_v ?_
                        simp [Instr.box, newVar, newRow, Value.cells]
                      have hheap : (w.alloc (.cells cs t)).heap[w.heap.size]? = some (.cells cs t (0, 0)) := heap_alloc_new w _
                      have hbel := below_alloc w (.cells cs t)
                      have g : Grew w S (w.alloc (.cells cs t)) S := ⟨hbel, fun _ _ _ => Iff.rfl, fun b o hs => Nat.lt_of_lt_of_le (h.r.slt b o hs) hbel.size⟩
                      have hk := g.keeps h.r.slt
                      have hcore : PM w S p1 (valR (tv gv a y')) z1 (fun b => F y' b ∧ Spot.block (.val (tv gv a y')) ≠ some b) := k2.core
                      have hlt : ∀ b, F y' b → b < w.heap.size := fun b hb => h.lt hb
                      have hlt' : ∀ {t b}, F t b → b < w.heap.size := fun hb => h.lt hb
                      have hpm : PM (w.alloc (.cells cs t)) S p1 (blkR (w.alloc (.cells cs t)) w.heap.size 0) z1 (fun b => F y' b) := by
                        refine PM.congrF (PM.step hk p1 _ _ z1 _ hcore (fun i hi => ?_) (fun b hb => hbel.block b (hlt b hb.1)) (fun b o hb => Iff.rfl)) (fun b => ⟨(·.1), fun hb => ⟨hb, by simp [Spot.block]⟩⟩)
                        simp only [blkR, World.cell?, hheap, Option.isSome_none, Bool.false_eq_true, if_false, Nat.zero_add]
                        rw [ev]
                        rfl
                      have hroot : RootAny P (w.alloc (.cells cs t)) S (fun k => F y' k ∨ k = w.heap.size) (.pbox p1 z1 none) (.pointer (some ⟨w.heap.size, 0, none⟩)) := by
                        refine .tree _ _ p1 z1 none (.blk w.heap.size 0) (.pbox _ _ _ _) ⟨fun g' hg' => ?_, ?_, fun v hv => by cases hv⟩
                        · simp only [Spot.block, Option.some.injEq] at hg'
                          subst hg'
                          exact ⟨.inr rfl, fun o hs => absurd (h.r.slt _ _ hs) (Nat.lt_irrefl _), cs, t, hheap, hcs⟩
                        · refine PM.congrF hpm fun k => ⟨fun hf => ⟨.inl hf, fun e => ?_⟩, fun hk => hk.1.elim id (fun e => absurd (by rw [e]; rfl) hk.2)⟩
                          simp only [Spot.block, Option.some.injEq] at e
                          have := hlt k hf
                          omega
                      have hmv := h.moved hd (y := y') (by rw [hfy]; rfl) hyd
                      have hnr := hmv.newRootO (by rw [put_size]; exact hd) (val := .pointer (some ⟨w.heap.size, 0, none⟩)) (v := .pbox p1 z1 none) g (Fd := fun k => F y' k ∨ k = w.heap.size) (fun k hk => hk.elim (fun hh => .inr (.inl ⟨rfl, hh⟩)) (fun e => .inl (by subst e; exact ⟨Nat.le_refl _, (Array.getElem?_eq_some_iff.1 hheap).1⟩))) rfl hroot
                      rw [put_put] at hnr
                      refine OpDoes.value hrun ⟨by rw [hdst, put_size, hn], _, _, by rw [hdst]; exact hnr, hk, fun ht t' b hb => ⟨hbel.block b (hlt' hb), ?_⟩⟩
                      by_cases hty : t' = y'
                      · subst hty; exact ⟨d, .inl ⟨rfl, .inl hb⟩⟩
                      · have htd := not_root h ht hb
                        exact ⟨t', .inr ⟨htd, .inr ⟨htd, hty, hb⟩⟩⟩
                · cases hro
              · cases hro
          · cases hro
      · split at he
        · rename_i s ok s' z o1 hx
          split at he
          · rename_i hc
            obtain ⟨rfl, hs⟩ := hc
            simp only [Option.some.injEq, Prod.mk.injEq] at he
            obtain ⟨rfl, rfl⟩ := he
            have hcs := rd_cells (rdo_ok h.r hx).1
            have hcells := RdC.length _ _ _ hcs
            have hrun : (execOp a.eval o).run P w = .ok (.value (.pointer (some ⟨w.heap.size, 0, none⟩))) (w.alloc (.cells (a.eval x).cells t)) := by
              unfold execOp
              simp only [hop]
              refine run_v ?_
              simp [Instr.box, newVar, newRow]
            have hheap : (w.alloc (.cells (a.eval x).cells t)).heap[w.heap.size]? = some (.cells (a.eval x).cells t (0, 0)) := heap_alloc_new w _
            have hbel := below_alloc w (.cells (a.eval x).cells t)
            have g : Grew w S (w.alloc (.cells (a.eval x).cells t)) S := ⟨hbel, fun _ _ _ => Iff.rfl, fun b o hs => Nat.lt_of_lt_of_le (h.r.slt b o hs) hbel.size⟩
            have hpm : PM (w.alloc (.cells (a.eval x).cells t)) S (.leaf s') (blkR (w.alloc (.cells (a.eval x).cells t)) w.heap.size 0) z (fun _ => False) :=
              PM.of_cells (.leaf s') _ z _ rfl (RdC.keeps (g.keeps h.r.slt) _ _ _ hcs) (fun i v hv => by
                simp only [blkR, World.cell?, hheap, Option.isSome_none, Bool.false_eq_true, if_false, Nat.zero_add]
                simpa using hv)
            have hroot := boxRoot (P := P) hheap (by simpa [PSh.size] using hcells) (fun o hs => absurd (h.r.slt _ _ hs) (Nat.lt_irrefl _)) hpm
            have hnr := h.newRoot hd g (fun k hk => by subst hk; exact ⟨Nat.le_refl _, (Array.getElem?_eq_some_iff.1 hheap).1⟩) rfl hroot
            exact OpDoes.value hrun ⟨by rw [hdst, put_size, hn], _, _, by rw [hdst]; exact hnr, g.keeps h.r.slt, tame g⟩
          · cases he
        · cases he
    · cases he

/-! ### References to roots; calls by them -/

theorem cloV_inj : ∀ (r : List PStep) (y y' u : Value), cloV r y u → cloV r y' u → y = y'
  | [], y, y', u, h, h' => h.symm.trans h'
  | .clo f b :: r, y, y', u, ⟨v, h1, h2⟩, ⟨v', h3, h4⟩ => by
    have : v = v' := by
      rw [h2] at h4
      cases b <;> simpa using h4
    subst this
    exact cloV_inj r y y' v h1 h3
  | .fld _ :: _, _, _, _, h, _ => h.elim
  | .idx _ :: _, _, _, _, h, _ => h.elim

/-- What a reference to a root holds. -/
theorem RefAt.clo {av : AV} {v u : Value} {r : List PStep} {X : Nat → Prop} (h : RefAt w av v r u X) (ht : topRef r = true) : cloV r v u := by
  rcases h with ⟨p, x, hh, c, k1, k2⟩ | ⟨s, V, x, _, _, k2⟩
  · cases k1 with
    | pv _ _ _ _ hv =>
      exfalso
      rcases k2 with ⟨q, g, o, _, m2, _⟩ | ⟨_, _, g, e, _⟩
      · cases r with
        | nil =>
          have : locP w p (.val v) [] = some (p, .val v) := by cases p <;> rfl
          rw [this] at m2
          simp at m2
        | cons a r =>
          cases a with
          | clo f b => cases p <;> simp [locP] at m2
          | _ => cases ht
      · cases e
    | pbox _ _ _ b =>
      rcases k2 with ⟨q, g, o, _, m2, m3, _⟩ | ⟨_, _, g, e, m3, _⟩
      · cases r with
        | nil =>
          have : locP w p (.blk b 0) [] = some (p, .blk b 0) := by cases p <;> rfl
          rw [this] at m2
          simp only [Option.some.injEq, Prod.mk.injEq, Spot.blk.injEq] at m2
          obtain ⟨_, rfl, rfl⟩ := m2
          exact m3
        | cons a r =>
          cases a with
          | clo f b => cases p <;> simp [locP] at m2
          | _ => cases ht
      · cases e
        exact m3
  · exact k2
theorem RefAt.close {av : AV} {v u : Value} {r : List PStep} {X : Nat → Prop} (h : RefAt w av v r u X) (ht : topRef r = true) (f : FuncId) (b : Bool) :
    RefAt w av v (.clo f b :: r) (if b then .func (.func f) #[u] #[] else .func (.func f) #[] #[u]) X := by
  have hc := h.clo ht
  rcases h with ⟨p, x, hh, c, k1, k2⟩ | ⟨s, V, x, e, k1, k2⟩
  · refine .inl ⟨p, x, hh, c, k1, .inr ⟨ht, by simp, ?_⟩⟩
    cases k1 with
    | pv _ _ _ _ hv =>
      exfalso
      rcases k2 with ⟨q, g, o, _, m2, _⟩ | ⟨_, _, g, e, _⟩
      · cases r with
        | nil =>
          have : locP w p (.val v) [] = some (p, .val v) := by cases p <;> rfl
          rw [this] at m2
          simp at m2
        | cons a r =>
          cases a with
          | clo f b => cases p <;> simp [locP] at m2
          | _ => cases ht
      · cases e
    | pbox _ _ _ g =>
      refine ⟨g, rfl, ⟨u, hc, rfl⟩, ?_⟩
      rcases k2 with ⟨q, g', o, _, m2, m3, m4, m5⟩ | ⟨_, _, g', e, _, m5⟩
      · cases r with
        | nil =>
          have : locP w p (.blk g 0) [] = some (p, .blk g 0) := by cases p <;> rfl
          rw [this] at m2
          simp only [Option.some.injEq, Prod.mk.injEq, Spot.blk.injEq] at m2
          obtain ⟨_, rfl, rfl⟩ := m2
          exact m5
        | cons a r =>
          cases a with
          | clo f b => cases p <;> simp [locP] at m2
          | _ => cases ht
      · cases e
        exact m5
  · exact .inr ⟨s, V, x, e, ht, u, k2, rfl⟩

theorem RP.refV (h : RP P base w0 S0 S fr gv a w F) {x : Operand} {s : Nat} {r : List PStep} (hp : refV a.tmps.size fr x = some (s, r)) :
    ∃ y, x = .tmp y ∧ y < a.tmps.size ∧ topRef r = true ∧ RefAt w (fr s) (tv gv a s) r (tv gv a y) (F s) := by
  unfold Av.refV at hp
  split at hp
  · rename_i y
    split at hp
    · cases hp
    rename_i hyn
    refine ⟨y, rfl, Nat.lt_of_not_le hyn, ?_⟩
    split at hp
    · rename_i p z hh e
      simp only [Option.some.injEq, Prod.mk.injEq] at hp
      obtain ⟨rfl, rfl⟩ := hp
      refine ⟨rfl, ?_⟩
      have hpl : placeV a.tmps.size fr (.tmp y) = some (true, y, []) := by
        unfold placeV
        simp only [e]
        rw [if_neg hyn]
      obtain ⟨y', e1, _, p', z', hh', c, k1, _, k2, _⟩ := h.place hpl
      obtain rfl : y = y' := by simpa using e1
      exact .inl ⟨p', z', hh', c, k1, k2 rfl⟩
    · rename_i s' r' e
      split at hp
      · rename_i ht
        simp only [Option.some.injEq, Prod.mk.injEq] at hp
        obtain ⟨rfl, rfl⟩ := hp
        exact ⟨ht, h.adr y s' r' e⟩
      · cases hp
    · cases hp
  · cases hp

theorem makeF_ok (hn : a.tmps.size = E.nt) (h : RP P base w0 S0 S fr gv a w F) {o : Oper} {d : Nat} (hdst : o.dst = some d) (hd : d < a.tmps.size) {fr' : Fr} (he : makeF E fr o d = some (some (true, fr'))) :
    OpDoes P o a w (PPost P base w0 S0 E.nt gv w S F False fr') := by
  have fin : ∀ {x : Operand} {s : Nat} {r : List PStep} (f : FuncId) (b : Bool), Av.refV E.nt fr x = some (s, r) → s ≠ d → (execOp a.eval o).run P w = .ok (.value (if b then .func (.func f) #[a.eval x] #[] else .func (.func f) #[] #[a.eval x])) w →
      OpDoes P o a w (PPost P base w0 S0 E.nt gv w S F False (fr.putP d (.padr s (.clo f b :: r)))) := fun {x s r} f b hr hne hrun => by
    rw [← hn] at hr
    obtain ⟨y, rfl, hy, ht, hR⟩ := h.refV hr
    rw [← tv_eval gv a y hy] at hrun
    have hnr := h.putPlain hd (.padr _ _ _) rfl rfl (fun s' r' e => by cases e; exact ⟨hne, hR.close ht f b⟩) (fun s' r' e => by cases e)
    exact OpDoes.value hrun ⟨by rw [put_size, hn], S, _, by rw [hdst]; exact hnr, Keeps.refl w S, fun hf => hf.elim⟩
  unfold makeF at he
  split at he
  · rename_i f first captured hop
    split at he
    · rename_i x h1 h2
      obtain rfl : first = #[x] := Array.ext' h1
      obtain rfl : captured = #[] := Array.ext' h2
      split at he
      · rename_i s r hr
        simp only [Option.some.injEq] at he
        split at he
        · cases he
        · rename_i hne
          simp only [Option.some.injEq, Prod.mk.injEq, true_and] at he
          subst he
          exact fin f true hr hne (by unfold execOp; simp only [hop]; refine run_v ?_; simp [Instr.makeFunc, Sem.run_pure])
      · cases he
    · rename_i x h1 h2
      obtain rfl : first = #[] := Array.ext' h1
      obtain rfl : captured = #[x] := Array.ext' h2
      split at he
      · rename_i s r hr
        simp only [Option.some.injEq] at he
        split at he
        · cases he
        · rename_i hne
          simp only [Option.some.injEq, Prod.mk.injEq, true_and] at he
          subst he
          exact fin f false hr hne (by unfold execOp; simp only [hop]; refine run_v ?_; simp [Instr.makeFunc, Sem.run_pure])
      · cases he
    · cases he
  · cases he

/-- A root that a call may turn. -/
theorem rootV_ok {s : Nat} {ρ : AV} (h : rootV fr s = some ρ) : fr s = ρ ∧ ρ.isRoot = true ∧ rootOf ρ = some ([], ρ) := by
  unfold rootV at h
  split at h
  · rename_i p z e; cases h; exact ⟨e, rfl, rfl⟩
  · rename_i t V z e; cases h; exact ⟨e, rfl, rfl⟩
  · cases h
theorem wrapR_ok {s : Nat} {r : List PStep} {ρ av : AV} (h : rootV fr s = some ρ) (hw : wrapR r ρ = some av) : rootOf av = some (r, ρ) := by
  unfold rootV at h
  unfold wrapR at hw
  split at hw
  · simp only [Option.some.injEq] at hw
    subst hw
    split at h <;> first | (cases h; rfl) | cases h
  · simp only [Option.some.injEq] at hw
    subst hw
    split at h <;> first | (cases h; rfl) | cases h
  · cases hw

/-- What is known of an argument: what it reads as, or which root it leads to. -/
def ArgIs (w : World) (S : Stable) (fr : Fr) (gv : Nat → Value) (a : Act) (v : Value) (av : AV) : Option Nat → Prop
  | none => Rd w S v av ∧ rootOf av = none
  | some s => ∃ r ρ, rootV fr s = some ρ ∧ rootOf av = some (r, ρ) ∧ cloV r (tv gv a s) v

theorem argM_ok (hn : a.tmps.size = E.nt) (h : RP P base w0 S0 S fr gv a w F) {t : TypeId} {x : Operand} {av : AV} {s : Option Nat} (he : argM E fr t x = some (true, av, s)) : ArgIs w S fr gv a (a.eval x) av s := by
  unfold argM at he
  split at he
  · rename_i s' r hr
    split at he
    · rename_i ρ hρ
      split at he
      · rename_i av' hw
        simp only [Option.some.injEq, Prod.mk.injEq, true_and] at he
        obtain ⟨rfl, rfl⟩ := he
        rw [← hn] at hr
        obtain ⟨y, rfl, hy, ht, hR⟩ := h.refV hr
        refine ⟨r, ρ, hρ, wrapR_ok hρ hw, ?_⟩
        rw [← tv_eval gv a y hy]
        exact hR.clo ht
      · cases he
    · cases he
  · cases hx : rdo E.toEnv fr true t x with
    | mk ok v =>
      rw [hx] at he
      simp only at he
      split at he
      · cases he
      · rename_i hno
        simp only [Option.some.injEq, Prod.mk.injEq] at he
        obtain ⟨rfl, rfl, rfl⟩ := he
        exact ⟨(rdo_ok h.r hx).1.strip, by simpa using hno⟩

theorem argsM_ok (hn : a.tmps.size = E.nt) (h : RP P base w0 S0 S fr gv a w F) : ∀ (xs : List Operand) (ts : List TypeId) (avs : List AV) (ss : List (Option Nat)), xs.length = ts.length → argsM E fr xs ts = some (true, avs, ss) →
    xs.length = avs.length ∧ avs.length = ss.length ∧ ∀ (i : Nat) (v : Value) (av : AV) (s : Option Nat), (xs.map a.eval)[i]? = some v → avs[i]? = some av → ss[i]? = some s → ArgIs w S fr gv a v av s
  | [], [], avs, ss, _, he => by
    simp only [argsM, Option.some.injEq, Prod.mk.injEq, true_and] at he
    obtain ⟨rfl, rfl⟩ := he
    exact ⟨rfl, rfl, fun i v av s hv => by simp at hv⟩
  | x :: xs, t :: ts, avs, ss, hl, he => by
    simp only [argsM] at he
    split at he
    · rename_i ok v s oks vs ss' h1 h2
      simp only [Option.some.injEq, Prod.mk.injEq, Bool.and_eq_true] at he
      obtain ⟨⟨rfl, rfl⟩, rfl, rfl⟩ := he
      obtain ⟨k1, k2, k3⟩ := argsM_ok hn h xs ts vs ss' (by simpa using hl) h2
      refine ⟨by simp [k1], by simp [k2], fun i v' av s' hv hav hs => ?_⟩
      cases i with
      | zero =>
        simp only [List.map_cons, List.getElem?_cons_zero, Option.some.injEq] at hv hav hs
        subst hv hav hs
        exact argM_ok hn h h1
      | succ i =>
        simp only [List.map_cons, List.getElem?_cons_succ] at hv hav hs
        exact k3 i v' av s' hv hav hs
    · cases he
  | [], _ :: _, _, _, hl, _ => by simp at hl
  | _ :: _, [], _, _, hl, _ => by simp at hl

theorem oneRoot_ok : ∀ (ss : List (Option Nat)) (k i s : Nat), oneRoot k ss = some (i, s) → ∃ j, i = k + j ∧ ss[j]? = some (some s) ∧ ∀ j' x, j' ≠ j → ss[j']? = some x → x = none
  | [], k, i, s, h => by cases h
  | none :: l, k, i, s, h => by
    obtain ⟨j, e, h1, h2⟩ := oneRoot_ok l (k + 1) i s h
    refine ⟨j + 1, by omega, by simpa using h1, fun j' x hj hx => ?_⟩
    cases j' with
    | zero => simpa using hx.symm
    | succ j' => exact h2 j' x (by omega) (by simpa using hx)
  | some s' :: l, k, i, s, h => by
    simp only [oneRoot] at h
    split at h
    · rename_i hall
      simp only [Option.some.injEq, Prod.mk.injEq] at h
      obtain ⟨rfl, rfl⟩ := h
      refine ⟨0, rfl, rfl, fun j' x hj hx => ?_⟩
      cases j' with
      | zero => exact absurd rfl hj
      | succ j' =>
        have hm := List.mem_of_getElem? (show l[j']? = some x by simpa using hx)
        have := List.all_eq_true.1 hall x hm
        simpa using this
    · cases h

theorem simple_plain {v : AV} (h : v.simple = true) : v.plain = true ∧ v.isPriv = false := by
  cases v with
  | dat s x o => cases o <;> first | exact ⟨rfl, rfl⟩ | cases h
  | _ => first | exact ⟨rfl, rfl⟩ | cases h

/-- The contract at a call: the root that just one argument leads to turns. -/
theorem RP.callsM (hn : a.tmps.size = E.nt) (h : RP P base w0 S0 S fr gv a w F) {o : Oper} {f : FuncId} {sp : List AV → Bool × AV} (hS : SoundMAt P f sp w S) {vals : List Value} {avs : List AV} {ss : List (Option Nat)}
    (hrun : (execOp a.eval o).run P w = (callFunc f vals.toArray).run P w) (hl1 : vals.length = avs.length) (hl2 : avs.length = ss.length) (hargs : ∀ (i : Nat) (v : Value) (av : AV) (s : Option Nat), vals[i]? = some v → avs[i]? = some av → ss[i]? = some s → ArgIs w S fr gv a v av s)
    {r : AV} {gs : List AV} (hsp : sp avs = (true, .tup (r :: gs))) {i s : Nat} (hone : oneRoot 0 ss = some (i, s)) (hsame : sameRoot (fr s) (gs.getD i .bad) = true) {fr' : Fr}
    (hfr : (o.dst = none ∧ fr' = fr.turnR s (gs.getD i .bad)) ∨ ∃ d, o.dst = some d ∧ d < a.tmps.size ∧ s ≠ d ∧ r.simple = true ∧ fr' = (fr.turnR s (gs.getD i .bad)).putP d r) :
    OpDoes P o a w (PPost P base w0 S0 E.nt gv w S F False fr') := by
  obtain ⟨j, e, hj, hothers⟩ := oneRoot_ok ss 0 i s hone
  obtain rfl : i = j := by omega
  obtain ⟨_, hgr, hsr⟩ := sameRoot_self hsame
  have hroot := h.root s hsr
  have hlt : i < ss.length := (List.getElem?_eq_some_iff.1 hj).1
  obtain ⟨rr, ρ, q1, q2, q3⟩ := hargs i vals[i] avs[i] (some s) (List.getElem?_eq_getElem (by omega)) (List.getElem?_eq_getElem (by omega)) hj
  obtain ⟨q4, _, _⟩ := rootV_ok q1
  have key : ∀ v w', (∃ (S' : Stable) (F' : Nat → Nat → Prop), TurnedBut (fun b => ∃ k, k = i ∧ F s b) w S w' S' ∧ Rd w' S' v r ∧
      (∀ k v av, vals[k]? = some v → avs[k]? = some av → OutM P w' S' v av (gs.getD k .bad) (F' k)) ∧ (∀ k b, F' k b → (∃ j, j = i ∧ F s b) ∨ w.heap.size ≤ b) ∧ ∀ k j b, k ≠ j → F' k b → ¬ F' j b) →
      PPost P base w0 S0 E.nt gv w S F False fr' (a.put o.dst v) w' := fun v w' ⟨S', F', k1, k2, k3, k4, k5⟩ => by
    have hout := k3 i vals[i] avs[i] (List.getElem?_eq_getElem (by omega)) (List.getElem?_eq_getElem (by omega))
    unfold OutM at hout
    rw [q2] at hout
    obtain ⟨y, m1, m2⟩ := hout
    obtain rfl := cloV_inj _ _ _ _ m1 q3
    have hX : (fun b => ∃ k, k = i ∧ F s b) = F s := funext fun b => propext ⟨fun ⟨_, _, hh⟩ => hh, fun hh => ⟨i, rfl, hh⟩⟩
    rw [hX] at k1
    have hR := h.calledM k1 hsame m2 (fun b hb => (k4 i b hb).imp (fun ⟨_, _, hh⟩ => hh) id)
    rcases hfr with ⟨hd, rfl⟩ | ⟨d, hd, hdl, hsd, hsi, rfl⟩
    · rw [hd]
      exact ⟨hn, S', _, hR, k1.keeps, fun hf => hf.elim⟩
    · rw [hd]
      obtain ⟨p1, p2⟩ := simple_plain hsi
      exact ⟨by rw [put_size, hn], S', _, hR.putDat hdl k2 p1 p2, k1.keeps, fun hf => hf.elim⟩
  have hran := hS vals avs r gs (fun k b => k = i ∧ F s b) hsp h.r.slt hl1 (fun k v av hv hav => ?_) (fun k b hk hh => by omega) (fun k j b hne h1 h2 => hne (h1.1.trans h2.1.symm))
  · rcases hran with ⟨h1, h2⟩ | ⟨v, w', h1, h2⟩
    · exact OpDoes.enter (hrun.trans h1) (h2.mono fun e w' ⟨v, he, hp⟩ => ⟨v, he, key v w' hp⟩)
    · exact OpDoes.value (hrun.trans h1) (key v w' h2)
  · have hk : k < ss.length := by have := (List.getElem?_eq_some_iff.1 hav).1; omega
    have ha := hargs k v av ss[k] hv hav (List.getElem?_eq_getElem hk)
    unfold ArgM
    by_cases e : k = i
    · subst e
      obtain ⟨hlt', e1⟩ := List.getElem?_eq_some_iff.1 hj
      rw [e1] at ha
      obtain ⟨r1, ρ1, m1, m2, m3⟩ := ha
      obtain ⟨m4, _, _⟩ := rootV_ok m1
      rw [m2]
      refine ⟨tv gv a s, m3, ?_⟩
      rw [← m4]
      have hX : (fun b => k = k ∧ F s b) = F s := funext fun b => propext ⟨(·.2), fun hh => ⟨rfl, hh⟩⟩
      rw [hX]
      exact hroot
    · have := hothers k ss[k] e (List.getElem?_eq_getElem hk)
      rw [this] at ha
      obtain ⟨m1, m2⟩ := ha
      rw [m2]
      exact ⟨m1, fun b hb => e hb.1⟩

theorem callM_ok (hn : a.tmps.size = E.nt) (h : RP P base w0 S0 S fr gv a w F) (hF : EnvOk P E w S) {o : Oper} {dd : Option Nat} (hdst : o.dst = dd) (hd : ∀ d, dd = some d → d < a.tmps.size) {fr' : Fr} (he : callM E fr o dd = some (some (true, fr'))) :
    OpDoes P o a w (PPost P base w0 S0 E.nt gv w S F False fr') := by
  subst hdst
  unfold callM at he
  split at he
  · rename_i c hop
    obtain ⟨callee, args, argTypes⟩ := c
    split at he
    · cases he
    · rename_i f ex hcal
      split at he
      · cases he
      · rename_i sp hsp
        simp only [Option.some.injEq] at he
        split at he
        · cases he
        · rename_i oks avs ss hall
          split at he
          · rename_i pre r gs i s hspec hone
            split at he
            · rename_i hc
              obtain ⟨hsame, hsz⟩ := hc
              have hfin : oks = true ∧ pre = true ∧ ((o.dst = none ∧ fr' = fr.turnR s (gs.getD i .bad)) ∨ ∃ d, o.dst = some d ∧ d < a.tmps.size ∧ s ≠ d ∧ r.simple = true ∧ fr' = (fr.turnR s (gs.getD i .bad)).putP d r) := by
                split at he
                · rename_i hd0
                  simp only [Option.some.injEq, Prod.mk.injEq, Bool.and_eq_true] at he
                  obtain ⟨⟨h1, h2⟩, h3⟩ := he
                  exact ⟨h1, h2, .inl ⟨hd0, h3.symm⟩⟩
                · rename_i d hd0
                  split at he
                  · cases he
                  · rename_i hno
                    rw [not_or] at hno
                    simp only [Option.some.injEq, Prod.mk.injEq, Bool.and_eq_true] at he
                    obtain ⟨⟨h1, h2⟩, h3⟩ := he
                    exact ⟨h1, h2, .inr ⟨d, hd0, hd d hd0, hno.1, by simpa using hno.2, h3.symm⟩⟩
              obtain ⟨rfl, rfl, hfr⟩ := hfin
              -- the arguments, with what a closure brings
              unfold allM at hall
              split at hall
              · rename_i oks avs0 ss0 hargs
                have hok : oks = true := by
                  split at hall
                  · simp only [Option.some.injEq, Prod.mk.injEq] at hall; exact hall.1
                  · split at hall
                    · split at hall
                      · split at hall
                        · split at hall <;> (simp only [Option.some.injEq, Prod.mk.injEq] at hall; exact hall.1)
                        · cases hall
                      · cases hall
                    · cases hall
                subst hok
                obtain ⟨l1, l2, l3⟩ := argsM_ok hn h _ _ _ _ (by simpa using hsz) hargs
                cases ex with
                | none =>
                  simp only [Option.some.injEq, Prod.mk.injEq, true_and] at hall
                  obtain ⟨rfl, rfl⟩ := hall
                  have hcf : callee = .value (.func f) := by
                    unfold calleeM at hcal
                    split at hcal
                    · rename_i f' hce
                      simp only [Option.some.injEq, Prod.mk.injEq, and_true] at hcal
                      rw [← hcal]
                      exact hce
                    · split at hcal <;> simp at hcal
                    · cases hcal
                  subst hcf
                  refine h.callsM hn (hF.2.2 f sp hsp) (vals := args.toList.map a.eval) ?_ (by simpa using l1) l2 l3 hspec hone hsame hfr
                  have e1 : args.map a.eval = (args.toList.map a.eval).toArray := by apply Array.ext'; simp
                  simp only [execOp, hop, resolve, Sem.run_bind, Deferred.ofValue, Act.eval, Sem.run_pure, Result.andThen_ok, invoke, Array.append_empty, Array.empty_append, e1]
                | some ex =>
                  obtain ⟨b, x, rc⟩ := ex
                  simp only at hall
                  -- the closure
                  unfold calleeM at hcal
                  split at hcal
                  · simp at hcal
                  · rename_i y hce
                    simp only at hce
                    subst hce
                    split at hcal
                    · rename_i s1 f1 b1 r1 hr
                      simp only [Option.some.injEq, Prod.mk.injEq] at hcal
                      obtain ⟨rfl, rfl, rfl, rfl⟩ := hcal
                      rw [hr] at hall
                      simp only at hall
                      split at hall
                      · rename_i ρ hρ
                        split at hall
                        · rename_i av hw
                          rw [← hn] at hr
                          obtain ⟨y', ey, hy, ht, hR⟩ := h.refV hr
                          obtain rfl : y = y' := by simpa using ey
                          obtain ⟨v, hv1, hv2⟩ := hR.clo ht
                          rw [tv_eval gv a y hy] at hv2
                          have hex : ArgIs w S fr gv a v av (some s1) := ⟨r1, ρ, hρ, wrapR_ok hρ hw, hv1⟩
                          have e1 : args.map a.eval = (args.toList.map a.eval).toArray := by apply Array.ext'; simp
                          cases b1 with
                          | true =>
                            simp only [if_true, Option.some.injEq, Prod.mk.injEq, true_and] at hall hv2
                            obtain ⟨rfl, rfl⟩ := hall
                            refine h.callsM hn (hF.2.2 f1 sp hsp) (vals := v :: args.toList.map a.eval) ?_ (by simpa using l1) (by simpa using l2) (fun k v' av' s' m1 m2 m3 => ?_) hspec hone hsame hfr
                            · simp only [execOp, hop, resolve, Sem.run_bind, hv2, Deferred.ofValue, Sem.run_pure, Result.andThen_ok, invoke, Array.append_empty, e1]
                              congr 2
                              apply Array.ext'
                              simp
                            · cases k with
                              | zero =>
                                simp only [List.getElem?_cons_zero, Option.some.injEq] at m1 m2 m3
                                subst m1 m2 m3
                                exact hex
                              | succ k =>
                                simp only [List.getElem?_cons_succ] at m1 m2 m3
                                exact l3 k v' av' s' m1 m2 m3
                          | false =>
                            simp only [Bool.false_eq_true, if_false, Option.some.injEq, Prod.mk.injEq, true_and] at hall hv2
                            obtain ⟨rfl, rfl⟩ := hall
                            refine h.callsM hn (hF.2.2 f1 sp hsp) (vals := args.toList.map a.eval ++ [v]) ?_ (by simpa using l1) (by simpa using l2) (fun k v' av' s' m1 m2 m3 => ?_) hspec hone hsame hfr
                            · simp only [execOp, hop, resolve, Sem.run_bind, hv2, Deferred.ofValue, Sem.run_pure, Result.andThen_ok, invoke, Array.empty_append, e1]
                              congr 2
                              apply Array.ext'
                              simp
                            · have hla : (args.toList.map a.eval).length = avs0.length := by simpa using l1
                              rcases Nat.lt_trichotomy k avs0.length with hk | hk | hk
                              · rw [List.getElem?_append_left (by omega)] at m1 m2 m3
                                exact l3 k v' av' s' m1 m2 m3
                              · subst hk
                                rw [List.getElem?_append_right (by omega)] at m1 m2 m3
                                rw [hla, Nat.sub_self] at m1
                                rw [Nat.sub_self] at m2
                                rw [l2, Nat.sub_self] at m3
                                simp only [List.getElem?_cons_zero, Option.some.injEq] at m1 m2 m3
                                subst m1 m2 m3
                                exact hex
                              · have := (List.getElem?_eq_some_iff.1 m2).1
                                simp at this
                                omega
                        · cases hall
                      · cases hall
                    · cases hcal
                  · cases hcal
              · cases hall
            · cases he
          · cases he
  · cases he
end
end Go.Av
end

section
/-
  One operation: the machine does what the frame says.
-/
namespace Go.Av
open Go.RowKit Go.Lib

section
variable {base : Nat → Prop} {w0 w : World} {S0 S : Stable} {fr : Fr} {gv : Nat → Value} {a : Act} {F : Nat → Nat → Prop} {P : Program} {E : EnvP}

theorem wp_tmps {o : Oper} {K : Act → World → Prop} {Q : Exit → Act → World → Prop} (h : o.wp P a w K Q) : o.wp P a w (fun a' w' => K a' w' ∧ ∃ v, a'.tmps = (a.put o.dst v).tmps) Q := by
  unfold Oper.wp at *
  generalize (execOp a.eval o).run P w = r at *
  cases r with
  | ok n w' =>
    cases n <;> simp only [Oper.upon] at h ⊢
    case value v => exact ⟨h, v, rfl⟩
    case skip => exact ⟨h, undef, rfl⟩
    case defer d => exact ⟨h, undef, by cases o.dst <;> rfl⟩
    case enter f args =>
      refine Calls.mono h fun e w'' he => ?_
      cases e with
      | returned v => exact ⟨he, v, rfl⟩
      | panicked c => exact he
      | outgrown => exact he
    case row row args => exact Rows.mono h fun v w'' he => ⟨he, v, rfl⟩
  | halt x w' =>
    cases x <;> simp only [Oper.upon] at h ⊢
    case panic u => exact h

theorem OpDoes.tmps {o : Oper} {Post : Act → World → Prop} (h : OpDoes P o a w Post) : OpDoes P o a w (fun a' w' => Post a' w' ∧ ∃ v, a'.tmps = (a.put o.dst v).tmps) := fun K Q hK => by
  have h1 := wp_tmps (h Post Q (fun _ _ hh => hh))
  exact Oper.wp_mono (fun a' w' hh => hK a' w' hh) h1

theorem spent_priv (v : AV) (d : Nat) : ((v.spent d).isPriv = true → v.spent d = v) ∧ (v.isPriv = true → v.spent d = v) := by
  cases v with
  | dat s x o => exact ⟨(fun h => by cases h), fun h => by cases h⟩
  | _ => exact ⟨fun _ => rfl, fun _ => rfl⟩
theorem drop_priv (v : AV) (d : Nat) : ((v.drop d).isPriv = true → v.drop d = v) ∧ (v.isPriv = true → v.drop d = v) := by
  cases v with
  | dat s x o => exact ⟨(fun h => by cases h), fun h => by cases h⟩
  | badr s p =>
    refine ⟨fun h => ?_, fun h => by cases h⟩
    simp only [AV.drop] at h
    split at h <;> cases h
  | _ => exact ⟨fun _ => rfl, fun _ => rfl⟩

/-- Whether a frame keeps what is private, but for a slot. -/
def KeepsP (fr fr' : Fr) (d : Nat) : Prop := ∀ t, t ≠ d → (fr' t).isPriv = true ∨ (fr t).isPriv = true → fr' t = fr t

theorem keepsP_put (fr : Fr) (d : Nat) (v : AV) : KeepsP fr (fr.put d v) d := fun t ht h => by
  unfold Fr.put at *
  rw [if_neg ht] at *
  exact h.elim (drop_priv _ _).1 (drop_priv _ _).2
theorem keepsP_spend (fr : Fr) (l d : Nat) (v : AV) : KeepsP fr ((fr.spend l).put d v) d := fun t ht h => by
  have h1 := keepsP_put (fr.spend l) d v t ht
  have h2 := spent_priv (fr t) l
  rcases h with h | h
  · have h3 := h1 (.inl h)
    rw [h3] at h ⊢
    exact h2.1 h
  · have h4 : (fr.spend l) t = fr t := h2.2 h
    have h3 := h1 (.inr (by rw [h4]; exact h))
    rw [h3, h4]
theorem keepsP_spendO (fr : Fr) (l : Option Nat) (d : Nat) (v : AV) : KeepsP fr ((spendO fr l).put d v) d := by
  cases l with
  | none => exact keepsP_put fr d v
  | some l => exact keepsP_spend fr l d v

theorem special_keepsP {E : Env} {fr fr' : Fr} {o : Oper} {d : Nat} {ok : Bool} (he : special E fr o d = some (ok, fr')) : KeepsP fr fr' d := by
  unfold special at he
  split at he
  · split at he
    · split at he
      · simp only [Option.some.injEq, Prod.mk.injEq] at he; rw [← he.2]; exact keepsP_put _ _ _
      · cases he
    · rename_i y _
      split at he
      · rename_i s z hf
        split at he
        · cases he
        · simp only [Option.some.injEq, Prod.mk.injEq] at he
          rw [← he.2]
          intro t ht h
          have h1 := keepsP_put (fr.put y .bad) d (.box s z) t ht
          by_cases hty : t = y
          · subst hty
            have e1 : (fr.put t .bad) t = .bad := by simp [Fr.put]
            rcases h with h | h
            · have := h1 (.inl h)
              rw [this, e1] at h
              cases h
            · rw [hf] at h; cases h
          · have h2 := keepsP_put fr y .bad t hty
            rcases h with h | h
            · have h3 := h1 (.inl h)
              rw [h3] at h ⊢
              exact h2 (.inl h)
            · have h3 := h2 (.inr h)
              rw [h1 (.inr (by rw [h3]; exact h)), h3]
      · simp only [Option.some.injEq, Prod.mk.injEq] at he; rw [← he.2]; exact keepsP_spend _ _ _ _
      · split at he
        · split at he
          · simp only [Option.some.injEq, Prod.mk.injEq] at he; rw [← he.2]; exact keepsP_put _ _ _
          · cases he
    · split at he
      · split at he
        · simp only [Option.some.injEq, Prod.mk.injEq] at he; rw [← he.2]; exact keepsP_put _ _ _
        · cases he
  · split at he
    · split at he
      · split at he
        · split at he
          · simp only [Option.some.injEq, Prod.mk.injEq] at he; rw [← he.2]; exact keepsP_spendO _ _ _ _
          · cases he
        · cases he
      · cases he
    · split at he
      · split at he
        · split at he
          · split at he
            · split at he
              · simp only [Option.some.injEq, Prod.mk.injEq] at he; rw [← he.2]; exact keepsP_spend _ _ _ _
              · cases he
            · cases he
          · cases he
        · cases he
      · cases he
    · cases he
  · split at he
    · simp only [Option.some.injEq, Prod.mk.injEq] at he; rw [← he.2]; exact keepsP_put _ _ _
    · cases he
  · split at he
    · split at he
      · simp only [Option.some.injEq, Prod.mk.injEq] at he; rw [← he.2]; exact keepsP_put _ _ _
      · cases he
    · cases he
  · split at he
    · split at he
      · simp only [Option.some.injEq, Prod.mk.injEq] at he; rw [← he.2]; exact keepsP_put _ _ _
      · cases he
    · split at he
      · simp only [Option.some.injEq, Prod.mk.injEq] at he; rw [← he.2]; exact keepsP_spend _ _ _ _
      · cases he
    · cases he
  · cases he

theorem stepU_keepsP {E : Env} {fr fr' : Fr} {o : Oper} {d : Nat} {ok : Bool} (he : stepU E fr o d = some (ok, fr')) : KeepsP fr fr' d := by
  unfold stepU at he
  split at he
  · split at he
    · simp only [Option.some.injEq, Prod.mk.injEq] at he; rw [← he.2]; exact keepsP_put _ _ _
    · cases he
  · split at he
    · simp only [Option.some.injEq, Prod.mk.injEq] at he; rw [← he.2]; exact keepsP_put _ _ _
    · exact special_keepsP he

/-- What an operation that touches no tree leaves. -/
theorem RP.otherD (h : RP P base w0 S0 S fr gv a w F) {d : Nat} (hd : d < a.tmps.size) {S' : Stable} {fr' : Fr} {a' : Act} {w' : World} (hr : R (fun k => base k ∨ ∃ t, F t k) w S S' fr' a' w') {val : Value} (ha : a'.tmps = (a.put (some d) val).tmps)
    (hk : KeepsP fr fr' d) (hp : (fr' d).isPriv = false) : RP P base w0 S0 S' (fr'.sweep d) gv a' w' (fun t b => t ≠ d ∧ F t b) := by
  have htv : ∀ t, t ≠ d → tv gv a' t = tv gv a t := fun t ht => by
    have : tv gv a' t = tv gv (a.put (some d) val) t := by unfold tv; rw [ha]
    rw [this, tv_put gv a d val t hd, if_neg ht]
  have hb : ∀ t b, F t b → w'.heap[b]? = w.heap[b]? := fun t b hF => hr.below.block b (.inr ⟨t, hF⟩)
  have hsd : ∀ t, (fr'.sweep d t).isRoot = (fr' t).isRoot ∧ ((fr' t).isRoot = true → fr'.sweep d t = fr' t) := sweep_root fr' d
  have hdr : (fr' d).isRoot = false := by generalize fr' d = av at hp; cases av <;> first | rfl | cases hp
  have hrr : ∀ v : AV, v.isRoot = true → v.isPriv = true := fun v hv => by unfold AV.isPriv; rw [hv]; rfl
  refine h.upd (fun t => t = d) ((hr.repriv (sweep_or fr' d)).rebase (fun k hk => hk.imp id (fun ⟨t, ht⟩ => ⟨t, ht.2⟩))) ⟨hr.below.os, hr.below.tape, hr.below.output, hr.below.size, fun k hk => hr.below.block k (.inl hk)⟩ (fun b o hB => hr.old b o (.inl hB)) hr.kp
    (fun t ht b => ⟨(·.2), fun hh => ⟨ht, hh⟩⟩) (fun t b _ hF => hb t b hF) (fun t b o _ hF => hr.old b o (.inr ⟨t, hF⟩))
    (fun t ht => ?_) (fun t b ht hh => absurd ht hh.1) (fun t t' b ht _ hh => absurd ht hh.1) (fun t ht _ b hh => absurd ht hh.1) (fun t ht hh => ?_) (fun t s r ht => ?_) (fun t s r ht => ?_)
  · obtain ⟨e1, e2⟩ := hsd t
    constructor
    · rw [e1]
      cases h1 : (fr' t).isRoot with
      | true => rw [hk t ht (.inl (hrr _ h1))] at h1; exact h1.symm
      | false =>
        cases h2 : (fr t).isRoot with
        | true => rw [hk t ht (.inr (hrr _ h2)), h2] at h1; cases h1
        | false => rfl
    · intro hh
      have e3 := hk t ht (.inr (hrr _ hh))
      exact ⟨by rw [e2 (by rw [e3]; exact hh), e3], htv t ht⟩
  · subst ht
    rw [(hsd t).1, hdr] at hh
    cases hh
  · obtain ⟨e1, e2⟩ := sweep_adr ht
    have htd : t ≠ d := fun e => by rw [e] at e1; rw [e1] at hp; cases hp
    exact .inl ⟨e2, by rw [← hk t htd (.inl (by rw [e1]; rfl))]; exact e1, htv t htd⟩
  · obtain ⟨e1, e2⟩ := sweep_val ht
    have htd : t ≠ d := fun e => by rw [e] at e1; rw [e1] at hp; cases hp
    exact .inl ⟨e2, by rw [← hk t htd (.inl (by rw [e1]; rfl))]; exact e1, htv t htd⟩

theorem PPost.of {n : Nat} {tame : Prop} {fr' : Fr} {a' : Act} {w' : World} {S1 : Stable} {F1 : Nat → Nat → Prop} (hk : Keeps w S w S1) (hp : PPost P base w0 S0 n gv w S1 F1 tame fr' a' w') : PPost P base w0 S0 n gv w S F False fr' a' w' := by
  obtain ⟨h1, S', F', h2, h3, _⟩ := hp
  exact ⟨h1, S', F', h2, hk.trans h3, fun hf => hf.elim⟩

theorem RP.freezes (hn : a.tmps.size = E.nt) : ∀ (l : List Nat) (fr : Fr) (S : Stable) (F : Nat → Nat → Prop) (fr' : Fr), RP P base w0 S0 S fr gv a w F → freezeL E.nt l fr = some fr' → ∃ S' F', RP P base w0 S0 S' fr' gv a w F' ∧ Keeps w S w S' ∧ (l = [] → S' = S ∧ F' = F ∧ fr' = fr)
  | [], fr, S, F, fr', h, he => by
    simp only [freezeL, Option.some.injEq] at he
    subst he
    exact ⟨S, F, h, Keeps.refl _ _, fun _ => ⟨rfl, rfl, rfl⟩⟩
  | s :: l, fr, S, F, fr', h, he => by
    simp only [freezeL] at he
    split at he
    · obtain ⟨S', F', h1, h2, _⟩ := RP.freezes hn l fr S F fr' h he
      exact ⟨S', F', h1, h2, fun e => by cases e⟩
    · split at he
      · rename_i fr1 hf
        obtain ⟨S1, h1, h2⟩ := h.frozen hn hf
        obtain ⟨S', F', h3, h4, _⟩ := RP.freezes hn l fr1 S1 _ fr' h1 he
        exact ⟨S', F', h3, h2.trans h4, fun e => by cases e⟩
      · cases he

theorem PPost.mono {n : Nat} {tame tame' : Prop} {fr' : Fr} {a' : Act} {w' : World} (h : tame' → tame) (hp : PPost P base w0 S0 n gv w S F tame fr' a' w') : PPost P base w0 S0 n gv w S F tame' fr' a' w' := by
  obtain ⟨h1, S', F', h2, h3, h4⟩ := hp
  exact ⟨h1, S', F', h2, h3, fun ht => h4 (h ht)⟩

theorem and3' {x y z : Bool} (h : (x && y && z) = true) : x = true ∧ y = true ∧ z = true := by cases x <;> cases y <;> cases z <;> simp_all

theorem privPure_ok (hn : a.tmps.size = E.nt) (h : RP P base w0 S0 S fr gv a w F) (hT : TyOk P E.toEnv) {o : Oper} {d : Nat} (hd : d < a.tmps.size) {fr' : Fr} (he : privPure E fr o d = some (some (true, fr'))) :
    PYields P base w0 S0 gv a w S F o d ((fr d).isRoot = false) (fun _ => True) fr' := by
  unfold privPure at he
  rw [← hn] at he
  split at he
  · -- move
    rename_i x hop
    split at he
    · rename_i ad s r hp
      simp only [Option.some.injEq] at he
      split at he
      · cases he
      · rename_i hne
        simp only [Option.some.injEq, Prod.mk.injEq, true_and] at he
        subst he
        exact h.copyRef hd hp hne (fun y hy hyl w' => by subst hy; unfold execOp; simp only [hop]; rw [tv_eval gv a y hyl]; rfl)
    · cases he
  · -- assign
    rename_i x hop
    split at he
    · cases he
    split at he
    · rename_i ad s r hp
      simp only [Option.some.injEq] at he
      split at he
      · cases he
      · rename_i hne
        split at he
        · rename_i hw
          simp only [Option.some.injEq, Prod.mk.injEq, true_and] at he
          subst he
          obtain ⟨y, rfl, hy, hr, hv, _⟩ := h.topVal hp hw
          exact h.movesRoot hd hr hne (fun w' => by unfold execOp; simp only [hop]; rw [← hv, tv_eval gv a y hy]; rfl)
        · simp only [Option.some.injEq, Prod.mk.injEq, true_and] at he
          subst he
          exact h.copyRef hd hp hne (fun y hy hyl w' => by subst hy; unfold execOp; simp only [hop]; rw [tv_eval gv a y hyl]; rfl)
    · cases he
  · -- a length
    rename_i c hop
    obtain ⟨callee, args, argTypes⟩ := c
    split at he
    · rename_i x t hc hargs htypes
      simp only at hc hargs htypes
      subst hc
      obtain rfl : args = #[x] := Array.ext' hargs
      obtain rfl : argTypes = #[t] := Array.ext' htypes
      split at he
      · rename_i s r hp
        simp only [Option.some.injEq] at he
        split at he
        · rename_i p y hh ht
          split at he
          · rename_i q z hg
            split at he
            · rename_i n hl
              split at he
              · rename_i hty
                simp only [Option.some.injEq, Prod.mk.injEq, true_and] at he
                subst he
                exact h.rLen hd hop hp ht hg hl hT hty
              · cases he
            · cases he
          · cases he
        · cases he
      · simp at he
      · cases he
    · cases he
  · -- an index
    rename_i t x i hop
    split at he
    · rename_i s r hp
      simp only [Option.some.injEq] at he
      split at he
      · cases he
      · rename_i hne
        split at he
        · rename_i p y hh ht
          split at he
          · rename_i te e z n hg hn'
            split at he
            · rename_i hty
              simp only [Option.some.injEq, Prod.mk.injEq, Bool.and_eq_true, decide_eq_true_eq] at he
              obtain ⟨⟨⟨hi, h0⟩, hlt⟩, rfl⟩ := he
              exact h.rIdx hT hd hop hp hne ht hg hty (vi := (rdo E.toEnv fr true 0 i).2) (Prod.ext hi rfl) hn' h0 hlt
            · cases he
          · cases he
        · cases he
    · simp at he
    · cases he
  · -- a field
    rename_i t x f hop
    split at he
    · rename_i s r hp
      simp only [Option.some.injEq] at he
      split at he
      · cases he
      · rename_i hne
        split at he
        · rename_i p y hh ht
          split at he
          · rename_i q y0 hg
            split at he
            · rename_i u hf
              split at he
              · rename_i hty
                simp only [Option.some.injEq, Prod.mk.injEq, true_and] at he
                subst he
                exact h.rFld hT hd hop hp hne ht hg hty.1 hf hty.2
              · cases he
            · cases he
          · cases he
        · cases he
    · simp at he
    · cases he
  · -- a check for nil
    rename_i x hop
    split at he
    · rename_i s r hp
      simp only [Option.some.injEq] at he
      split at he
      · cases he
      · rename_i hne
        split at he
        · rename_i p y hh ht
          split at he
          · rename_i q hg
            simp only [Option.some.injEq, Prod.mk.injEq, true_and] at he
            subst he
            obtain ⟨u, e1, hu, c, _, _, hadr, _⟩ := h.placeT hp ht
            obtain ⟨_, g, o', _, _, hptr, _, _⟩ := (hadr rfl).zero (by rw [hg]; simp)
            refine h.copyRef hd hp hne (fun y' hy hyl w' => ?_)
            have hyu : y' = u := by rw [e1] at hy; cases hy; rfl
            subst hyu
            subst hy
            rw [hptr]
            have hev : a.eval (.tmp y') = .pointer (some ⟨g, o', none⟩) := by rw [← tv_eval gv a y' hyl]; exact hptr
            unfold execOp
            simp only [hop, hev]
            rfl
          · cases he
        · cases he
    · simp at he
    · cases he
  · cases he

theorem privLoad_ok (hn : a.tmps.size = E.nt) (h : RP P base w0 S0 S fr gv a w F) (hT : TyOk P E.toEnv) {o : Oper} {d : Nat} (hd : d < a.tmps.size) {fr' : Fr} (he : privLoad E fr o d = some (some (true, fr'))) :
    ∃ x k g o', a.eval x = .pointer (some ⟨g, o', none⟩) ∧ (∃ s, F s g) ∧ PYields P base w0 S0 gv a w S F o d ((fr d).isRoot = false) (LoadsAs a x w k) fr' := by
  unfold privLoad at he
  rw [← hn] at he
  split at he
  · -- a load
    rename_i t x hop
    split at he
    · rename_i s r hp
      simp only [Option.some.injEq] at he
      split at he
      · cases he
      · rename_i hne
        split at he
        · rename_i p y ht
          obtain ⟨u, hu1, hu2, c, _, _, hadr, _⟩ := h.placeT hp ht
          split at he
          · rename_i q z hg
            obtain ⟨_, g, o', _, _, hptr, _, hFg⟩ := (hadr rfl).zero (by rw [hg]; simp)
            have hptr' : a.eval x = .pointer (some ⟨g, o', none⟩) := by rw [hu1, ← tv_eval gv a u hu2]; exact hptr
            split at he
            · rename_i hty
              split at he
              · rename_i hpl
                simp only [Option.some.injEq, Prod.mk.injEq, true_and] at he
                subst he
                exact ⟨_, _, _, _, hptr', ⟨_, hFg⟩, h.rLoad hT hd hop hp ht hg hty hpl⟩
              · split at he
                · rename_i n hl
                  simp only [Option.some.injEq, Prod.mk.injEq, true_and] at he
                  subst he
                  exact ⟨_, _, _, _, hptr', ⟨_, hFg⟩, h.rHead hT hd hop hp hne ht hg hty hl⟩
                · cases he
            · cases he
          · cases he
        · cases he
    · cases he
  · cases he

theorem privOp_ok (hn : a.tmps.size = E.nt) (h : RP P base w0 S0 S fr gv a w F) (hT : TyOk P E.toEnv) {o : Oper} {d : Nat} (hdst : o.dst = some d) (hd : d < a.tmps.size) {fr' : Fr} (he : privOp E fr o d = some (some (true, fr'))) :
    OpDoes P o a w (PPost P base w0 S0 E.nt gv w S F ((fr d).isRoot = false) fr') := by
  rw [← hn]
  unfold privOp at he
  split at he
  · rename_i r hr
    rw [he] at hr
    exact (privPure_ok hn h hT hd hr).does hdst
  · obtain ⟨x, k, _, _, _, _, hy⟩ := privLoad_ok hn h hT hd he
    exact hy.does hdst

theorem privStore_ok (hn : a.tmps.size = E.nt) (h : RP P base w0 S0 S fr gv a w F) (hT : TyOk P E.toEnv) {o : Oper} (hdst : o.dst = none) {t : TypeId} {x y : Operand} (hop : o.op = .store t x y) {fr' : Fr} (he : privStore E fr t x y = some (some (true, fr'))) :
    OpDoes P o a w (PPost P base w0 S0 E.nt gv w S F False fr') := by
  rw [← hn]
  unfold privStore at he
  rw [← hn] at he
  split at he
  · rename_i s r hp
    simp only [Option.some.injEq] at he
    split at he
    · rename_i p z ht
      split at he
      · rename_i q y0 ok u v oy hg hy
        split at he
        · rename_i hc
          obtain ⟨hu, hpl, hty, hz⟩ := hc
          subst hu
          split at he
          · rename_i z' hset
            simp only [Option.some.injEq, Prod.mk.injEq] at he
            obtain ⟨rfl, rfl⟩ := he
            exact h.sData hT hdst hop hp ht hg hty hpl hy hset hz
          · cases he
        · cases he
      · cases he
    · rename_i p z r' ht
      split at he
      · rename_i q y0 z0 hg
        split at he
        · cases he
        rename_i hlt
        split at he
        · rename_i q' m hz0
          split at he
          · rename_i hc
            obtain ⟨hq, hsl, hty⟩ := hc
            subst hq
            split at he
            · rename_i z' hset
              simp only [Option.some.injEq, Prod.mk.injEq] at he
              obtain ⟨hpe, he⟩ := he
              subst he
              have hr := pathEq_eq hpe
              subst hr
              exact h.filled hT hdst hop hp ht hg hty hz0 (Nat.lt_of_not_le hlt) hsl hset
            · cases he
          · cases he
        · cases he
      · cases he
    · cases he
  · simp at he
  · cases he

/-- An append to a private slice. -/
theorem privApp_ok (hn : a.tmps.size = E.nt) (h : RP P base w0 S0 S fr gv a w F) (hT : TyOk P E.toEnv) {o : Oper} {d : Nat} (hdst : o.dst = some d) (hd : d < a.tmps.size) {fr' : Fr} (he : privApp E fr o d = some (some (true, fr'))) :
    OpDoes P o a w (PPost P base w0 S0 E.nt gv w S F False fr') := by
  unfold privApp at he
  split at he
  · cases he
  rename_i q0 hpriv
  split at he
  · -- nil
    rename_i hop
    simp only [Option.some.injEq] at he
    split at he
    · rename_i y hy
      split at he
      · simp only [Option.some.injEq, Prod.mk.injEq, true_and] at he
        subst he
        have hrun : (execOp a.eval o).run P w = .ok (.value (.slice none 0 0)) w := by
          unfold execOp
          simp only [hop]
          rfl
        have hR := h.nilRoot hd hy
        refine OpDoes.value hrun ⟨by rw [hdst, put_size, hn], S, (fun t b => (t = d ∧ False) ∨ (t ≠ d ∧ F t b)), ?_, Keeps.refl w S, fun hf => hf.elim⟩
        rw [hdst]
        exact hR
      · cases he
    · cases he
  · -- an append
    rename_i c hop
    obtain ⟨callee, args, argTypes⟩ := c
    split at he
    · rename_i x y t u hc hargs htypes
      simp only at hc hargs htypes
      subst hc
      obtain rfl : args = #[x, y] := Array.ext' hargs
      obtain rfl : argTypes = #[t, u] := Array.ext' htypes
      split at he
      · cases he
      rename_i fr1 q l hown
      simp only [Option.some.injEq] at he
      -- the slice in a slot of its own
      have htake : ∃ F', RP P base w0 S0 S (fr1.putP d (.pv q l none)) gv (a.put (some d) (a.eval x)) w F' := by
        unfold ownerP at hown
        split at hown
        · split at hown
          · rename_i y0 hy0
            simp only [Option.some.injEq, Prod.mk.injEq, Sigma.mk.injEq] at hown
            obtain ⟨rfl, rfl, hl⟩ := hown
            obtain rfl := eq_of_heq hl
            exact ⟨_, h.nilRoot hd hy0⟩
          · cases hown
        · split at hown
          · rename_i s r hp
            split at hown
            · cases hown
            rename_i hne
            split at hown
            · rename_i p z ht
              split at hown
              · rename_i q' hg
                simp only [Option.some.injEq, Prod.mk.injEq] at hown
                obtain ⟨rfl, rfl⟩ := hown
                rw [← hn] at hp
                exact h.takes hd hp hne ht hg
              · cases hown
            · cases hown
          · cases hown
      obtain ⟨F1, h1⟩ := htake
      split at he
      · -- trees
        rename_i hdeep
        unfold pushT at he
        split at he
        · rename_i z
          split at he
          · cases he
          rename_i hz
          rw [not_or] at hz
          split at he
          · rename_i q' m hzv
            split at he
            · rename_i hc
              obtain ⟨hq, hut, hs, hby, hte⟩ := hc
              subst hq
              subst hut
              simp only [Option.some.injEq, Prod.mk.injEq, decide_eq_true_eq] at he
              obtain ⟨hroom, rfl⟩ := he
              cases q' with
              | psl te e =>
                obtain ⟨v', w', F', r1, r2, r3⟩ := h1.pushesT hd (by rw [hn]; exact Nat.lt_of_not_le hz.1) hz.2 hT hop hs hby hte hzv rfl hroom
                refine OpDoes.value r1 ⟨by rw [hdst, put_size, hn], S, F', ?_, r3, fun hf => hf.elim⟩
                rw [hdst]
                exact r2
              | _ => cases hdeep
            · cases he
          · cases he
        · cases he
      generalize hy : rdo E.toEnv fr true u y = ry at he
      obtain ⟨ok, vy⟩ := ry
      simp only at he
      split at he
      · rename_i hs
        split at he
        · rename_i m hm
          simp only [Option.some.injEq, Prod.mk.injEq, Bool.and_eq_true, decide_eq_true_eq] at he
          obtain ⟨⟨rfl, hroom⟩, rfl⟩ := he
          have hry := (rdo_ok h.r hy).1
          have hrow : ∃ te e, q.rowOf = some (te, e) ∧ te = (E.ti t).el ∧ ∃ m0 : List (Den e), newsV E.toEnv t u e vy = some m0 ∧ HEq m0 m := by
            cases q with
            | osl te e =>
              simp only [newsD] at hm
              split at hm
              · rename_i hte
                exact ⟨te, e, rfl, hte, m, hm, HEq.rfl⟩
              · cases hm
            | psl te e =>
              simp only [newsD] at hm
              split at hm
              · rename_i hc
                exact ⟨te, e.sh, by simp only [PSh.rowOf, hc.1, if_true], hc.2, m, hm, HEq.rfl⟩
              · cases hm
            | _ => simp [newsD] at hm
          obtain ⟨te, e, hr1, hr2, hr3⟩ := hrow
          obtain ⟨v', w', S', F', r1, r2, r3⟩ := h1.pushes hd hT hop hry hs.1 hs.2.1 hs.2.2 rfl hr1 hr2 hr3 hroom
          refine OpDoes.value r1 ⟨by rw [hdst, put_size, hn], S', F', ?_, r3, fun hf => hf.elim⟩
          rw [hdst]
          exact r2
        · cases he
      · cases he
    · cases he
  · -- a slice of one tree
    rename_i t n parts hop
    split at he
    · rename_i te e
      split at he
      · cases he
      simp only [Option.some.injEq] at he
      split at he
      · rename_i x hparts
        obtain rfl : parts = #[(0, x)] := Array.ext' hparts
        unfold buildT at he
        split at he
        · rename_i hc
          obtain ⟨hs, hte, hsl⟩ := hc
          split at he
          · split at he
            · rename_i m hm
              simp only [Option.some.injEq, Prod.mk.injEq, true_and] at he
              subst he
              obtain ⟨v', w', F', r1, r2, r3, _⟩ := h.buildsNil hT hd hop hs hte hsl hm
              refine OpDoes.value r1 ⟨by rw [hdst, put_size, hn], S, F', ?_, r3, fun hf => hf.elim⟩
              rw [hdst]
              exact r2
            · cases he
          · rename_i y
            split at he
            · cases he
            rename_i hy
            rw [not_or] at hy
            have hyn : y < a.tmps.size := by rw [hn]; exact Nat.lt_of_not_le hy.1
            split at he
            · rename_i e' m hfy
              split at he
              · rename_i he'
                subst he'
                simp only [Option.some.injEq, Prod.mk.injEq, true_and] at he
                subst he
                obtain ⟨v', w', F', r1, r2, r3, _⟩ := h.buildsOne hT hd hyn hy.2 hop hs hte hsl hfy rfl
                refine OpDoes.value r1 ⟨by rw [hdst, put_size, hn], S, F', ?_, r3, fun hf => hf.elim⟩
                rw [hdst]
                exact r2
              · cases he
            · rename_i s c lb te' hfy
              split at he
              · cases he
              rename_i hlb
              rw [not_or] at hlb
              have hlbn : lb < a.tmps.size := by rw [hn]; exact Nat.lt_of_not_le hlb.1
              split at he
              · rename_i he'
                subst he'
                simp only [Option.some.injEq, Prod.mk.injEq, true_and] at he
                subst he
                obtain ⟨k1, k2⟩ := h.r.cp y lb te' (by rw [hfy]; rfl)
                obtain ⟨F0, h0⟩ := h.privatize hlbn (k1.trans hfy)
                obtain ⟨v', w', F', r1, r2, r3, _⟩ := h0.buildsOne hT hd hlbn hlb.2 hop hs hte hsl (putP_self _ _ _) (show a.tmps.getD y undef = a.tmps.getD lb undef from k2.symm)
                refine OpDoes.value r1 ⟨by rw [hdst, put_size, hn], S, F', ?_, r3, fun hf => hf.elim⟩
                rw [hdst]
                exact r2
              · cases he
            · cases he
          · cases he
        · cases he
      · cases he
    · cases he
  · cases he

/-- An operation of the rest. -/
theorem RP.oldStep (hn : a.tmps.size = E.nt) (h : RP P base w0 S0 S fr gv a w F) (hT : TyOk P E.toEnv) (hF : ∀ w S, Keeps w0 S0 w S → EnvOk P E w S) {o : Oper} {d : Nat} (hdst : o.dst = some d) (hd : d < a.tmps.size) {fr' : Fr} (he : stepU E.toEnv fr o d = some (true, fr')) (hp : (fr' d).isPriv = false) :
    OpDoes P o a w (PPost P base w0 S0 E.nt gv w S F ((fr d).isRoot = false) (fr'.sweep d)) := by
  refine (stepU_ok (E := E.toEnv) hn h.r hT (hF _ _ h.kp).1 hdst hd he).tmps.mono fun a' w' ⟨⟨h1, S', h2, h3⟩, v, h4⟩ => ?_
  rw [hdst] at h4
  exact ⟨h1, S', _, h.otherD hd h2 h4 (stepU_keepsP he) hp, h3, fun ht t b hb => ⟨h2.below.block b (.inr ⟨t, hb⟩), t, not_root h ht hb, hb⟩⟩

theorem makeP_ok (hn : a.tmps.size = E.nt) (h : RP P base w0 S0 S fr gv a w F) (hT : TyOk P E.toEnv) (hF : ∀ w S, Keeps w0 S0 w S → EnvOk P E w S) {o : Oper} {d : Nat} (hdst : o.dst = some d) (hd : d < a.tmps.size) {fr' : Fr} (he : makeP E fr o d = some (some (true, fr'))) :
    OpDoes P o a w (PPost P base w0 S0 E.nt gv w S F ((fr d).isRoot = false) fr') := by
  unfold makeP at he
  split at he
  · split at he
    · rename_i ok e' l k te' hef
      simp only [Option.some.injEq] at he
      split at he
      · rename_i hc
        obtain ⟨rfl, rfl, hf⟩ := hc
        simp only [Option.some.injEq, Prod.mk.injEq] at he
        obtain ⟨rfl, rfl⟩ := he
        rw [← hn]
        exact h.made hT (hF _ _ h.kp).1 hdst hd hef hf
      · cases he
    · cases he
  · cases he

def isNext : Op → Bool
  | .next _ _ => true
  | _ => false
/-- Whether an operation leaves the trees that there are. -/
def tameOp0 (E : EnvP) (fr : Fr) (o : Oper) (d : Nat) : Bool :=
  (privApp E fr o d).isNone && (!(fr d).isRoot && !isNext o.op && match privOp E fr o d with
    | some _ => true
    | none => (treesOf E.nt fr o.op.operands.toList).isEmpty)

def tameOp (E : EnvP) (fr : Fr) (o : Oper) (d : Nat) : Bool := (modM E fr o d).isNone && tameOp0 E fr o d

theorem stepD0_ok (hn : a.tmps.size = E.nt) (h : RP P base w0 S0 S fr gv a w F) (hT : TyOk P E.toEnv) (hF : ∀ w S, Keeps w0 S0 w S → EnvOk P E w S) {o : Oper} {d : Nat} (hdst : o.dst = some d) (hd : d < a.tmps.size) {fr' : Fr} (he : stepD0 E fr o d = some (true, fr')) :
    OpDoes P o a w (PPost P base w0 S0 E.nt gv w S F (tameOp0 E fr o d = true) fr') := by
  unfold stepD0 at he
  unfold tameOp0
  split at he
  · rename_i r hr
    subst he
    rw [hr]
    exact (privApp_ok hn h hT hdst hd hr).mono fun a' w' hp => hp.mono (fun ht => by simp at ht)
  rename_i hna
  rw [hna]
  simp only [Option.isNone_none, Bool.true_and]
  split at he
  · rename_i r hr
    subst he
    rw [hr]
    exact (privOp_ok hn h hT hdst hd hr).mono fun a' w' hp => hp.mono (fun ht => by simp only [Bool.and_eq_true] at ht; simpa using ht.1.1)
  · rename_i hr
    rw [hr]
    split at he
    · cases he
    · rename_i fr1 hf
      obtain ⟨S1, F1, h1, h2, h3⟩ := RP.freezes hn _ _ _ _ _ h hf
      -- nothing was laid open, or the operation is not tame
      have fin : ∀ {fr'' : Fr} {a' : Act} {w' : World} {T : Prop}, ((fr1 d).isRoot = false → isNext o.op = false → T) → PPost P base w0 S0 E.nt gv w S1 F1 T fr'' a' w' →
          PPost P base w0 S0 E.nt gv w S F ((!(fr d).isRoot && !isNext o.op && (treesOf E.nt fr o.op.operands.toList).isEmpty) = true) fr'' a' w' := fun hT' hp => by
        by_cases hl : treesOf E.nt fr o.op.operands.toList = []
        · obtain ⟨e1, e2, e3⟩ := h3 hl
          subst e1 e2 e3
          exact hp.mono (fun ht => by simp only [Bool.and_eq_true] at ht; exact hT' (by simpa using ht.1.1) (by simpa using ht.1.2))
        · have := PPost.of (F := F) h2 hp
          exact this.mono (fun ht => by simp only [Bool.and_eq_true] at ht; exact hl (by simpa using ht.2))
      split at he
      · rename_i r hm
        subst he
        exact (makeQ_ok hn h1 hT (hF _ _ h1.kp).2.1 hdst hd hm).mono fun a' w' hp => fin (fun k1 k2 => ⟨k1, fun x b e => by rw [e] at k2; cases k2⟩) hp
      split at he
      · rename_i r hm
        subst he
        exact (makeN_ok hn h1 hT hdst hd hm).mono fun a' w' hp => fin (fun k1 _ => k1) hp
      split at he
      · rename_i r hm
        subst he
        exact (makeP_ok hn h1 hT hF hdst hd hm).mono fun a' w' hp => fin (fun k1 _ => k1) hp
      · split at he
        · rename_i ok fr2 hs
          split at he
          · cases he
          · rename_i hpr
            simp only [Option.some.injEq, Prod.mk.injEq] at he
            obtain ⟨rfl, rfl⟩ := he
            exact (h1.oldStep hn hT hF hdst hd hs (by simpa using hpr)).mono fun a' w' hp => fin (fun k1 _ => k1) hp
        · cases he

theorem stepD_ok (hn : a.tmps.size = E.nt) (h : RP P base w0 S0 S fr gv a w F) (hT : TyOk P E.toEnv) (hF : ∀ w S, Keeps w0 S0 w S → EnvOk P E w S) {o : Oper} {d : Nat} (hdst : o.dst = some d) (hd : d < a.tmps.size) {fr' : Fr} (he : stepD E fr o d = some (true, fr')) :
    OpDoes P o a w (PPost P base w0 S0 E.nt gv w S F (tameOp E fr o d = true) fr') := by
  unfold stepD at he
  unfold tameOp
  split at he
  · rename_i r hr
    subst he
    rw [hr]
    unfold modM at hr
    split at hr
    · rename_i r2 hr2
      simp only [Option.some.injEq] at hr
      subst hr
      exact (callM_ok hn h (hF _ _ h.kp) hdst (fun d e => by cases e; exact hd) hr2).mono fun a' w' hp => hp.mono (fun ht => by simp at ht)
    · exact (makeF_ok hn h hdst hd hr).mono fun a' w' hp => hp.mono (fun ht => by simp at ht)
  · rename_i hr
    rw [hr]
    simp only [Option.isNone_none, Bool.true_and]
    exact stepD0_ok hn h hT hF hdst hd he

theorem guardP_ok (h : RP P base w0 S0 S fr gv a w F) {ops : Array Oper} {o : Oper} {j : Nat} {want G : Bool} (hg : o.guard = some (j, want)) (he : guardB ops fr j want = some G) : Region.wanted o (yielded ops a.tmps) = G := guard_ok h.r hg he

/-- Whether an operation leaves the trees that there are: of a region. -/
def tameP (E : EnvP) (ops : Array Oper) (fr : Fr) (o : Oper) : Bool :=
  match o.dst with
  | some d => match o.guard with
    | none => tameOp E fr o d
    | some (j, want) => match guardB ops fr j want with
      | some true => tameOp E fr o d
      | _ => !(fr d).isRoot
  | none => match o.op with
    | .store t x y => (privStore E fr t x y).isNone && (treesOf E.nt fr [y]).isEmpty
    | _ => false

/-- One operation: if it is carried out it does what the frame says; if not, the frame says so. -/
theorem stepP_ok (hn : a.tmps.size = E.nt) (h : RP P base w0 S0 S fr gv a w F) (hT : TyOk P E.toEnv) (hF : ∀ w S, Keeps w0 S0 w S → EnvOk P E w S) {ops : Array Oper} {o : Oper} {fr' : Fr} (he : stepP E ops fr o = some (true, fr')) :
    (Region.wanted o (yielded ops a.tmps) = true ∧ OpDoes P o a w (PPost P base w0 S0 E.nt gv w S F (tameP E ops fr o = true) fr')) ∨
    (Region.wanted o (yielded ops a.tmps) = false ∧ PPost P base w0 S0 E.nt gv w S F (tameP E ops fr o = true) fr' (a.put o.dst undef) w) := by
  unfold stepP at he
  unfold tameP
  split at he
  · rename_i d hdst
    simp only [hdst]
    split at he
    · cases he
    rename_i hlt
    have hd : d < a.tmps.size := by rw [hn]; exact Nat.lt_of_not_le hlt
    split at he
    · rename_i hg
      have hw : Region.wanted o (yielded ops a.tmps) = true := by simp [Region.wanted, hg]
      simp only [hg]
      exact .inl ⟨hw, stepD_ok hn h hT hF hdst hd he⟩
    · rename_i j want hg
      simp only [hg]
      split at he
      · rename_i hG
        simp only [hG]
        exact .inl ⟨guardP_ok h hg hG, stepD_ok hn h hT hF hdst hd he⟩
      · rename_i hG
        simp only [Option.some.injEq, Prod.mk.injEq, true_and] at he
        subst he
        simp only [hG]
        refine .inr ⟨guardP_ok h hg hG, ?_⟩
        have := h.putDat hd (val := undef) (v := .cnd false .bad) (.cnd _ _ _ (fun _ => rfl) (fun e => by cases e)) rfl rfl
        exact ⟨by rw [put_size, hn], S, fun t b => t ≠ d ∧ F t b, this, Keeps.refl w S, fun ht t b hb => ⟨rfl, t, not_root h (by simpa using ht) hb, hb⟩⟩
      · cases he
  · rename_i hdst
    simp only [hdst]
    split at he
    · rename_i t x y hg hop
      have hw : Region.wanted o (yielded ops a.tmps) = true := by simp [Region.wanted, hg]
      simp only [hop]
      refine .inl ⟨hw, ?_⟩
      split at he
      · rename_i r hr
        subst he
        rw [hr]
        exact (privStore_ok hn h hT hdst hop hr).mono fun a' w' hp => hp.mono (fun ht => by simp at ht)
      · rename_i hr
        rw [hr]
        split at he
        · cases he
        · rename_i fr1 hf
          obtain ⟨S1, F1, h1, h2, h3⟩ := RP.freezes hn _ _ _ _ _ h hf
          rcases step_ok (E := E.toEnv) hn h1.r hT (hF _ _ h1.kp).1 he with ⟨_, hd⟩ | ⟨hw', _⟩
          · refine hd.tmps.mono fun a' w' ⟨⟨k1, S', k2, k3⟩, v, k4⟩ => ?_
            have ha : a'.tmps = a.tmps := by rw [k4, hdst]; rfl
            -- only a shared box has turned
            have hkp : ∀ t, (fr' t).isPriv = true ∨ (fr1 t).isPriv = true → fr' t = fr1 t := fun t ht => by
              unfold stepOp at he
              simp only [hdst, hg, hop] at he
              split at he
              · rename_i okx b p oky u z oz _ _
                split at he
                · rename_i s q hb
                  split at he
                  · split at he
                    · simp only [Option.some.injEq, Prod.mk.injEq] at he
                      obtain ⟨_, rfl⟩ := he
                      unfold Fr.rebox at *
                      by_cases htb : t = b
                      · subst htb
                        rw [if_pos rfl] at *
                        rcases ht with ht | ht
                        · cases ht
                        · rw [hb] at ht; cases ht
                      · rw [if_neg htb]
                    · cases he
                  · cases he
                · cases he
              · cases he
            have htv : ∀ t, tv gv a' t = tv gv a t := fun t => by unfold tv; rw [ha]
            have hrr : ∀ v : AV, v.isRoot = true → v.isPriv = true := fun v hv => by unfold AV.isPriv; rw [hv]; rfl
            have hR := h1.upd (fun _ => False) (F' := F1) (k2.rebase (fun k hk => hk)) ⟨k2.below.os, k2.below.tape, k2.below.output, k2.below.size, fun k hk => k2.below.block k (.inl hk)⟩ (fun b o hB => k2.old b o (.inl hB)) k2.kp (fun _ _ _ => Iff.rfl)
              (fun t b _ hb => k2.below.block b (.inr ⟨t, hb⟩)) (fun t b o _ hb => k2.old b o (.inr ⟨t, hb⟩))
              (fun t _ => ⟨by
                cases e1 : (fr' t).isRoot with
                | true => rw [hkp t (.inl (hrr _ e1))] at e1; exact e1.symm
                | false => cases e2 : (fr1 t).isRoot with
                  | true => rw [hkp t (.inr (hrr _ e2)), e2] at e1; cases e1
                  | false => rfl, fun hh => ⟨hkp t (.inr (hrr _ hh)), htv t⟩⟩)
              (fun _ _ hf => hf.elim) (fun _ _ _ hf => hf.elim) (fun _ hf => hf.elim) (fun _ hf => hf.elim)
              (fun t s r ht => .inl ⟨fun hf => hf, by rw [← hkp t (.inl (by rw [ht]; rfl))]; exact ht, htv t⟩) (fun t s r ht => .inl ⟨fun hf => hf, by rw [← hkp t (.inl (by rw [ht]; rfl))]; exact ht, htv t⟩)
            refine ⟨k1, S', F1, hR, h2.trans k3, fun ht t b hb => ?_⟩
            have hl : treesOf E.nt fr [y] = [] := by simpa using ht
            obtain ⟨e1, e2, e3⟩ := h3 hl
            subst e2
            exact ⟨k2.below.block b (.inr ⟨t, hb⟩), t, hb⟩
          · rw [hw] at hw'; cases hw'
    · rename_i c hg hop
      have hw : Region.wanted o (yielded ops a.tmps) = true := by simp [Region.wanted, hg]
      simp only [hop]
      refine .inl ⟨hw, ?_⟩
      split at he
      · rename_i r hr
        subst he
        exact (callM_ok hn h (hF _ _ h.kp) hdst (fun d e => by cases e) hr).mono fun a' w' hp => hp.mono (fun ht => by simp at ht)
      · cases he
    · cases he

/-- A choice that has been settled. -/
theorem RP.res1 (h : RP P base w0 S0 S fr gv a w F) {fr2 : Fr} (hr : Res1 fr fr2) : RP P base w0 S0 S fr2 gv a w F := by
  rcases id hr with rfl | ⟨d, b, x, y, v, h1, h2, h3, rfl⟩
  · exact h
  have hat : ∀ t, fr.set d v t = if t = d then v else fr t := fun t => rfl
  have hv : v.isRoot = false ∧ v.isRef = false := by cases v <;> first | exact ⟨rfl, rfl⟩ | cases h3
  have hd : (fr d).isRoot = false := by rw [h1]; rfl
  refine h.upd (fun _ => False) ((h.r.res1 hr).rebase (fun k hk => hk)) (Kept.refl _ _) (fun _ _ _ => Iff.rfl) (Keeps.refl _ _) (fun _ _ _ => Iff.rfl) (fun _ _ _ _ => rfl) (fun _ _ _ _ _ => Iff.rfl)
    (fun t _ => ?_) (fun _ _ hf => hf.elim) (fun _ _ _ hf => hf.elim) (fun _ hf => hf.elim) (fun _ hf => hf.elim) (fun t s r ht => ?_) (fun t s r ht => ?_)
  · rw [hat]
    split
    · rename_i e
      subst e
      exact ⟨by rw [hv.1, hd], fun e => by rw [hd] at e; cases e⟩
    · exact ⟨rfl, fun _ => ⟨rfl, rfl⟩⟩
  · rw [hat] at ht
    split at ht
    · have := hv.2; rw [ht] at this; cases this
    · exact .inl ⟨fun hf => hf, ht, rfl⟩
  · rw [hat] at ht
    split at ht
    · have := hv.2; rw [ht] at this; cases this
    · exact .inl ⟨fun hf => hf, ht, rfl⟩
end
end Go.Av
end

section
/-
  Regions that draw their order: what reads a tree may be taken first.
-/
namespace Go.Av
open Go.RowKit Go.Lib

section
variable {P : Program} {ops : Array Oper} {Q : Exit → Act → World → Prop} {md : Region.Mode}

/-- Whatever order is picked from here on; a condition that goes by what has come up holds behind every operation. -/
def wpAnyL (P : Program) (md : Region.Mode) (ops : Array Oper) (Q : Exit → Act → World → Prop) (W : Array Bool → World → Prop) : Nat → Array Bool → Act → World → Prop
  | 0, listed, a, w => Region.ready md ops listed = [] ∧ Q .normal a w
  | fuel + 1, listed, a, w =>
    (Region.ready md ops listed = [] → Q .normal a w) ∧
    ∀ i ∈ Region.ready md ops listed, wpOp P ops Q i (fun a' w' => W (listed.setIfInBounds i true) w' ∧ wpAnyL P md ops Q W fuel (listed.setIfInBounds i true) a' w') a w

theorem wpAny_of_L {W : Array Bool → World → Prop} : ∀ (fuel : Nat) (listed : Array Bool) (a : Act) (w : World), wpAnyL P md ops Q W fuel listed a w → wpAny P md ops Q fuel listed a w
  | 0, _, _, _, h => h
  | fuel + 1, _, _, _, h => ⟨h.1, fun i hi => wpOp_mono (fun a' w' h' => wpAny_of_L fuel _ a' w' h'.2) (h.2 i hi)⟩

theorem wpAnyL_mono {W W' : Array Bool → World → Prop} (h : ∀ l w, W l w → W' l w) : ∀ (fuel : Nat) (listed : Array Bool) (a : Act) (w : World), wpAnyL P md ops Q W fuel listed a w → wpAnyL P md ops Q W' fuel listed a w
  | 0, _, _, _, k => k
  | fuel + 1, _, _, _, k => ⟨k.1, fun i hi => wpOp_mono (fun a' w' k' => ⟨h _ _ k'.1, wpAnyL_mono h fuel _ a' w' k'.2⟩) (k.2 i hi)⟩

/-- No operation that has come up waits for number i. -/
def NoneBehind (md : Region.Mode) (ops : Array Oper) (listed : Array Bool) (i : Nat) : Prop :=
  ∀ j oj, ops[j]? = some oj → listed.getD j false = true → ∀ e ∈ oj.after, Region.binds md e = true → e.on ≠ i

theorem getD_set_cases {listed : Array Bool} {i j : Nat} (h : (listed.setIfInBounds i true).getD j false = true) : j = i ∨ listed.getD j false = true := by
  by_cases hij : i = j
  · exact .inl hij.symm
  · right
    rw [getD_set_ne false hij] at h
    exact h

theorem wpAnyL_first {W : Array Bool → World → Prop} {C : World → Prop} {i : Nat} {oi : Oper} {v : Value} (hi : ops[i]? = some oi) (hsel : ∀ (j : Nat) (o : Oper) cs b, ops[j]? = some o → o.op ≠ .select cs b)
    (hQ : ∀ c a w, Q (.panic c) (a.put oi.dst v) w → Q (.panic c) a w) (hanti : ∀ l w, W (l.setIfInBounds i true) w → W l w) (hC : ∀ l w, NoneBehind md ops l i → W l w → C w) :
    ∀ (fuel : Nat) (listed : Array Bool) (a : Act) (w : World),
      (∀ j oj, ops[j]? = some oj → j ≠ i → listed.getD j true = false → (∀ e ∈ oj.after, Region.binds md e = true → e.on ≠ i) → oi.apart ops oj = true) →
      i ∈ Region.ready md ops listed → NoneBehind md ops listed i → YieldsIf P ops C oi v a → C w → W (listed.setIfInBounds i true) w →
      wpAnyL P md ops Q W fuel (listed.setIfInBounds i true) (a.put oi.dst v) w → wpAnyL P md ops Q W (fuel + 1) listed a w := by
  intro fuel
  induction fuel with
  | zero =>
    intro listed a w _ hr _ hy hc hw H
    refine ⟨fun h => (by rw [h] at hr; cases hr), fun j hj => ?_⟩
    by_cases hji : j = i
    · subst hji; exact hy.wpOp hi hc ⟨hw, H⟩
    · have := ready_mono hj hji
      rw [H.1] at this
      cases this
  | succ fuel ih =>
    intro listed a w hfree hr hnb hy hc hw H
    refine ⟨fun h => (by rw [h] at hr; cases hr), fun j hj => ?_⟩
    by_cases hji : j = i
    · subst hji; exact hy.wpOp hi hc ⟨hw, H⟩
    · have h1 := H.2 j (ready_mono hj hji)
      obtain ⟨hjun, oj, hoj, hall⟩ := mem_ready.1 hj
      have hnot : ∀ e ∈ oj.after, Region.binds md e = true → e.on ≠ i := fun e he hb heq => by
        have h1 := hall e he hb
        have h0 := (mem_ready.1 hr).1
        rw [heq] at h1
        rcases Nat.lt_or_ge i listed.size with h' | h'
        · simp [h'] at h0 h1; rw [h0] at h1; cases h1
        · simp [Array.getElem?_eq_none h'] at h1
      have hnb' : NoneBehind md ops (listed.setIfInBounds j true) i := fun k ok hk hl => by
        rcases getD_set_cases hl with rfl | hl
        · rw [hoj] at hk
          obtain rfl := Option.some.inj hk
          exact hnot
        · exact hnb k ok hk hl
      have h2 := wpOp_putIf hoj (hfree j oj hoj hji hjun hnot) (fun cs b => hsel i oi cs b hi) (fun cs b => hsel j oj cs b hoj) hQ hy h1
      have hfree' : ∀ k ok, ops[k]? = some ok → k ≠ i → (listed.setIfInBounds j true).getD k true = false →
          (∀ e ∈ ok.after, Region.binds md e = true → e.on ≠ i) → oi.apart ops ok = true := fun k ok hk hki hun hno => by
        refine hfree k ok hk hki ?_ hno
        by_cases hjk : j = k
        · subst hjk; exact hjun
        · rw [getD_set_ne true hjk] at hun; exact hun
      refine wpOp_mono (fun a' w' h3 => ?_) h2
      obtain ⟨h4, h5, h6⟩ := h3
      rw [Array.setIfInBounds_comm _ _ (Ne.symm hji)] at h5 h6
      have h7 := hanti _ _ h5
      exact ⟨h7, ih (listed.setIfInBounds j true) a' w' hfree' (ready_mono hr (Ne.symm hji)) hnb' h4 (hC _ _ hnb' h7) h5 h6⟩

theorem wpAnyL_done {W : Array Bool → World → Prop} {listed : Array Bool} {a : Act} {w : World} (hr : Region.ready md ops listed = []) (h : Q .normal a w) : ∀ fuel, wpAnyL P md ops Q W fuel listed a w
  | 0 => ⟨hr, h⟩
  | _ + 1 => ⟨fun _ => h, by rw [hr]; simp⟩

theorem wpAnyL_all {W : Array Bool → World → Prop} {rs : List Nat} {fuel : Nat} {listed : Array Bool} {a : Act} {w : World} (hr : Region.ready md ops listed = rs) (hne : rs ≠ [])
    (h : ∀ i ∈ rs, wpOp P ops Q i (fun a' w' => W (listed.setIfInBounds i true) w' ∧ wpAnyL P md ops Q W fuel (listed.setIfInBounds i true) a' w') a w) : wpAnyL P md ops Q W (fuel + 1) listed a w :=
  ⟨fun h0 => absurd (hr ▸ h0) hne, hr ▸ h⟩

theorem wp_region_L {W : Array Bool → World → Prop} {id : Nat} {a : Act} {w : World} (hm : P.follows .mixedOrders = true)
    (h : wpAnyL P .any ops Q W ops.size (Array.replicate ops.size false) a { w with drawn := w.drawn + 1 }) : (Code.region id ops true).wp P Q a w :=
  wp_region_any hm (wpAny_of_L _ _ _ _ h)
end

/-! ### The reading of such a region -/

/-- Operations that may write a tree. -/
def modOp : Op → Bool
  | .store _ _ _ => true
  | .call c => match c.callee with
    | .builtin .append => true
    | _ => false
  | _ => false

/-- Does an operation wait for another. -/
def waitsOn (o : Oper) (p : Nat) : Bool := o.after.any fun e => Region.binds .any e && e.on == p

/-- May a load that was taken first stay so behind an operation. -/
def pinOk (E : EnvP) (ops : Array Oper) (fr : Fr) (o : Oper) (p : Nat) : Bool := tameP E ops fr o || (modOp o.op && waitsOn o p)

/-- Whether an operation may be taken first: 1: it yields the same in all worlds that keep what is stable; 2: it loads from a tree. -/
def takesP (E : EnvP) (fr : Fr) (ops : Array Oper) (o : Oper) : Nat :=
  match o.dst with
  | none => 0
  | some d =>
    let go : Nat := if (modM E fr o d).isNone && (privApp E fr o d).isNone then (match privPure E fr o d with
      | some (some _) => if modOp o.op then 0 else 1
      | some none => 0
      | none => match privLoad E fr o d with
        | some (some _) => if (fr d).isRoot then 0 else 2
        | some none => 0
        | none => if stillOp o.op && (treesOf E.nt fr o.op.operands.toList).isEmpty && (makeQ E fr o d).isNone && (makeN E fr o d).isNone && (makeP E fr o d).isNone && (still E.toEnv fr true o).isSome && takeable E.toEnv fr true o then 1 else 0) else 0
    match o.guard with
    | none => go
    | some (j, want) => match guardB ops fr j want with
      | some true => go
      | some false => if stillOp o.op then 1 else 0
      | none => 0

open Classical in
/-- Two readings that are the same. -/
noncomputable def both (x y : Option AV) : Option AV := if x = y then x else none
theorem both_self (x : Option AV) : both x x = x := by unfold both; rw [if_pos rfl]
theorem both_some {x y : Option AV} {r : AV} (h : both x y = some r) : x = some r ∧ y = some r := by
  unfold both at h
  split at h
  · rename_i e
    exact ⟨h, e ▸ h⟩
  · cases h
noncomputable def bothL (x : Option AV) : List (Option AV) → Option AV
  | [] => x
  | y :: l => both x (bothL y l)
theorem bothL_some {r : AV} : ∀ (l : List (Option AV)) (x : Option AV), bothL x l = some r → x = some r ∧ ∀ y ∈ l, y = some r
  | [], x, h => ⟨h, fun y hy => by cases hy⟩
  | z :: l, x, h => by
    obtain ⟨h1, h2⟩ := both_some h
    obtain ⟨h3, h4⟩ := bothL_some l z h2
    exact ⟨h1, fun y hy => (List.mem_cons.1 hy).elim (fun e => e ▸ h3) (h4 y)⟩

/-- One that may come up is carried out. -/
def evDrawGo (E : EnvP) (ops : Array Oper) (listed : Array Bool) (pins : List Nat) (fr : Fr) (K : Fr → Option AV) (next : Array Bool → List Nat → Fr → (Fr → Option AV) → Option AV) (i : Nat) : Option AV :=
  match pins.all fun p => pinOk E ops fr (ops.getD i default) p with
  | true => match stepP E ops fr (ops.getD i default) with
    | some (ok, fr') => bif ok then splitB ops (ops.getD i default).dst fr' (fun fr2 => next (listed.setIfInBounds i true) (pins.filter fun p => !(modOp (ops.getD i default).op && waitsOn (ops.getD i default) p)) fr2 K) else none
    | none => none
  | false => none

/-- A region that draws its order: where more than one may come up, all of them are tried. -/
noncomputable def evDrawP (E : EnvP) (ops : Array Oper) : Nat → Array Bool → List Nat → Fr → (Fr → Option AV) → Option AV
  | 0, _, _, _, _ => none
  | n + 1, listed, pins, fr, K => match Region.ready .any ops listed with
    | [] => K fr
    | i :: rs => match (i :: rs).find? (fun i => Region.free .any ops listed i && (takesP E fr ops (ops.getD i default) == 1 && pins.all fun p => pinOk E ops fr (ops.getD i default) p)) with
      | some k => match stepP E ops fr (ops.getD k default) with
        | some (ok, fr') => bif ok then splitB ops (ops.getD k default).dst fr' (fun fr2 => evDrawP E ops n (listed.setIfInBounds k true) pins fr2 K) else none
        | none => none
      | none => match (i :: rs).find? (fun i => Region.free .any ops listed i && (takesP E fr ops (ops.getD i default) == 2 && pins.all fun p => pinOk E ops fr (ops.getD i default) p)) with
        | some k => match stepP E ops fr (ops.getD k default) with
          | some (ok, fr') => bif ok then splitB ops (ops.getD k default).dst fr' (fun fr2 => evDrawP E ops n (listed.setIfInBounds k true) (k :: pins) fr2 K) else none
          | none => none
        | none => bothL (evDrawGo E ops listed pins fr K (evDrawP E ops n) i) (rs.map fun k => evDrawGo E ops listed pins fr K (evDrawP E ops n) k)

/-- A load that was taken first: its number, the cells, what they held. -/
structure Pin where
  p : Nat
  g : Nat
  o : Nat
  k : Nat
  c : Nat → Option Value
def Pin.holds (π : Pin) (w : World) : Prop := ∀ i, i < π.k → w.cell? ⟨π.g, π.o + i, none⟩ = π.c i
/-- An operation has come up that may have written what number p read. -/
def depL (ops : Array Oper) (listed : Array Bool) (p : Nat) : Prop := ∃ j oj, ops[j]? = some oj ∧ listed.getD j false = true ∧ modOp oj.op = true ∧ waitsOn oj p = true

section
variable {base : Nat → Prop} {w0 : World} {S0 : Stable} {gv : Nat → Value} {P : Program} {E : EnvP}

/-- The state reads as the frame, in some world. -/
def RRP (P : Program) (base : Nat → Prop) (w0 : World) (S0 : Stable) (n : Nat) (gv : Nat → Value) (fr : Fr) (a : Act) (w : World) : Prop := a.tmps.size = n ∧ ∃ S F, RP P base w0 S0 S fr gv a w F

theorem depL_anti {ops : Array Oper} {i : Nat} {oi : Oper} (hi : ops[i]? = some oi) (hm : modOp oi.op = false) {l : Array Bool} {p : Nat} (h : depL ops (l.setIfInBounds i true) p) : depL ops l p := by
  obtain ⟨j, oj, h1, h2, h3, h4⟩ := h
  rcases getD_set_cases h2 with rfl | h2
  · rw [hi] at h1
    obtain rfl := Option.some.inj h1
    rw [hm] at h3
    cases h3
  · exact ⟨j, oj, h1, h2, h3, h4⟩

theorem waitsOn_edge {o : Oper} {p : Nat} (h : waitsOn o p = true) : ∃ e ∈ o.after, Region.binds .any e = true ∧ e.on = p := by
  unfold waitsOn at h
  rw [Array.any_eq_true'] at h
  obtain ⟨e, he, hh⟩ := h
  simp only [Bool.and_eq_true, beq_iff_eq] at hh
  exact ⟨e, he, hh.1, hh.2⟩

theorem still_not_mod {op : Op} (h : stillOp op = true) : modOp op = false := by
  cases op with
  | call c =>
    obtain ⟨callee, args, ts⟩ := c
    simp only [stillOp] at h
    simp only [modOp]
    cases callee with
    | builtin b => cases b <;> first | rfl | cases h
    | value f => rfl
    | invoke r m => rfl
  | store t x y => cases h
  | _ => rfl

/-- What an operation that is taken first as number 1 yields. -/
theorem takes1_ok {w : World} {S : Stable} {fr : Fr} {a : Act} {F : Nat → Nat → Prop} (hn : a.tmps.size = E.nt) (h : RP P base w0 S0 S fr gv a w F) (hT : TyOk P E.toEnv) {ops : Array Oper} {o : Oper} {fr' : Fr}
    (he : stepP E ops fr o = some (true, fr')) (ht : takesP E fr ops o = 1) : ∃ v F', YieldsIf P ops (fun w' => Keeps w S w' S) o v a ∧ RP P base w0 S0 S fr' gv (a.put o.dst v) w F' ∧ modOp o.op = false ∧ (tameP E ops fr o = true → ∀ t b, F t b → ∃ t', F' t' b) := by
  unfold takesP at ht
  split at ht
  · cases ht
  · rename_i d hdst
    dsimp only at ht
    unfold stepP at he
    simp only [hdst] at he
    split at he
    · cases he
    rename_i hlt
    have hd : d < a.tmps.size := by rw [hn]; exact Nat.lt_of_not_le hlt
    -- the operation itself
    have go : Region.wanted o (yielded ops a.tmps) = true → stepD E fr o d = some (true, fr') →
        ((if (modM E fr o d).isNone && (privApp E fr o d).isNone then (match privPure E fr o d with
          | some (some _) => if modOp o.op then 0 else 1
          | some none => 0
          | none => match privLoad E fr o d with
            | some (some _) => if (fr d).isRoot then 0 else 2
            | some none => 0
            | none => if stillOp o.op && (treesOf E.nt fr o.op.operands.toList).isEmpty && (makeQ E fr o d).isNone && (makeN E fr o d).isNone && (makeP E fr o d).isNone && (still E.toEnv fr true o).isSome && takeable E.toEnv fr true o then 1 else 0) else 0) : Nat) = 1 →
        ∃ v F', YieldsIf P ops (fun w' => Keeps w S w' S) o v a ∧ RP P base w0 S0 S fr' gv (a.put o.dst v) w F' ∧ modOp o.op = false ∧ (tameOp E fr o d = true → ∀ t b, F t b → ∃ t', F' t' b) := by
      intro hw hs hk
      have hpa : privApp E fr o d = none := by
        cases hh : privApp E fr o d with
        | none => rfl
        | some r => rw [hh] at hk; simp at hk
      have hmo : modM E fr o d = none := by
        cases hh : modM E fr o d with
        | none => rfl
        | some r => rw [hh] at hk; simp at hk
      unfold stepD at hs
      rw [hmo] at hs hk
      simp only at hs
      unfold stepD0 privOp at hs
      rw [hpa] at hs hk
      simp only [Option.isNone_none, Bool.and_self, if_true] at hs hk
      split at hk
      · rename_i q hq
        rw [hq] at hs
        simp only at hs
        obtain rfl := Option.some.inj hs
        split at hk
        · cases hk
        · rename_i hm
          obtain ⟨_, v, k1, F', k2, k3⟩ := privPure_ok hn h hT hd hq
          refine ⟨v, F', .inl ⟨hw, fun w' _ => k1 w' trivial⟩, by rw [hdst]; exact k2, by simpa using hm, fun ht => k3 ?_⟩
          unfold tameOp tameOp0 at ht
          simp only [Bool.and_eq_true] at ht
          simpa using ht.2.2.1.1
      · cases hk
      · rename_i hq
        rw [hq] at hs
        split at hk
        · split at hk <;> cases hk
        · cases hk
        · rename_i hq2
          rw [hq2] at hs
          simp only at hs
          split at hk
          · rename_i hc
            simp only [Bool.and_eq_true] at hc
            obtain ⟨⟨⟨⟨⟨⟨hst, hte⟩, hmq⟩, hmn⟩, hmk⟩, hso⟩, hta⟩ := hc
            have hte' : treesOf E.nt fr o.op.operands.toList = [] := by simpa using hte
            rw [hte'] at hs
            simp only [freezeL] at hs
            have hmq' : makeQ E fr o d = none := by simpa using hmq
            rw [hmq'] at hs
            simp only at hs
            have hmn' : makeN E fr o d = none := by simpa using hmn
            rw [hmn'] at hs
            simp only at hs
            have hmk' : makeP E fr o d = none := by simpa using hmk
            rw [hmk'] at hs
            simp only at hs
            split at hs
            · rename_i ok fr2 hu
              split at hs
              · cases hs
              · rename_i hpr
                simp only [Option.some.injEq, Prod.mk.injEq] at hs
                obtain ⟨rfl, rfl⟩ := hs
                have hu' := hu
                unfold stepU at hu'
                split at hu'
                · rename_i ok v hsv
                  split at hu'
                  · rename_i hok
                    simp only [Option.some.injEq, Prod.mk.injEq] at hu'
                    obtain ⟨rfl, rfl⟩ := hu'
                    obtain ⟨val, k1, k2, k3⟩ := still_ok h.r hT hsv (bx := false) (.inr hta)
                    have hR := h.r.put_copy hd k2 k3 hok
                    refine ⟨val, fun t b => t ≠ d ∧ F t b, .inl ⟨hw, fun w' hk => k1 w' ⟨hk, fun e => by cases e⟩⟩, ?_, ?_, fun ht t b hb => ?_⟩
                    · rw [hdst]
                      exact h.otherD hd hR rfl (stepU_keepsP hu) (by simpa using hpr)
                    · exact still_not_mod hst
                    · unfold tameOp tameOp0 at ht
                      simp only [Bool.and_eq_true] at ht
                      exact ⟨t, not_root h (by simpa using ht.2.2.1.1) hb, hb⟩
                  · cases hu'
                · rename_i hsn
                  rw [hsn] at hso
                  simp at hso
            · cases hs
          · cases hk
    split at he
    · rename_i hg
      simp only [hg] at ht
      have := go (by simp [Region.wanted, hg]) he ht
      obtain ⟨v, F', k1, k2, k3, k4⟩ := this
      exact ⟨v, F', k1, k2, k3, fun hh => k4 (by unfold tameP at hh; simpa only [hdst, hg] using hh)⟩
    · rename_i j want hg
      simp only [hg] at ht
      split at he
      · rename_i hG
        simp only [hG] at ht
        obtain ⟨v, F', k1, k2, k3, k4⟩ := go (guardP_ok h hg hG) he ht
        exact ⟨v, F', k1, k2, k3, fun hh => k4 (by unfold tameP at hh; simpa only [hdst, hg, hG] using hh)⟩
      · rename_i hG
        simp only [Option.some.injEq, Prod.mk.injEq, true_and] at he
        subst he
        simp only [hG] at ht
        split at ht
        · rename_i hst
          refine ⟨undef, fun t b => t ≠ d ∧ F t b, .inr ⟨guardP_ok h hg hG, rfl⟩, by rw [hdst]; exact h.putDat hd (val := undef) (v := .cnd false .bad) (.cnd _ _ _ (fun _ => rfl) (fun e => by cases e)) rfl rfl, ?_, fun hh t b hb => ?_⟩
          · exact still_not_mod hst
          · unfold tameP at hh
            simp only [hdst, hg, hG] at hh
            exact ⟨t, not_root h (by simpa using hh) hb, hb⟩
        · cases ht
      · cases he

/-- What an operation that is taken first as number 2 yields. -/
theorem takes2_ok {w : World} {S : Stable} {fr : Fr} {a : Act} {F : Nat → Nat → Prop} (hn : a.tmps.size = E.nt) (h : RP P base w0 S0 S fr gv a w F) (hT : TyOk P E.toEnv) {ops : Array Oper} {o : Oper} {fr' : Fr}
    (he : stepP E ops fr o = some (true, fr')) (ht : takesP E fr ops o = 2) :
    ∃ v F' g o' k, YieldsIf P ops (fun w' => ∀ i, i < k → w'.cell? ⟨g, o' + i, none⟩ = w.cell? ⟨g, o' + i, none⟩) o v a ∧ RP P base w0 S0 S fr' gv (a.put o.dst v) w F' ∧ modOp o.op = false ∧ (∃ s, F s g) ∧ ∀ t b, F t b → ∃ t', F' t' b := by
  unfold takesP at ht
  split at ht
  · cases ht
  · rename_i d hdst
    dsimp only at ht
    unfold stepP at he
    simp only [hdst] at he
    split at he
    · cases he
    rename_i hlt
    have hd : d < a.tmps.size := by rw [hn]; exact Nat.lt_of_not_le hlt
    have go : Region.wanted o (yielded ops a.tmps) = true → stepD E fr o d = some (true, fr') →
        ((if (modM E fr o d).isNone && (privApp E fr o d).isNone then (match privPure E fr o d with
          | some (some _) => if modOp o.op then 0 else 1
          | some none => 0
          | none => match privLoad E fr o d with
            | some (some _) => if (fr d).isRoot then 0 else 2
            | some none => 0
            | none => if stillOp o.op && (treesOf E.nt fr o.op.operands.toList).isEmpty && (makeQ E fr o d).isNone && (makeN E fr o d).isNone && (makeP E fr o d).isNone && (still E.toEnv fr true o).isSome && takeable E.toEnv fr true o then 1 else 0) else 0) : Nat) = 2 →
        ∃ v F' g o' k, YieldsIf P ops (fun w' => ∀ i, i < k → w'.cell? ⟨g, o' + i, none⟩ = w.cell? ⟨g, o' + i, none⟩) o v a ∧ RP P base w0 S0 S fr' gv (a.put o.dst v) w F' ∧ modOp o.op = false ∧ (∃ s, F s g) ∧ ∀ t b, F t b → ∃ t', F' t' b := by
      intro hw hs hk
      have hpa : privApp E fr o d = none := by
        cases hh : privApp E fr o d with
        | none => rfl
        | some r => rw [hh] at hk; simp at hk
      have hmo : modM E fr o d = none := by
        cases hh : modM E fr o d with
        | none => rfl
        | some r => rw [hh] at hk; simp at hk
      unfold stepD at hs
      rw [hmo] at hs hk
      simp only at hs
      unfold stepD0 privOp at hs
      rw [hpa] at hs hk
      simp only [Option.isNone_none, Bool.and_self, if_true] at hs hk
      split at hk
      · split at hk <;> cases hk
      · cases hk
      · rename_i hq
        rw [hq] at hs
        split at hk
        · rename_i q hq2
          rw [hq2] at hs
          simp only at hs
          obtain rfl := Option.some.inj hs
          split at hk
          · cases hk
          · rename_i hnr
            obtain ⟨x, k, g, o', hx, hF, _, v, k1, F', k2, k3⟩ := privLoad_ok hn h hT hd hq2
            refine ⟨v, F', g, o', k, .inl ⟨hw, fun w' hh => k1 w' (fun g1 o1 e i hi => ?_)⟩, by rw [hdst]; exact k2, ?_, hF, k3 (by simpa using hnr)⟩
            · rw [hx] at e
              cases e
              exact hh i hi
            · unfold privLoad at hq2
              split at hq2
              · rename_i hop; rw [hop]; rfl
              · cases hq2
        · cases hk
        · split at hk <;> cases hk
    split at he
    · rename_i hg
      simp only [hg] at ht
      exact go (by simp [Region.wanted, hg]) he ht
    · rename_i j want hg
      simp only [hg] at ht
      split at he
      · rename_i hG
        simp only [hG] at ht
        exact go (guardP_ok h hg hG) he ht
      · rename_i hG
        simp only [hG] at ht
        split at ht <;> cases ht
      · cases he

/-- What holds of all worlds that keep what is stable, and what was read. -/
def HeldL (ops : Array Oper) (listed : Array Bool) (w : World) (S : Stable) (G : List Pin) (W : Array Bool → World → Prop) : Prop :=
  ∀ l w', (∀ j, listed.getD j false = true → l.getD j false = true) → Keeps w S w' S → (∀ π ∈ G, depL ops l π.p ∨ π.holds w') → W l w'
def Anti (ops : Array Oper) (W : Array Bool → World → Prop) : Prop := ∀ i oi, ops[i]? = some oi → modOp oi.op = false → ∀ l w, W (l.setIfInBounds i true) w → W l w
def ClosedL (ops : Array Oper) (listed : Array Bool) : Prop := ∀ j oj, ops[j]? = some oj → listed.getD j false = true → ∀ e ∈ oj.after, Region.binds .any e = true → listed.getD e.on false = true

theorem closed_set {ops : Array Oper} {listed : Array Bool} {k : Nat} (hc : ClosedL ops listed) (hk : k ∈ Region.ready .any ops listed) : ClosedL ops (listed.setIfInBounds k true) := fun j oj hj hl e he hb => by
  obtain ⟨_, o, ho, hall⟩ := mem_ready.1 hk
  rcases getD_set_cases hl with rfl | hl
  · rw [ho] at hj
    obtain rfl := Option.some.inj hj
    exact getD_set_true (hall e he hb)
  · exact getD_set_true (hc j oj hj hl e he hb)

theorem none_behind {ops : Array Oper} {listed : Array Bool} {k : Nat} (hc : ClosedL ops listed) (hk : k ∈ Region.ready .any ops listed) : NoneBehind .any ops listed k := fun j oj hj hl e he hb heq => by
  have h1 := hc j oj hj hl e he hb
  have h0 := (mem_ready.1 hk).1
  rw [heq] at h1
  rcases Nat.lt_or_ge k listed.size with h' | h'
  · simp [h'] at h0 h1; rw [h0] at h1; cases h1
  · simp [Array.getElem?_eq_none h'] at h1

theorem wpAnyL_take {ops : Array Oper} {Q : Exit → Act → World → Prop} {W : Array Bool → World → Prop} {C : World → Prop} {i : Nat} {oi : Oper} {v : Value} {fuel : Nat} {listed : Array Bool} {a : Act} {w : World} (hi : ops[i]? = some oi)
    (hs : Region.noSelect ops = true) (hf : Region.free .any ops listed i = true) (hr : i ∈ Region.ready .any ops listed) (hQ : ∀ c a w, Q (.panic c) (a.put oi.dst v) w → Q (.panic c) a w)
    (hanti : ∀ l w, W (l.setIfInBounds i true) w → W l w) (hC : ∀ l w, NoneBehind .any ops l i → W l w → C w) (hcl : ClosedL ops listed) (hy : YieldsIf P ops C oi v a) (hc : C w) (hw : W (listed.setIfInBounds i true) w)
    (h : wpAnyL P .any ops Q W fuel (listed.setIfInBounds i true) (a.put oi.dst v) w) : wpAnyL P .any ops Q W (fuel + 1) listed a w :=
  wpAnyL_first hi (Region.noSelect_spec hs) hQ hanti hC fuel listed a w (Region.free_spec hi hf) hr (none_behind hcl hr) hy hc hw h

theorem evDrawP_ok (hT : TyOk P E.toEnv) (hF : ∀ w S, Keeps w0 S0 w S → EnvOk P E w S) {ops : Array Oper} (hsel : Region.noSelect ops = true) {Q : Exit → Act → World → Prop} (hQ : ∀ c a w, ¬ Q (.panic c) a w) {K : Fr → Option AV} {r : AV}
    (hK : ∀ fr' a' w', K fr' = some r → RRP P base w0 S0 E.nt gv fr' a' w' → Q .normal a' w') :
    ∀ (n m : Nat) (listed : Array Bool) (G : List Pin) (fr : Fr) (a : Act) (w : World) (S : Stable) (F : Nat → Nat → Prop) (W : Array Bool → World → Prop), evDrawP E ops n listed (G.map Pin.p) fr K = some r → a.tmps.size = E.nt →
      RP P base w0 S0 S fr gv a w F → (∀ π ∈ G, π.holds w ∧ ∃ t, F t π.g) → HeldL ops listed w S G W → Anti ops W → ClosedL ops listed → n ≤ m + 1 → wpAnyL P .any ops Q W m listed a w
  | 0, m, listed, G, fr, a, w, S, F, W, he, _, _, _, _, _, _, _ => by simp [evDrawP] at he
  | n + 1, m, listed, G, fr, a, w, S, F, W, he, hn, h, hG, hW, hA, hcl, hle => by
    simp only [evDrawP] at he
    split at he
    · rename_i hr
      exact wpAnyL_done hr (hK fr a w he ⟨hn, S, F, h⟩) m
    · rename_i i rs hr
      cases m with
      | zero =>
        exfalso
        obtain rfl : n = 0 := by omega
        have no : ∀ (k : Nat) (ps : List Nat), (match stepP E ops fr (ops.getD k default) with
          | some (ok, fr') => bif ok then splitB ops (ops.getD k default).dst fr' (fun fr2 => evDrawP E ops 0 (listed.setIfInBounds k true) ps fr2 K) else none
          | none => none) ≠ some r := fun k ps hh => by
          split at hh
          · rename_i ok fr' _
            cases ok with
            | false => cases hh
            | true => simp only [cond_true] at hh; obtain ⟨_, hh, _⟩ := splitB_ok hh; simp [evDrawP] at hh
          · cases hh
        split at he
        · exact no _ _ he
        · split at he
          · exact no _ _ he
          · replace he := (bothL_some _ _ he).1
            unfold evDrawGo at he
            split at he
            · exact no _ _ he
            · cases he
      | succ m =>
        have getOp : ∀ k, k ∈ Region.ready .any ops listed → ∃ o, ops[k]? = some o ∧ ops.getD k default = o := fun k hk => by
          obtain ⟨_, o, ho, _⟩ := mem_ready.1 hk
          obtain ⟨hlt, e⟩ := Array.getElem?_eq_some_iff.1 ho
          refine ⟨o, ho, ?_⟩
          unfold Array.getD
          rw [dif_pos hlt]
          exact e
        have ext : ∀ (k : Nat) (l : Array Bool), (∀ j : Nat, (listed.setIfInBounds k true).getD j false = true → l.getD j false = true) → ∀ j : Nat, listed.getD j false = true → l.getD j false = true := fun k l hl j hj => hl j (getD_set_true hj)
        split at he
        · -- one that yields the same in all worlds that keep what is stable
          rename_i k hk
          have hmem := List.mem_of_find?_eq_some hk
          have hprop := List.find?_some hk
          simp only [Bool.and_eq_true, beq_iff_eq, List.all_eq_true] at hprop
          obtain ⟨hfree, htk, hpins⟩ := hprop
          rw [← hr] at hmem
          obtain ⟨o, ho, hget⟩ := getOp k hmem
          rw [hget] at he htk hpins
          split at he
          · rename_i ok fr' hs
            cases ok with
            | false => cases he
            | true =>
              simp only [cond_true] at he
              obtain ⟨fr2, he, hr2⟩ := splitB_ok he
              obtain ⟨v, F', hy, hR, hmd, htm⟩ := takes1_ok hn h hT hs htk
              replace hR := hR.res1 hr2
              have hG' : ∀ π ∈ G, π.holds w ∧ ∃ t, F' t π.g := fun π hπ => by
                obtain ⟨h1, t, h2⟩ := hG π hπ
                have h3 := hpins π.p (List.mem_map_of_mem hπ)
                unfold pinOk at h3
                rw [hmd] at h3
                exact ⟨h1, htm (by simpa using h3) t π.g h2⟩
              have hrest := evDrawP_ok hT hF hsel hQ hK n m (listed.setIfInBounds k true) G fr2 (a.put o.dst v) w S F' (fun l w' => W l w' ∧ Keeps w S w' S) he (by rw [put_size, hn]) hR hG'
                (fun l w' hl hk' hp => ⟨hW l w' (ext k l hl) hk' hp, hk'⟩) (fun i oi hi hm l w' hh => ⟨hA i oi hi hm l w' hh.1, hh.2⟩) (closed_set hcl hmem) (by omega)
              refine wpAnyL_mono (W := fun l w' => W l w' ∧ Keeps w S w' S) (fun _ _ hh => hh.1) _ _ _ _ ?_
              refine wpAnyL_take ho hsel hfree hmem (fun c a w hq => absurd hq (hQ c _ w)) (fun l w' hh => ⟨hA k o ho hmd l w' hh.1, hh.2⟩) (C := fun w' => Keeps w S w' S) (fun l w' _ hh => hh.2) hcl hy (Keeps.refl w S)
                ⟨hW _ w (fun j hj => getD_set_true hj) (Keeps.refl w S) (fun π hπ => .inr (hG π hπ).1), Keeps.refl w S⟩ hrest
          · cases he
        · split at he
          · -- one that loads from a tree
            rename_i k hk
            have hmem := List.mem_of_find?_eq_some hk
            have hprop := List.find?_some hk
            simp only [Bool.and_eq_true, beq_iff_eq, List.all_eq_true] at hprop
            obtain ⟨hfree, htk, hpins⟩ := hprop
            rw [← hr] at hmem
            obtain ⟨o, ho, hget⟩ := getOp k hmem
            rw [hget] at he htk hpins
            split at he
            · rename_i ok fr' hs
              cases ok with
              | false => cases he
              | true =>
                simp only [cond_true] at he
                obtain ⟨fr2, he, hr2⟩ := splitB_ok he
                obtain ⟨v, F', g, o', kk, hy, hR, hmd, ⟨s, hFs⟩, htm⟩ := takes2_ok hn h hT hs htk
                replace hR := hR.res1 hr2
                let π0 : Pin := ⟨k, g, o', kk, fun i => w.cell? ⟨g, o' + i, none⟩⟩
                have hG' : ∀ π ∈ π0 :: G, π.holds w ∧ ∃ t, F' t π.g := fun π hπ => by
                  rcases List.mem_cons.1 hπ with rfl | hπ
                  · exact ⟨fun i _ => rfl, htm s g hFs⟩
                  · obtain ⟨h1, t, h2⟩ := hG π hπ
                    exact ⟨h1, htm t π.g h2⟩
                have hrest := evDrawP_ok hT hF hsel hQ hK n m (listed.setIfInBounds k true) (π0 :: G) fr2 (a.put o.dst v) w S F' (fun l w' => W l w' ∧ (depL ops l k ∨ π0.holds w')) he (by rw [put_size, hn]) hR hG'
                  (fun l w' hl hk' hp => ⟨hW l w' (ext k l hl) hk' (fun π hπ => hp π (List.mem_cons_of_mem _ hπ)), hp π0 (List.mem_cons_self ..)⟩)
                  (fun i oi hi hm l w' hh => ⟨hA i oi hi hm l w' hh.1, hh.2.imp (depL_anti hi hm) id⟩) (closed_set hcl hmem) (by omega)
                refine wpAnyL_mono (W := fun l w' => W l w' ∧ (depL ops l k ∨ π0.holds w')) (fun _ _ hh => hh.1) _ _ _ _ ?_
                refine wpAnyL_take ho hsel hfree hmem (fun c a w hq => absurd hq (hQ c _ w)) (fun l w' hh => ⟨hA k o ho hmd l w' hh.1, hh.2.imp (depL_anti ho hmd) id⟩) (C := fun w' => π0.holds w') (fun l w' hnb hh => ?_) hcl hy (fun _ _ => rfl)
                  ⟨hW _ w (fun j hj => getD_set_true hj) (Keeps.refl w S) (fun π hπ => .inr (hG π hπ).1), .inr (fun _ _ => rfl)⟩ hrest
                rcases hh.2 with ⟨j, oj, h1, h2, _, h4⟩ | h1
                · obtain ⟨e, he1, he2, he3⟩ := waitsOn_edge h4
                  exact absurd he3 (hnb j oj h1 h2 e he1 he2)
                · exact h1
            · cases he
          · -- whichever comes up
            rename_i hnone1 hnone2
            obtain ⟨he1, he2⟩ := bothL_some _ _ he
            refine wpAnyL_all hr (by simp) (fun j hj => ?_)
            have hmem : j ∈ Region.ready .any ops listed := by rw [hr]; exact hj
            replace he : evDrawGo E ops listed (G.map Pin.p) fr K (evDrawP E ops n) j = some r := by
              rcases List.mem_cons.1 hj with rfl | hj
              · exact he1
              · exact he2 _ (List.mem_map_of_mem hj)
            unfold evDrawGo at he
            · split at he
              · rename_i hpins
                obtain ⟨o, ho, hget⟩ := getOp j hmem
                rw [hget] at he hpins
                simp only [List.all_eq_true] at hpins
                split at he
                · rename_i ok fr' hs
                  cases ok with
                  | false => cases he
                  | true =>
                    simp only [cond_true] at he
                    obtain ⟨fr2, he, hr2⟩ := splitB_ok he
                    refine wpOp_of_step ho (stepP_ok hn h hT hF hs) (fun a' w' ⟨hn', S', F', hR, hk, htm⟩ => ?_)
                    replace hR := hR.res1 hr2
                    have hkw : Keeps w S w' S := fun b o hs => ⟨hs, (hk b o hs).2⟩
                    have hjl : (listed.setIfInBounds j true).getD j false = true := by
                      obtain ⟨h0, _⟩ := mem_ready.1 hmem
                      rcases Nat.lt_or_ge j listed.size with h' | h'
                      · simp [h']
                      · simp [Array.getElem?_eq_none h'] at h0
                    -- what becomes of the loads that were taken first
                    have pin : ∀ π ∈ G, (modOp o.op = true ∧ waitsOn o π.p = true) ∨ (tameP E ops fr o = true ∧ π.holds w' ∧ ∃ t, F' t π.g) := fun π hπ => by
                      have h3 := hpins π.p (List.mem_map_of_mem hπ)
                      unfold pinOk at h3
                      simp only [Bool.or_eq_true, Bool.and_eq_true] at h3
                      rcases h3 with h3 | h3
                      · obtain ⟨h1, t, h2⟩ := hG π hπ
                        obtain ⟨h4, h5⟩ := htm h3 t π.g h2
                        exact .inr ⟨h3, fun i hi => (cell_of_block h4 _).trans (h1 i hi), h5⟩
                      · exact .inl h3
                    refine ⟨hW _ w' (fun j' hj' => getD_set_true hj') hkw (fun π hπ => ?_), ?_⟩
                    · rcases pin π hπ with ⟨h1, h2⟩ | ⟨_, h1, _⟩
                      · exact .inl ⟨j, o, ho, hjl, h1, h2⟩
                      · exact .inr h1
                    · have hfil : ((G.filter fun π => !(modOp o.op && waitsOn o π.p)).map Pin.p) = (G.map Pin.p).filter fun p => !(modOp o.op && waitsOn o p) := by
                        rw [List.filter_map]; rfl
                      rw [← hfil] at he
                      refine evDrawP_ok hT hF hsel hQ hK n m (listed.setIfInBounds j true) _ fr2 a' w' S' F' W he hn' hR (fun π hπ => ?_) (fun l w2 hl hk2 hp => hW l w2 (ext j l hl) (fun b o hs => ⟨hs, ((hk2 b o (hk b o hs).1).2).trans (hk b o hs).2⟩) (fun π hπ => ?_)) hA (closed_set hcl hmem) (by omega)
                      · obtain ⟨h1, h2⟩ := List.mem_filter.1 hπ
                        rcases pin π h1 with ⟨h3, h4⟩ | ⟨_, h3, h4⟩
                        · rw [h3, h4] at h2; cases h2
                        · exact ⟨h3, h4⟩
                      · by_cases hmw : (modOp o.op && waitsOn o π.p) = true
                        · simp only [Bool.and_eq_true] at hmw
                          exact .inl ⟨j, o, ho, hl j hjl, hmw.1, hmw.2⟩
                        · exact hp π (List.mem_filter.2 ⟨hπ, by rw [Bool.not_eq_true']; exact Bool.eq_false_iff.2 hmw⟩)
                · cases he
              · cases he
end
end Go.Av
end

section
/-
  Code and functions, with private trees.
-/
namespace Go.Av
open Go.RowKit Go.Lib

/-- A list of operations, one behind the other. -/
def evOpsP (E : EnvP) (ops : Array Oper) : List Oper → Fr → (Fr → Option AV) → Option AV
  | [], fr, K => K fr
  | o :: rest, fr, K => match stepP E ops fr o with
    | some (ok, fr') => bif ok then splitB ops o.dst fr' (fun fr2 => evOpsP E ops rest fr2 K) else none
    | none => none

def cutVP (l : List Nat) : AV → AV
  | .padr s r => match keepsL l s with
    | true => .padr s r
    | false => .bad
  | .pval s r => match keepsL l s with
    | true => .pval s r
    | false => .bad
  | v => cutV l v
/-- Just the slots named. -/
def cutFP (o : Option (List Nat)) (fr : Fr) : Fr :=
  match o with
  | some l => frOf (l.map fun s => (s % 1000000, cutVP l (fr (s % 1000000))))
  | none => fr

def kBlockP (id : Nat) (o : Option (List Nat)) (K : Ex → Fr → Option AV) : Ex → Fr → Option AV
  | .normal, fr => K .normal (cutFP o fr)
  | .exit i, fr => if i = id then K .normal fr else K (.exit i) fr
  | .ret, fr => K .ret fr

noncomputable def evCP (E : EnvP) (lp : Code → (Ex → Fr → Option AV) → Fr → Option AV) : Code → (Ex → Fr → Option AV) → Fr → Option AV
  | .skip, K, fr => K .normal fr
  | .region id ops false, K, fr => evOpsP E ops ops.toList (openL (E.frz (id + 500000)) fr) (K .normal)
  | .region id ops true, K, fr => if Region.noSelect ops then evDrawP E ops (ops.size + 1) (Array.replicate ops.size false) [] (openL (E.frz (id + 500000)) fr) (K .normal) else none
  | .seq a b, K, fr => evCP E lp a (kSeq (evCP E lp b) K) fr
  | .cond c a b, K, fr => match rdo E.toEnv fr true 0 c with
    | (ok, .dat .bool t _) => bif ok then (bif t then evCP E lp a K fr else evCP E lp b K fr) else none
    | _ => none
  | .block id c, K, fr => evCP E lp c (kBlockP id (E.cutb id) K) fr
  | .loop c, K, fr => lp c K (cutFP (E.cuts (headId c)) (openL (E.frz (headId c)) fr))
  | .scope c, K, fr => evCP E lp c K fr
  | .label _, K, fr => K .normal fr
  | .exit id, K, fr => K (.exit id) (cutFP (E.cutb id) fr)
  | .ret, K, fr => K .ret (cutFP E.cutr fr)
  | _, _, _ => none

noncomputable def evLP (E : EnvP) : Nat → Code → (Ex → Fr → Option AV) → Fr → Option AV
  | 0, _, _, _ => none
  | n + 1, c, K, fr => evCP E (evLP E n) c (kSeq (fun K fr => evLP E n c K (cutFP (E.cuts (headId c)) fr)) K) fr

def resOpd : ResultVar → Operand
  | .tmp t => .tmp t
  | .cell t _ => .tmp t
def resultsP (E : EnvP) (rs : Array ResultVar) (fr : Fr) : Option AV :=
  match freezeL E.nt (treesOf E.nt fr (rs.toList.map resOpd)) fr with
  | some fr' => results' E.toEnv rs fr'
  | none => none

def kFnP (E : EnvP) (rs : Array ResultVar) : Ex → Fr → Option AV
  | .normal, fr => resultsP E rs fr
  | .ret, fr => resultsP E rs fr
  | .exit _, _ => none

/-- A function's body, from its arguments. -/
noncomputable def evFnP (E : EnvP) (n : Nat) (c : Code) (rs : Array ResultVar) (avs : List AV) : Option AV :=
  if E.nt < avs.length then none else evCP E (evLP E n) c (kFnP E rs) (fun t => (avs.getD t .bad).strip)

section
variable {base : Nat → Prop} {w0 : World} {S0 : Stable} {gv : Nat → Value} {P : Program} {E : EnvP}

theorem evOpsP_ok (hT : TyOk P E.toEnv) (hF : ∀ w S, Keeps w0 S0 w S → EnvOk P E w S) {ops : Array Oper} {Q : Exit → Act → World → Prop} {K : Fr → Option AV} {r : AV}
    (hK : ∀ fr' a' w', K fr' = some r → RRP P base w0 S0 E.nt gv fr' a' w' → Q .normal a' w') : ∀ (l : List Oper) (fr : Fr) (a : Act) (w : World), evOpsP E ops l fr K = some r → RRP P base w0 S0 E.nt gv fr a w → wpList P ops Q l a w
  | [], fr, a, w, he, hR => hK fr a w he hR
  | o :: rest, fr, a, w, he, ⟨hn, S, F, h⟩ => by
    simp only [evOpsP] at he
    cases hs : stepP E ops fr o with
    | none => rw [hs] at he; cases he
    | some p =>
      obtain ⟨ok, fr'⟩ := p
      rw [hs] at he
      simp only at he
      cases ok with
      | false => cases he
      | true =>
        simp only [cond_true] at he
        obtain ⟨fr2, he, hr2⟩ := splitB_ok he
        unfold wpList
        rcases stepP_ok hn h hT hF hs with ⟨hw, hd⟩ | ⟨hw, hR'⟩
        · rw [if_pos hw]
          exact .inl (hd _ _ fun a' w' ⟨hn', S', F', hR', _⟩ => evOpsP_ok hT hF hK rest fr2 a' w' he ⟨hn', S', F', hR'.res1 hr2⟩)
        · rw [hw]
          obtain ⟨hn', S', F', hR', _⟩ := hR'
          exact evOpsP_ok hT hF hK rest fr2 _ w he ⟨hn', S', F', hR'.res1 hr2⟩

theorem RP.drew {w : World} {S : Stable} {fr : Fr} {a : Act} {F : Nat → Nat → Prop} (h : RP P base w0 S0 S fr gv a w F) : RP P base w0 S0 S fr gv a { w with drawn := w.drawn + 1 } F := by
  have hR : R (fun k => base k ∨ ∃ t, F t k) { w with drawn := w.drawn + 1 } S S fr a { w with drawn := w.drawn + 1 } := (h.r.drew).rebase (fun k hk => hk)
  exact h.upd (fun _ => False) hR ⟨rfl, rfl, rfl, Nat.le_refl _, fun _ _ => rfl⟩ (fun _ _ _ => Iff.rfl) (drew_keeps w S) (fun _ _ _ => Iff.rfl) (fun _ _ _ _ => rfl) (fun _ _ _ _ _ => Iff.rfl) (fun _ _ => ⟨rfl, fun _ => ⟨rfl, rfl⟩⟩)
    (fun _ _ hf => hf.elim) (fun _ _ _ hf => hf.elim) (fun _ hf => hf.elim) (fun _ hf => hf.elim) (fun t s r ht => .inl ⟨fun hf => hf, ht, rfl⟩) (fun t s r ht => .inl ⟨fun hf => hf, ht, rfl⟩)

theorem cutVP_or (l : List Nat) (v : AV) : cutVP l v = cutV l v ∨ (v.isRef = true ∧ (cutVP l v = v ∨ cutVP l v = .bad)) := by
  cases v with
  | padr s r =>
    right
    refine ⟨rfl, ?_⟩
    simp only [cutVP]
    split
    · exact .inl rfl
    · exact .inr rfl
  | pval s r =>
    right
    refine ⟨rfl, ?_⟩
    simp only [cutVP]
    split
    · exact .inl rfl
    · exact .inr rfl
  | _ => exact .inl rfl

theorem frOf_cutP (fr : Fr) (l0 : List Nat) : ∀ (l : List Nat) (t : Nat), frOf (l.map fun s => (s % 1000000, cutVP l0 (fr (s % 1000000)))) t = if (l.map (· % 1000000)).contains t then cutVP l0 (fr t) else .bad
  | [], t => rfl
  | s :: l, t => by
    simp only [List.map_cons, frOf, List.contains_cons]
    by_cases e : t = s % 1000000
    · subst e; simp
    · rw [if_neg e, frOf_cutP fr l0 l t]
      simp [e]

theorem cutVP_root (l : List Nat) (v : AV) : (cutVP l v).isRoot = v.isRoot ∧ (v.isRoot = true → cutVP l v = v) := by
  cases v with
  | dat s x o =>
    refine ⟨?_, fun h => by cases h⟩
    cases o with
    | none => rfl
    | some p => simp only [cutVP, cutV]; split <;> rfl
  | badr s p => refine ⟨?_, fun h => by cases h⟩; simp only [cutVP, cutV]; split <;> rfl
  | padr s r => refine ⟨?_, fun h => by cases h⟩; simp only [cutVP]; split <;> rfl
  | pval s r => refine ⟨?_, fun h => by cases h⟩; simp only [cutVP]; split <;> rfl
  | _ => exact ⟨rfl, fun _ => rfl⟩

theorem cutVP_adr {l : List Nat} {v : AV} {s : Nat} {r : List PStep} (h : cutVP l v = .padr s r) : v = .padr s r ∧ keepsL l s = true := by
  cases v with
  | dat s x o => cases o with
    | none => cases h
    | some p => simp only [cutVP, cutV] at h; split at h <;> cases h
  | badr s p => simp only [cutVP, cutV] at h; split at h <;> cases h
  | padr s' r' =>
    simp only [cutVP] at h
    split at h
    · rename_i hk; cases h; exact ⟨rfl, hk⟩
    · cases h
  | pval s r => simp only [cutVP] at h; split at h <;> cases h
  | _ => cases h
theorem cutVP_val {l : List Nat} {v : AV} {s : Nat} {r : List PStep} (h : cutVP l v = .pval s r) : v = .pval s r ∧ keepsL l s = true := by
  cases v with
  | dat s x o => cases o with
    | none => cases h
    | some p => simp only [cutVP, cutV] at h; split at h <;> cases h
  | badr s p => simp only [cutVP, cutV] at h; split at h <;> cases h
  | pval s' r' =>
    simp only [cutVP] at h
    split at h
    · rename_i hk; cases h; exact ⟨rfl, hk⟩
    · cases h
  | padr s r => simp only [cutVP] at h; split at h <;> cases h
  | _ => cases h

theorem RP.cut {w : World} {S : Stable} {fr : Fr} {a : Act} {F : Nat → Nat → Prop} (h : RP P base w0 S0 S fr gv a w F) (o : Option (List Nat)) : ∃ F', RP P base w0 S0 S (cutFP o fr) gv a w F' := by
  cases o with
  | none => exact ⟨F, h⟩
  | some l =>
    have hat : ∀ t, cutFP (some l) fr t = if (l.map (· % 1000000)).contains t then cutVP l (fr t) else .bad := frOf_cutP fr l l
    have hat0 : ∀ t, cutF (some l) fr t = if (l.map (· % 1000000)).contains t then cutV l (fr t) else .bad := frOf_cut fr l l
    let X : Nat → Prop := fun t => (l.map (· % 1000000)).contains t = false
    refine ⟨fun t b => ¬ X t ∧ F t b, ?_⟩
    have hR := (h.r.cut (some l)).repriv (fr' := cutFP (some l) fr) (fun t => by
      rw [hat, hat0]
      split
      · rcases cutVP_or l (fr t) with e | ⟨e1, e2⟩
        · exact .inl e
        · right
          have hv : (fr t).vague = true := isRef_vague e1
          have hc : cutV l (fr t) = fr t := by generalize fr t = av at e1; cases av <;> first | rfl | cases e1
          rw [hc]
          refine ⟨hv, ?_⟩
          rcases e2 with e2 | e2
          · rw [e2]; exact hv
          · rw [e2]; rfl
      · exact .inl rfl)
    have hX : ∀ t, ¬ X t → (l.map (· % 1000000)).contains t = true := fun t ht => by
      cases hc : (l.map (· % 1000000)).contains t with
      | true => rfl
      | false => exact absurd hc ht
    refine h.upd X (hR.rebase (fun k hk => hk.imp id (fun ⟨t, ht⟩ => ⟨t, ht.2⟩))) (Kept.refl _ _) (fun _ _ _ => Iff.rfl) (Keeps.refl _ _) (fun t ht b => ⟨(·.2), fun hh => ⟨ht, hh⟩⟩) (fun _ _ _ _ => rfl) (fun _ _ _ _ _ => Iff.rfl)
      (fun t ht => ?_) (fun t b ht hh => absurd ht hh.1) (fun t t' b ht _ hh => absurd ht hh.1) (fun t ht _ b hh => absurd ht hh.1) (fun t ht hh => ?_) (fun t s r ht => ?_) (fun t s r ht => ?_)
    · rw [hat, hX t ht]
      obtain ⟨e1, e2⟩ := cutVP_root l (fr t)
      exact ⟨e1, fun hh => ⟨e2 hh, rfl⟩⟩
    · have hc : (l.map (· % 1000000)).contains t = false := ht
      rw [hat, hc] at hh
      cases hh
    · rw [hat] at ht
      split at ht
      · obtain ⟨e1, e2⟩ := cutVP_adr ht
        exact .inl ⟨(fun hx => by have hc : (l.map (· % 1000000)).contains s = false := hx; rw [keepsL_in e2] at hc; cases hc), e1, rfl⟩
      · cases ht
    · rw [hat] at ht
      split at ht
      · obtain ⟨e1, e2⟩ := cutVP_val ht
        exact .inl ⟨(fun hx => by have hc : (l.map (· % 1000000)).contains s = false := hx; rw [keepsL_in e2] at hc; cases hc), e1, rfl⟩
      · cases ht

theorem RRP.cut {n : Nat} {fr : Fr} {a : Act} {w : World} (h : RRP P base w0 S0 n gv fr a w) (o : Option (List Nat)) : RRP P base w0 S0 n gv (cutFP o fr) a w := by
  obtain ⟨hn, S, F, h⟩ := h
  obtain ⟨F', h'⟩ := h.cut o
  exact ⟨hn, S, F', h'⟩

theorem RRP.opens {n : Nat} {fr : Fr} {a : Act} {w : World} (h : RRP P base w0 S0 n gv fr a w) (l : List Nat) : RRP P base w0 S0 n gv (openL l fr) a w := by
  obtain ⟨hn, S, F, h⟩ := h
  obtain ⟨S', h', _⟩ := RP.openL l fr S h
  exact ⟨hn, S', F, h'⟩

/-- What is asked of all that may come behind a piece of code. -/
structure GoesP (P : Program) (E : EnvP) (base : Nat → Prop) (w0 : World) (S0 : Stable) (gv : Nat → Value) (K : Ex → Fr → Option AV) (r : AV) (Q : Exit → Act → World → Prop) : Prop where
  panics : ∀ c a w, ¬ Q (.panic c) a w
  go : ∀ ex fr a w, K ex fr = some r → RRP P base w0 S0 E.nt gv fr a w → Q (exOf ex) a w

theorem evCP_ok (hT : TyOk P E.toEnv) (hF : ∀ w S, Keeps w0 S0 w S → EnvOk P E w S) (hm : P.follows .mixedOrders = true) {r : AV} {N : Nat} {lp : Code → (Ex → Fr → Option AV) → Fr → Option AV}
    (hlp : ∀ c K Q fr a w, lp c K fr = some r → GoesP P E base w0 S0 gv K r Q → RRP P base w0 S0 E.nt gv fr a w → Code.rounds P c Q N a w) :
    ∀ (c : Code) (K : Ex → Fr → Option AV) (Q : Exit → Act → World → Prop) (fr : Fr) (a : Act) (w : World), evCP E lp c K fr = some r → GoesP P E base w0 S0 gv K r Q → RRP P base w0 S0 E.nt gv fr a w → c.wp P Q a w
  | .skip, K, Q, fr, a, w, he, hK, hR => wp_skip (hK.go .normal fr a w he hR)
  | .region id ops false, K, Q, fr, a, w, he, hK, hR =>
    wp_region_list (evOpsP_ok hT hF (fun fr' a' w' h1 h2 => hK.go .normal fr' a' w' h1 h2) ops.toList _ a w he (hR.opens _))
  | .region id ops true, K, Q, fr, a, w, he, hK, hR => by
    simp only [evCP] at he
    split at he
    · rename_i hsel
      obtain ⟨hn, S, F, h⟩ := hR.opens (E.frz (id + 500000))
      exact wp_region_L (W := fun _ w' => Keeps { w with drawn := w.drawn + 1 } S w' S) hm (evDrawP_ok hT hF hsel hK.panics (fun fr' a' w' h1 h2 => hK.go .normal fr' a' w' h1 h2) _ _ _ [] _ a _ S F _ he hn h.drew (fun _ hπ => by cases hπ)
        (fun _ w' _ hk _ => hk) (fun _ _ _ _ _ _ hh => hh) (fun j oj hj hl => by simp [Array.getElem?_replicate] at hl; split at hl <;> simp at hl) (Nat.le_refl _))
    · cases he
  | .seq x y, K, Q, fr, a, w, he, hK, hR => by
    refine wp_seq (evCP_ok hT hF hm hlp x _ _ fr a w he ⟨fun c a w => hK.panics c a w, fun ex fr' a' w' h1 h2 => ?_⟩ hR)
    cases ex with
    | normal => exact evCP_ok hT hF hm hlp y K Q fr' a' w' h1 hK h2
    | exit id => exact hK.go (.exit id) fr' a' w' h1 h2
    | ret => exact hK.go .ret fr' a' w' h1 h2
  | .cond c x y, K, Q, fr, a, w, he, hK, hR => by
    simp only [evCP] at he
    split at he
    · rename_i ok t o hc
      cases ok with
      | false => cases he
      | true =>
        simp only [cond_true] at he
        obtain ⟨hn, S, F, h⟩ := hR
        have hb := dat_bool (rdo_ok h.r hc).1
        cases t with
        | true => exact wp_cond hb (evCP_ok hT hF hm hlp x K Q fr a w he hK ⟨hn, S, F, h⟩)
        | false => exact wp_cond hb (evCP_ok hT hF hm hlp y K Q fr a w he hK ⟨hn, S, F, h⟩)
    · cases he
  | .block id c, K, Q, fr, a, w, he, hK, hR => by
    refine wp_block (evCP_ok hT hF hm hlp c _ _ fr a w he ⟨fun c a w => hK.panics c a w, fun ex fr' a' w' h1 h2 => ?_⟩ hR)
    cases ex with
    | normal => exact hK.go .normal _ a' w' h1 (h2.cut _)
    | exit i =>
      simp only [exOf, Exit.inBlock]
      simp only [kBlockP] at h1
      split at h1
      · rename_i hi
        rw [if_pos hi]
        exact hK.go .normal fr' a' w' h1 h2
      · rename_i hi
        rw [if_neg hi]
        exact hK.go (.exit i) fr' a' w' h1 h2
    | ret => exact hK.go .ret fr' a' w' h1 h2
  | .loop c, K, Q, fr, a, w, he, hK, hR => wp_loop_rounds N (hlp c K Q _ a w he hK ((hR.opens _).cut _))
  | .exit id, K, Q, fr, a, w, he, hK, hR => wp_exit (hK.go (.exit id) _ a w he (hR.cut _))
  | .ret, K, Q, fr, a, w, he, hK, hR => wp_ret (hK.go .ret _ a w he (hR.cut _))
  | .rangeFunc _ _ _ _, K, Q, fr, a, w, he, hK, hR => by simp [evCP] at he
  | .scope c, K, Q, fr, a, w, he, hK, hR => wp_scope_straight (evCP_ok hT hF hm hlp c K _ fr a w he ⟨fun c a w => hK.panics c a w, fun ex fr' a' w' h1 h2 => by
      cases ex with
      | normal => exact hK.go .normal fr' a' w' h1 h2
      | exit id => exact hK.go (.exit id) fr' a' w' h1 h2
      | ret => exact hK.go .ret fr' a' w' h1 h2⟩ hR)
  | .label _, K, Q, fr, a, w, he, hK, hR => wp_label (hK.go .normal fr a w he hR)
  | .goto _, K, Q, fr, a, w, he, hK, hR => by simp [evCP] at he
  | .refuse _, K, Q, fr, a, w, he, hK, hR => by simp [evCP] at he

theorem evLP_ok (hT : TyOk P E.toEnv) (hF : ∀ w S, Keeps w0 S0 w S → EnvOk P E w S) (hm : P.follows .mixedOrders = true) {r : AV} :
    ∀ (n : Nat) (c : Code) (K : Ex → Fr → Option AV) (Q : Exit → Act → World → Prop) (fr : Fr) (a : Act) (w : World), evLP E n c K fr = some r → GoesP P E base w0 S0 gv K r Q → RRP P base w0 S0 E.nt gv fr a w → Code.rounds P c Q n a w
  | 0, c, K, Q, fr, a, w, he, _, _ => by simp [evLP] at he
  | n + 1, c, K, Q, fr, a, w, he, hK, hR => by
    rw [rounds_succ]
    simp only [evLP] at he
    refine evCP_ok hT hF hm (evLP_ok hT hF hm n) c _ _ fr a w he ⟨fun c a w => hK.panics c a w, fun ex fr' a' w' h1 h2 => ?_⟩ hR
    cases ex with
    | normal => exact evLP_ok hT hF hm n c K Q _ a' w' h1 hK (h2.cut _)
    | exit id => exact hK.go (.exit id) fr' a' w' h1 h2
    | ret => exact hK.go .ret fr' a' w' h1 h2

theorem resultsP_ok {w : World} {S : Stable} {fr : Fr} {a : Act} {F : Nat → Nat → Prop} (hn : a.tmps.size = E.nt) (h : RP P base w0 S0 S fr gv a w F) (hT : TyOk P E.toEnv) {fn : Func} {r : AV} (he : resultsP E fn.results fr = some r) :
    ∃ S', (∃ fr' F', RP P base w0 S0 S' fr' gv a w F') ∧ ∃ v, (results fn a.tmps).run P w = .ok v w ∧ ResRd base w S' v r := by
  unfold resultsP at he
  split at he
  · rename_i fr1 hf
    obtain ⟨S1, F1, h1, _, _⟩ := RP.freezes hn _ _ _ _ _ h hf
    obtain ⟨v, k1, k2⟩ := results_ok h1.r hT he
    exact ⟨S1, ⟨fr1, F1, h1⟩, v, k1, k2.rd, k2.nb, k2.np, fun l te hl => by
      obtain ⟨e, x, e1, xs, m1, m2, m3, m4⟩ := k2.own l te hl
      exact ⟨e, x, e1, xs, m1, m2, m3, fun b hb hB => m4 b hb (.inl hB)⟩⟩
  · cases he

theorem RP.start {w : World} {S : Stable} {fr : Fr} {a : Act} (h : R base w S S fr a w) (hv : ∀ t, (fr t).isPriv = false) (gv : Nat → Value) : RP P base w S S fr gv a w (fun _ _ => False) where
  r := h.rebase (fun k hk => hk.elim id (fun ⟨_, hf⟩ => hf.elim))
  below := Kept.refl _ _
  old := fun _ _ _ => Iff.rfl
  kp := Keeps.refl _ _
  nb := fun _ _ hf => hf.elim
  dj := fun _ _ _ _ hf => hf.elim
  nroot := fun _ _ _ hf => hf
  root := fun t ht => by have := hv t; unfold AV.isPriv at this; rw [ht] at this; cases this
  adr := fun t s r ht => by have := hv t; rw [ht] at this; cases this
  val := fun t s r ht => by have := hv t; rw [ht] at this; cases this

theorem strip_priv (v : AV) : v.strip.isPriv = false := by cases v <;> rfl

/-- A FUNCTION KEEPS ITS CONTRACT, if its reading says what the contract says. -/
theorem sound_of_evP {G : World → Stable → Prop} (hG : Stays G) (hT : TyOk P E.toEnv) (hF : ∀ w S, G w S → EnvOk P E w S) (hm : P.follows .mixedOrders = true) {f : FuncId} {fn : Func} {c : Code} (hf : P.funcs[f]? = some fn) (hb : fn.body = some c) (hnt : fn.ntmps = E.nt)
    (hname : (fn.name == "runtime.NumGoroutine") = false) {spec : List AV → Bool × AV} (hspec : ∀ avs r, spec avs = (true, r) → ∃ n, evFnP E n c fn.results avs = some r) : SoundG G P f spec := by
  intro w S hg vals avs r hs hS ha
  obtain ⟨n, he⟩ := hspec avs r hs
  unfold evFnP at he
  split at he
  · cases he
  rename_i hle
  left
  constructor
  · unfold callFunc
    rw [Sem.run_bind]
    have hname' : ¬ fn.name = "runtime.NumGoroutine" := by simpa using hname
    simp [program, Sem.run, hf, hname', hb]
  · refine calls_of_wp hf hb ?_
    have hsz : (vals.toArray ++ Array.replicate (fn.ntmps - vals.toArray.size) undef).size = E.nt := by
      have := ha.1
      simp
      omega
    have hstart := RP.start (P := P) (R.start hS ha (fn.ntmps - vals.toArray.size)) (fun t => strip_priv _) (fun _ => undef)
    refine evCP_ok hT (fun w1 S1 hk => hF w1 S1 (hG _ _ _ _ hk hg)) hm (evLP_ok hT (fun w1 S1 hk => hF w1 S1 (hG _ _ _ _ hk hg)) hm n) c _ _ _ _ w he ⟨fun ch a w' hp => ?_, fun ex fr a w' h1 h2 => ?_⟩ ⟨hsz, S, _, hstart⟩
    · obtain ⟨_, v, e, _⟩ := hp
      cases e
    · obtain ⟨hn, S', F, h⟩ := h2
      cases ex with
      | normal =>
        obtain ⟨S1, ⟨fr1, F1, h3⟩, v, k1, k2⟩ := resultsP_ok hn h hT h1
        exact ⟨h.r.dfr, v, k1, v, rfl, S1, ⟨⟨h3.below.os, h3.below.tape, h3.below.output, h3.below.size, h3.below.block⟩, h3.old, h3.r.slt⟩, k2⟩
      | exit id => cases h1
      | ret =>
        obtain ⟨S1, ⟨fr1, F1, h3⟩, v, k1, k2⟩ := resultsP_ok hn h hT h1
        exact ⟨h.r.dfr, v, k1, v, rfl, S1, ⟨⟨h3.below.os, h3.below.tape, h3.below.output, h3.below.size, h3.below.block⟩, h3.old, h3.r.slt⟩, k2⟩

/-- A contract out of a reading: what the reading says, or that without the owner. -/
theorem sound_of_evP' {G : World → Stable → Prop} (hG : Stays G) (hT : TyOk P E.toEnv) (hF : ∀ w S, G w S → EnvOk P E w S) (hm : P.follows .mixedOrders = true) {f : FuncId} {fn : Func} {c : Code} (hf : P.funcs[f]? = some fn) (hb : fn.body = some c) (hnt : fn.ntmps = E.nt)
    (hname : (fn.name == "runtime.NumGoroutine") = false) {spec : List AV → Bool × AV} (hspec : ∀ avs r, spec avs = (true, r) → ∃ n r', evFnP E n c fn.results avs = some r' ∧ (r' = r ∨ r'.strip = r)) : SoundG G P f spec := by
  classical
  let spec0 : List AV → Bool × AV := fun avs => if h : ∃ n r', evFnP E n c fn.results avs = some r' ∧ (r' = (spec avs).2 ∨ r'.strip = (spec avs).2) then (true, h.choose_spec.choose) else (false, .bad)
  have h0 : SoundG G P f spec0 := sound_of_evP hG hT hF hm hf hb hnt hname fun avs r hs => by
    simp only [spec0] at hs
    split at hs
    · rename_i h
      simp only [Prod.mk.injEq, true_and] at hs
      subst hs
      exact ⟨_, h.choose_spec.choose_spec.1⟩
    · cases hs
  refine fun w S hg => (h0 w S hg).strip fun avs r hs => ?_
  obtain ⟨n, r', k1, k2⟩ := hspec avs r hs
  have h : ∃ n r', evFnP E n c fn.results avs = some r' ∧ (r' = (spec avs).2 ∨ r'.strip = (spec avs).2) := ⟨n, r', k1, by rw [hs]; exact k2⟩
  refine ⟨h.choose_spec.choose, by simp only [spec0]; rw [dif_pos h], ?_⟩
  have e2 : (spec avs).2 = r := by rw [hs]
  rcases h.choose_spec.choose_spec.2 with h1 | h1
  · exact .inl (h1.trans e2)
  · exact .inr (h1.trans e2)
end
end Go.Av
end

section
/-
  Functions that turn what they are given a root of: a contract out of a reading.
-/
namespace Go.Av
open Go.RowKit

/-- The first frame: where an argument leads to a root, the root lies in a slot of its own, behind the function's. -/
def seedM (n : Nat) (avs : List AV) : Fr := fun t =>
  if t < n then (match rootOf (avs.getD t .bad) with
    | some (r, _) => .padr (n + t) r
    | none => (avs.getD t .bad).strip)
  else match rootOf (avs.getD (t - n) .bad) with
    | some (_, ρ) => ρ
    | none => .bad

/-- What has become of the roots, and whether they are still of their kind. -/
def ghostsM (n : Nat) (fr : Fr) : Nat → List AV → Bool × List AV
  | _, [] => (true, [])
  | i, av :: avs => match rootOf av with
    | some (_, ρ) => (sameRoot ρ (fr (n + i)) && (ghostsM n fr (i + 1) avs).1, fr (n + i) :: (ghostsM n fr (i + 1) avs).2)
    | none => ((ghostsM n fr (i + 1) avs).1, .bad :: (ghostsM n fr (i + 1) avs).2)

def resultsM (E : EnvP) (rs : Array ResultVar) (avs : List AV) (fr : Fr) : Option AV :=
  match freezeL E.nt (treesOf E.nt fr (rs.toList.map resOpd)) fr with
  | some fr' => match results' E.toEnv rs fr' with
    | some r => bif (ghostsM E.nt fr' 0 avs).1 then some (.tup (r.strip :: (ghostsM E.nt fr' 0 avs).2)) else none
    | none => none
  | none => none

def kFnM (E : EnvP) (rs : Array ResultVar) (avs : List AV) : Ex → Fr → Option AV
  | .normal, fr => resultsM E rs avs fr
  | .ret, fr => resultsM E rs avs fr
  | .exit _, _ => none

/-- A function's body, from its arguments. -/
noncomputable def evFnM (E : EnvP) (n : Nat) (c : Code) (rs : Array ResultVar) (avs : List AV) : Option AV :=
  if E.nt < avs.length then none else evCP E (evLP E n) c (kFnM E rs avs) (seedM E.nt avs)

theorem ghostsM_ok {n : Nat} {fr : Fr} : ∀ (avs : List AV) (i : Nat), (ghostsM n fr i avs).1 = true → ∀ k av r ρ, avs[k]? = some av → rootOf av = some (r, ρ) → sameRoot ρ (fr (n + (i + k))) = true ∧ (ghostsM n fr i avs).2.getD k .bad = fr (n + (i + k))
  | [], i, _, k, av, r, ρ, hk, _ => by simp at hk
  | a :: avs, i, h, k, av, r, ρ, hk, hr => by
    cases k with
    | zero =>
      simp only [List.getElem?_cons_zero, Option.some.injEq] at hk
      subst hk
      simp only [ghostsM, hr, Bool.and_eq_true] at h ⊢
      exact ⟨h.1, rfl⟩
    | succ k =>
      simp only [List.getElem?_cons_succ] at hk
      have h' : (ghostsM n fr (i + 1) avs).1 = true := by
        simp only [ghostsM] at h
        split at h
        · simp only [Bool.and_eq_true] at h; exact h.2
        · exact h
      obtain ⟨k1, k2⟩ := ghostsM_ok avs (i + 1) h' k av r ρ hk hr
      rw [show i + (k + 1) = i + 1 + k by omega]
      refine ⟨k1, ?_⟩
      rw [← k2]
      simp only [ghostsM]
      split <;> rfl

theorem freeze_ghost {n s : Nat} {fr fr' : Fr} (h : fr.freeze n s = some fr') {t : Nat} (ht : n ≤ t) (hr : (fr t).isRoot = true) : fr' t = fr t := by
  unfold Fr.freeze at h
  split at h
  · cases h
  rename_i hs
  have hts : t ≠ s := fun e => hs (e ▸ ht)
  split at h
  · simp only [Option.some.injEq] at h
    subst h
    simp only [if_neg hts]
    generalize fr t = av at hr
    cases av <;> first | rfl | cases hr
  · simp only [Option.some.injEq] at h
    subst h
    simp only [if_neg hts]
    generalize fr t = av at hr
    cases av <;> first | rfl | cases hr
  · cases h

theorem rootOf_root {av : AV} {r : List PStep} {ρ : AV} (h : rootOf av = some (r, ρ)) : ρ.isRoot = true ∧ sameRoot ρ ρ = true ∧ topRef r = true := by
  unfold rootOf at h
  split at h
  · cases h; exact ⟨rfl, by simp [sameRoot], rfl⟩
  · cases h; exact ⟨rfl, rfl, rfl⟩
  · cases h; exact ⟨rfl, by simp [sameRoot], rfl⟩
  · cases h; exact ⟨rfl, rfl, rfl⟩
  · cases h

section
variable {P : Program} {E : EnvP}

/-- A reference to a root that an argument leads to. -/
theorem RootAny.ref {w : World} {S : Stable} {X : Nat → Prop} {av : AV} {r : List PStep} {ρ : AV} {y v : Value} (h : RootAny P w S X ρ y) (hr : rootOf av = some (r, ρ)) (hc : cloV r y v) : RefAt w ρ y r v X := by
  obtain ⟨h1, h2, h3⟩ := rootOf_root hr
  cases h with
  | tree _ _ p x hh c k1 k2 =>
    cases k1 with
    | pv _ _ _ _ hv => cases h2
    | pbox _ _ _ b =>
      have hb := (k2.blk b rfl).1
      refine .inl ⟨p, x, hh, .blk b 0, .pbox _ _ _ _, ?_⟩
      cases r with
      | nil =>
        have hl : locP w p (.blk b 0) [] = some (p, .blk b 0) := by cases p <;> rfl
        have hs : spineP w p (.blk b 0) [] = [] := by cases p <;> rfl
        have hi : inPP p x [] := by cases p <;> trivial
        exact .inl ⟨p, b, 0, hi, hl, hc, (fun k hk => by rw [hs] at hk; cases hk), hb⟩
      | cons a r => exact .inr ⟨h3, by simp, b, rfl, hc, hb⟩
  | itr s pos b bs _ _ _ _ => cases h2
  | abs s V x _ hV hI => exact .inr ⟨s, V, x, rfl, h3, hc⟩

open Classical in
/-- A FUNCTION THAT TURNS ROOTS KEEPS ITS CONTRACT, if its reading says what the contract says. -/
theorem soundM_of_ev {G : World → Stable → Prop} (hG : Stays G) (hT : TyOk P E.toEnv) (hF : ∀ w S, G w S → EnvOk P E w S) (hm : P.follows .mixedOrders = true) {f : FuncId} {fn : Func} {c : Code} (hf : P.funcs[f]? = some fn) (hb : fn.body = some c) (hnt : fn.ntmps = E.nt)
    (hname : (fn.name == "runtime.NumGoroutine") = false) {spec : List AV → Bool × AV} (hspec : ∀ avs r, spec avs = (true, r) → ∃ n, evFnM E n c fn.results avs = some r) : SoundM G P f spec := by
  intro w S hg vals avs r gs F hs hS hl hargs hFl hFd
  obtain ⟨n, he⟩ := hspec avs _ hs
  unfold evFnM at he
  split at he
  · cases he
  rename_i hle
  left
  constructor
  · unfold callFunc
    rw [Sem.run_bind]
    have hname' : ¬ fn.name = "runtime.NumGoroutine" := by simpa using hname
    simp [program, Sem.run, hf, hname', hb]
  refine calls_of_wp hf hb ?_
  have hsz : (vals.toArray ++ Array.replicate (fn.ntmps - vals.toArray.size) undef).size = E.nt := by
    simp
    omega
  -- the roots
  have hroot : ∀ i v av r ρ, vals[i]? = some v → avs[i]? = some av → rootOf av = some (r, ρ) → ∃ y, cloV r y v ∧ RootAny P w S (F i) ρ y := fun i v av r ρ hv hav hr => by
    have := hargs i v av hv hav
    unfold ArgM at this
    rw [hr] at this
    exact this
  let ghost : Nat → Value := fun i => if h : ∃ y, ∃ r ρ, rootOf (avs.getD i .bad) = some (r, ρ) ∧ cloV r y (vals.getD i undef) then h.choose else undef
  let gv : Nat → Value := fun t => ghost (t - E.nt)
  have hgv : ∀ i r ρ y, rootOf (avs.getD i .bad) = some (r, ρ) → cloV r y (vals.getD i undef) → gv (E.nt + i) = y := fun i r ρ y hr hy => by
    have hx : ∃ y, ∃ r ρ, rootOf (avs.getD i .bad) = some (r, ρ) ∧ cloV r y (vals.getD i undef) := ⟨y, r, ρ, hr, hy⟩
    show ghost (E.nt + i - E.nt) = y
    rw [Nat.add_sub_cancel_left]
    simp only [ghost]
    rw [dif_pos hx]
    obtain ⟨r', ρ', h1, h2⟩ := hx.choose_spec
    rw [hr] at h1
    simp only [Option.some.injEq, Prod.mk.injEq] at h1
    obtain ⟨rfl, rfl⟩ := h1
    exact cloV_inj _ _ _ _ h2 hy
  have some_of : ∀ i r ρ, rootOf (avs.getD i .bad) = some (r, ρ) → ∃ v, vals[i]? = some v ∧ vals.getD i undef = v ∧ avs[i]? = some (avs.getD i .bad) := fun i r ρ hr => by
    rcases Nat.lt_or_ge i avs.length with hlt | hge
    · refine ⟨vals[i]'(by omega), List.getElem?_eq_getElem _, ?_, ?_⟩
      · simp only [List.getD, List.getElem?_eq_getElem (show i < vals.length by omega), Option.getD_some]
      · simp only [List.getD, List.getElem?_eq_getElem hlt, Option.getD_some]
    · have : avs.getD i .bad = .bad := by simp [List.getD, List.getElem?_eq_none hge]
      rw [this] at hr
      cases hr
  have hFlt : ∀ i b, F i b → b < w.heap.size := fun i b hb => by
    rcases Nat.lt_or_ge i avs.length with hlt | hge
    · have hv : vals[i]? = some (vals[i]'(by omega)) := List.getElem?_eq_getElem _
      have hav : avs[i]? = some avs[i] := List.getElem?_eq_getElem _
      cases hr : rootOf avs[i] with
      | none =>
        have := hargs i _ _ hv hav
        unfold ArgM at this
        rw [hr] at this
        exact absurd hb (this.2 b)
      | some p =>
        obtain ⟨y, _, k⟩ := hroot i _ _ p.1 p.2 hv hav hr
        exact k.lt (rootOf_root hr).2.1 hb
    · exact absurd hb (hFl i b hge)
  let base : Nat → Prop := fun k => k < w.heap.size ∧ ¬ ∃ i, F i k
  let F0 : Nat → Nat → Prop := fun t b => E.nt ≤ t ∧ F (t - E.nt) b
  let a0 : Act := { tmps := vals.toArray ++ Array.replicate (fn.ntmps - vals.toArray.size) undef, defers := [] }
  have htv : ∀ i, tv gv a0 (E.nt + i) = gv (E.nt + i) := fun i => by
    unfold tv
    have hnl : ¬ E.nt + i < a0.tmps.size := by
      show ¬ E.nt + i < (vals.toArray ++ Array.replicate (fn.ntmps - vals.toArray.size) undef).size
      rw [hsz]
      omega
    unfold Array.getD
    rw [dif_neg hnl]
  have htlt : ∀ i, i < vals.length → tv gv a0 i = vals.getD i undef := fun i hi => by
    have hil : i < a0.tmps.size := by
      show i < (vals.toArray ++ Array.replicate (fn.ntmps - vals.toArray.size) undef).size
      rw [hsz]
      omega
    unfold tv Array.getD
    rw [dif_pos hil]
    show (vals.toArray ++ Array.replicate (fn.ntmps - vals.toArray.size) undef)[i] = _
    rw [Array.getElem_append_left (by simpa using hi)]
    simp [List.getD, List.getElem?_eq_getElem hi]
  have hstart : RP P base w S S (seedM E.nt avs) gv a0 w F0 := by
    let avs0 := avs.map fun av => if (rootOf av).isSome then AV.bad else av
    have ha0 : ArgsRd w S vals avs0 := by
      refine ⟨by simp [avs0, hl], fun i v av hv hav => ?_⟩
      simp only [avs0, List.getElem?_map, Option.map_eq_some_iff] at hav
      obtain ⟨av', hav, rfl⟩ := hav
      split
      · exact .bad _
      · rename_i hno
        have := hargs i v av' hv hav
        unfold ArgM at this
        have hno' : rootOf av' = none := by simpa using hno
        rw [hno'] at this
        exact this.1
    have hR := R.start hS ha0 (fn.ntmps - vals.toArray.size)
    have get0 : ∀ t, avs0.getD t .bad = if (rootOf (avs.getD t .bad)).isSome then .bad else avs.getD t .bad := fun t => by
      rcases Nat.lt_or_ge t avs.length with hlt | hge
      · simp [avs0, List.getD, List.getElem?_eq_getElem hlt]
      · simp [avs0, List.getD, List.getElem?_eq_none hge, rootOf]
    have hR1 := hR.repriv (fr' := seedM E.nt avs) (fun t => by
      simp only [get0]
      unfold seedM
      by_cases ht : t < E.nt
      · rw [if_pos ht]
        cases hr : rootOf (avs.getD t .bad) with
        | none => exact .inl (by simp)
        | some p => exact .inr ⟨by simp [AV.strip, AV.vague], rfl⟩
      · rw [if_neg ht]
        have hb : avs.getD t .bad = .bad := by simp [List.getD, List.getElem?_eq_none (show avs.length ≤ t by omega)]
        rw [hb]
        cases hr : rootOf (avs.getD (t - E.nt) .bad) with
        | none => exact .inl (by simp [rootOf, AV.strip])
        | some p => exact .inr ⟨by simp [rootOf, AV.strip, AV.vague], vague_of_root (rootOf_root (ρ := p.2) (r := p.1) hr).1⟩)
    exact {
      r := hR1.rebase (fun k hk => hk.elim (·.1) (fun ⟨t, ht⟩ => hFlt _ _ ht.2))
      below := Kept.refl _ _
      old := fun _ _ _ => Iff.rfl
      kp := Keeps.refl _ _
      nb := fun t b hb hB => hB.2 ⟨_, hb.2⟩
      dj := fun t t' b hne h1 h2 => hFd (t - E.nt) (t' - E.nt) b (fun e => hne (by have := h1.1; have := h2.1; omega)) h1.2 h2.2
      nroot := fun t ht b hb => by
        obtain ⟨hnt', hb⟩ := hb
        have hns : ¬ t < E.nt := by omega
        simp only [seedM, if_neg hns] at ht
        cases hr : rootOf (avs.getD (t - E.nt) .bad) with
        | none =>
          rcases Nat.lt_or_ge (t - E.nt) avs.length with hlt | hge
          · have hav : avs[t - E.nt]? = some (avs.getD (t - E.nt) .bad) := by simp [List.getD, List.getElem?_eq_getElem hlt]
            have := hargs (t - E.nt) (vals[t - E.nt]'(by omega)) _ (List.getElem?_eq_getElem _) hav
            unfold ArgM at this
            rw [hr] at this
            exact this.2 b hb
          · exact hFl _ b hge hb
        | some p =>
          rw [hr] at ht
          rw [(rootOf_root (ρ := p.2) (r := p.1) hr).1] at ht
          cases ht
      root := fun t ht => by
        by_cases hlt : t < E.nt
        · exfalso
          simp only [seedM, if_pos hlt] at ht
          cases hr : rootOf (avs.getD t .bad) with
          | none =>
            rw [hr] at ht
            have := strip_priv (avs.getD t .bad)
            unfold AV.isPriv at this
            simp only at ht
            rw [ht] at this
            cases this
          | some p => rw [hr] at ht; cases ht
        · obtain ⟨i, rfl⟩ : ∃ i, t = E.nt + i := ⟨t - E.nt, by omega⟩
          simp only [seedM, if_neg hlt, Nat.add_sub_cancel_left] at ht ⊢
          cases hr : rootOf (avs.getD i .bad) with
          | none => rw [hr] at ht; cases ht
          | some p =>
            obtain ⟨v, hv, hvd, hav⟩ := some_of i p.1 p.2 hr
            obtain ⟨y, hy, k⟩ := hroot i v _ p.1 p.2 hv hav hr
            rw [htv, hgv i p.1 p.2 y hr (by rw [hvd]; exact hy)]
            have e : (F0 (E.nt + i)) = F i := funext fun b => propext ⟨fun hh => by have := hh.2; rwa [Nat.add_sub_cancel_left] at this, fun hh => ⟨by omega, by rwa [Nat.add_sub_cancel_left]⟩⟩
            rw [e]
            exact k
      adr := fun t s r ht => by
        by_cases hlt : t < E.nt
        · simp only [seedM, if_pos hlt] at ht
          cases hr : rootOf (avs.getD t .bad) with
          | none =>
            rw [hr] at ht
            simp only at ht
            have := strip_priv (avs.getD t .bad)
            rw [ht] at this
            cases this
          | some p =>
            rw [hr] at ht
            simp only [AV.padr.injEq] at ht
            obtain ⟨rfl, rfl⟩ := ht
            obtain ⟨v, hv, hvd, hav⟩ := some_of t p.1 p.2 hr
            obtain ⟨y, hy, k⟩ := hroot t v _ p.1 p.2 hv hav hr
            have hng : ¬ E.nt + t < E.nt := by omega
            have e1 : seedM E.nt avs (E.nt + t) = p.2 := by
              unfold seedM
              rw [if_neg hng, Nat.add_sub_cancel_left, hr]
            rw [e1, htv, hgv t p.1 p.2 y hr (by rw [hvd]; exact hy), htlt t (List.getElem?_eq_some_iff.1 hv).1, hvd]
            have e : (F0 (E.nt + t)) = F t := funext fun b => propext ⟨fun hh => by have := hh.2; rwa [Nat.add_sub_cancel_left] at this, fun hh => ⟨by omega, by rwa [Nat.add_sub_cancel_left]⟩⟩
            rw [e]
            exact k.ref hr hy
        · exfalso
          simp only [seedM, if_neg hlt] at ht
          cases hr : rootOf (avs.getD (t - E.nt) .bad) with
          | none => rw [hr] at ht; cases ht
          | some p =>
            rw [hr] at ht
            have := (rootOf_root (ρ := p.2) (r := p.1) hr).1
            simp only at ht
            rw [ht] at this
            cases this
      val := fun t s r ht => by
        exfalso
        by_cases hlt : t < E.nt
        · simp only [seedM, if_pos hlt] at ht
          cases hr : rootOf (avs.getD t .bad) with
          | none =>
            rw [hr] at ht
            simp only at ht
            have := strip_priv (avs.getD t .bad)
            rw [ht] at this
            cases this
          | some p => rw [hr] at ht; cases ht
        · simp only [seedM, if_neg hlt] at ht
          cases hr : rootOf (avs.getD (t - E.nt) .bad) with
          | none => rw [hr] at ht; cases ht
          | some p =>
            rw [hr] at ht
            have := (rootOf_root (ρ := p.2) (r := p.1) hr).1
            simp only at ht
            rw [ht] at this
            cases this }
  have fin : ∀ fr a w', resultsM E fn.results avs fr = some (.tup (r :: gs)) → RRP P base w S E.nt gv fr a w' → ∃ v, (results fn a.tmps).run P w' = .ok v w' ∧ a.defers = [] ∧
      ∃ (S' : Stable) (F' : Nat → Nat → Prop), TurnedBut (fun b => ∃ i, F i b) w S w' S' ∧ Rd w' S' v r ∧
      (∀ i v av, vals[i]? = some v → avs[i]? = some av → OutM P w' S' v av (gs.getD i .bad) (F' i)) ∧ (∀ i b, F' i b → (∃ j, F j b) ∨ w.heap.size ≤ b) ∧ ∀ i j b, i ≠ j → F' i b → ¬ F' j b := fun fr a w' hres ⟨hn, S', F1, h⟩ => by
    unfold resultsM at hres
    split at hres
    · rename_i fr1 hf
      obtain ⟨S1, F2, h1, _, _⟩ := RP.freezes hn _ _ _ _ _ h hf
      split at hres
      · rename_i r' hr'
        cases hgo : (ghostsM E.nt fr1 0 avs).1 with
        | false => rw [hgo] at hres; cases hres
        | true =>
          rw [hgo] at hres
          simp only [cond_true, Option.some.injEq, AV.tup.injEq, List.cons.injEq] at hres
          obtain ⟨rfl, rfl⟩ := hres
          obtain ⟨v, k1, k2⟩ := results_ok h1.r hT hr'
          refine ⟨v, k1, h.r.dfr, S1, fun i b => (∃ p, rootOf (avs.getD i .bad) = some p) ∧ F2 (E.nt + i) b, ⟨h1.below, fun b o hb hf => h1.old b o ⟨hb, hf⟩, h1.kp, h1.r.slt⟩, k2.rd.strip, fun i v av hv hav => ?_, fun i b hb => ?_, fun i j b hne h3 h4 => h1.dj (E.nt + i) (E.nt + j) b (by omega) h3.2 h4.2⟩
          · have hd : avs.getD i .bad = av := by simp [List.getD, hav]
            unfold OutM
            cases hr : rootOf av with
            | none =>
              intro b hb
              obtain ⟨⟨p, hp⟩, _⟩ := hb
              rw [hd, hr] at hp
              cases hp
            | some p =>
              obtain ⟨y, hy, _⟩ := hroot i v av p.1 p.2 hv hav hr
              refine ⟨y, hy, ?_⟩
              obtain ⟨g1, g2⟩ := ghostsM_ok avs 0 hgo i av p.1 p.2 hav hr
              rw [Nat.zero_add] at g1 g2
              rw [g2]
              have hro := h1.root (E.nt + i) (sameRoot_self g1).2.1
              have e1 : tv gv a (E.nt + i) = gv (E.nt + i) := by
                unfold tv
                unfold Array.getD
                rw [dif_neg (by omega)]
              have hvd : vals.getD i undef = v := by simp [List.getD, hv]
              rw [e1, hgv i p.1 p.2 y (by rw [hd]; exact hr) (by rw [hvd]; exact hy)] at hro
              have e2 : (fun b => (∃ p, rootOf (avs.getD i .bad) = some p) ∧ F2 (E.nt + i) b) = F2 (E.nt + i) := funext fun b => propext ⟨(·.2), fun hh => ⟨⟨p, by rw [hd]; exact hr⟩, hh⟩⟩
              show RootAny P w' S1 (fun b => (∃ p, rootOf (avs.getD i .bad) = some p) ∧ F2 (E.nt + i) b) _ _
              rw [e2]
              exact hro
          · have hnb := h1.nb (E.nt + i) b hb.2
            by_cases hx : ∃ j, F j b
            · exact .inl hx
            · refine .inr (Nat.le_of_not_lt fun hlt => hnb ⟨hlt, hx⟩)
      · cases hres
    · cases hres
  refine evCP_ok hT (fun w1 S1 hk => hF w1 S1 (hG _ _ _ _ hk hg)) hm (evLP_ok hT (fun w1 S1 hk => hF w1 S1 (hG _ _ _ _ hk hg)) hm n) c _ _ _ _ w he ⟨fun ch a w' hp => ?_, fun ex fr a w' h1 h2 => ?_⟩ ⟨hsz, S, F0, hstart⟩
  · obtain ⟨_, v, e, _⟩ := hp
    cases e
  · cases ex with
    | normal =>
      obtain ⟨v, k1, k2, k3⟩ := fin fr a w' h1 h2
      exact ⟨k2, v, k1, v, rfl, k3⟩
    | exit id => cases h1
    | ret =>
      obtain ⟨v, k1, k2, k3⟩ := fin fr a w' h1 h2
      exact ⟨k2, v, k1, v, rfl, k3⟩
end
end Go.Av
end

section
/-
  Plain facts that the readings' proofs share.
-/
namespace Go.Av

/-- A loop: whatever a round comes to, if what follows comes to what it is to. -/
theorem loop_rule {σ : Type} {L : Nat → σ → Option AV} {body : (σ → Option AV) → Nat → σ → Option AV} (h0 : ∀ n s, L (n + 1) s = body (L n) n s) {inv : σ → Prop} {μ : σ → Nat} {spec : σ → Option AV}
    (step : ∀ s next n, inv s → (∀ s', inv s' → μ s' < μ s → next s' = spec s') → body next n s = spec s) : ∀ n s, inv s → μ s < n → L n s = spec s
  | 0, s, _, h => by omega
  | n + 1, s, hi, h => by
    rw [h0]
    exact step s (L n) n hi fun s' hi' hm => loop_rule h0 step n s' hi' (by omega)

theorem getD_drop {α : Type} {l : List α} {i : Nat} {d : α} (h : i < l.length) : l.drop i = l.getD i d :: l.drop (i + 1) := by
  rw [List.drop_eq_getElem_cons h]
  simp [List.getD, h]
theorem i64_succ {i : Nat} (h : i < 4611686018427387904) : IntKind.wrap .i64 ((i : Int) + 1) = ((i + 1 : Nat) : Int) := by
  rw [IntWalk.i64_in _ (by omega)]; omega
theorem dec_lt {i n : Nat} : decide ((i : Int) < (n : Int)) = decide (i < n) := by rw [Bool.eq_iff_iff]; simp
theorem dec_nonneg (i : Nat) : decide ((0 : Int) ≤ (i : Int)) = true := by simp
theorem toNat_nat (i : Nat) : Int.toNat (i : Int) = i := by simp

/-- Room. -/
def lenOk {α : Type} (l : List α) : Bool := decide (l.length ≤ 1048576)
theorem lenOk_le {α : Type} {l : List α} (h : lenOk l = true) : l.length ≤ 1048576 := by simpa [lenOk] using h
end Go.Av
end

section
/-
  What a law is given: any argument of a shape reads as a datum.
-/
namespace Go.Av
open Go.RowKit

/-- A struct's shape. -/
def Sh.spine : Sh → Bool
  | .pair _ b => b.spine
  | .unit => true
  | _ => false
/-- Structs all the way down. -/
def Sh.good : Sh → Bool
  | .pair a b => a.good && b.good && b.spine
  | .sl e => e.good
  | .arr _ e => e.good
  | _ => true

/-- Numbers within their kinds. -/
def InR : (s : Sh) → Den s → Prop
  | .int k, n => (Lit.int k n).wf = true
  | .sl e, l => ∀ x ∈ (show List (Den e) from l), InR e x
  | .pair a b, x => InR a x.1 ∧ InR b x.2
  | .arr _ e, l => ∀ x ∈ (show List (Den e) from l), InR e x
  | _, _ => True

theorem cellsOf_eq {P : Program} {E : Env} {t : TypeId} {s : Sh} (h : TyOk1 P E t s) : P.cellsOf t = s.size := by
  obtain ⟨i, z, hi, hs, _⟩ := h.info
  simp [Program.cellsOf, hi, hs]

theorem chunks_exist {α : Type} {R : α → List Value → Prop} {I : α → Prop} {k : Nat} : ∀ (n : Nat) (vs : List Value), vs.length = n * k → (∀ i, i < n → ∃ x, R x ((vs.drop (i * k)).take k) ∧ I x) → ∃ l : List α, l.length = n ∧ Chunks R l vs ∧ ∀ x ∈ l, I x
  | 0, vs, hl, _ => ⟨[], rfl, by rw [Nat.zero_mul] at hl; exact List.eq_nil_of_length_eq_zero hl, fun x hx => by cases hx⟩
  | n + 1, vs, hl, h => by
    obtain ⟨x, hx, ix⟩ := h 0 (by omega)
    rw [Nat.zero_mul, List.drop_zero] at hx
    obtain ⟨l, h1, h2, h3⟩ := chunks_exist (R := R) (I := I) (k := k) n (vs.drop k) (by rw [List.length_drop, hl, Nat.add_mul]; omega) (fun i hi => by
      obtain ⟨y, hy, iy⟩ := h (i + 1) (by omega)
      refine ⟨y, ?_, iy⟩
      rw [List.drop_drop]
      rw [Nat.add_mul, Nat.one_mul, Nat.add_comm] at hy
      exact hy)
    exact ⟨x :: l, by simp [h1], ⟨vs.take k, vs.drop k, (List.take_append_drop k vs).symm, hx, h2⟩, fun y hy => by
      rcases List.mem_cons.1 hy with rfl | hy
      · exact ix
      · exact h3 y hy⟩

theorem struct_exist {w : World} {S : Stable} : ∀ (s : Sh) (cs : List Value), Sh.spine s = true → cs.length = s.size → (∀ i u, s.fld i = some u → ∃ y : Den u, RdC w S u y ((cs.drop (fldOff s i)).take u.size) ∧ InR u y) → ∃ y : Den s, RdC w S s y cs ∧ InR s y
  | .unit, cs, _, hl, _ => ⟨(), by simp only [RdC]; exact List.eq_nil_of_length_eq_zero hl, trivial⟩
  | .pair a b, cs, hs, hl, h => by
    simp only [Sh.spine] at hs
    obtain ⟨y1, h1, i1⟩ := h 0 a rfl
    simp only [fldOff, List.drop_zero] at h1
    simp only [Sh.size] at hl
    obtain ⟨y2, h2, i2⟩ := struct_exist b (cs.drop a.size) hs (by rw [List.length_drop]; omega) (fun i u hu => by
      obtain ⟨y, hy, iy⟩ := h (i + 1) u hu
      refine ⟨y, ?_, iy⟩
      simp only [fldOff] at hy
      rw [List.drop_drop]
      exact hy)
    exact ⟨(y1, y2), by simp only [RdC]; exact ⟨cs.take a.size, cs.drop a.size, (List.take_append_drop _ _).symm, h1, h2⟩, i1, i2⟩
  | .bool, _, hs, _, _ => by cases hs
  | .byte, _, hs, _, _ => by cases hs
  | .int _, _, hs, _, _ => by cases hs
  | .str, _, hs, _, _ => by cases hs
  | .sl _, _, hs, _, _ => by cases hs
  | .arr _ _, _, hs, _, _ => by cases hs

theorem good_fld : ∀ (s : Sh) (i : Nat) (u : Sh), s.good = true → s.fld i = some u → u.good = true
  | .pair a b, 0, u, h, hu => by
    simp only [Sh.fld, Option.some.injEq] at hu
    subst hu
    simp only [Sh.good, Bool.and_eq_true] at h
    exact h.1.1
  | .pair a b, i + 1, u, h, hu => by
    simp only [Sh.good, Bool.and_eq_true] at h
    exact good_fld b i u h.1.2 hu
  | .bool, _, _, _, hu => by simp [Sh.fld] at hu
  | .byte, _, _, _, hu => by simp [Sh.fld] at hu
  | .int _, _, _, _, hu => by simp [Sh.fld] at hu
  | .str, _, _, _, hu => by simp [Sh.fld] at hu
  | .sl _, _, _, _, hu => by simp [Sh.fld] at hu
  | .unit, _, _, _, hu => by simp [Sh.fld] at hu
  | .arr _ _, _, _, _, hu => by simp [Sh.fld] at hu

section
variable {H : Type} {enc : TypeId × Value → H} {P : Program} {W : World} {E : Env}

theorem cells_at {base : Nat} {a : Addr} {k : Nat} {cs : List Value} (h : W.cells? base a k = some cs) : cs.length = k ∧ ∀ (i : Nat) (v : Value), cs[i]? = some v → W.cell? (a.add i) = some v := by
  unfold World.cells? at h
  split at h
  · have hl := mapM_some_length h
    rw [List.length_range] at hl
    refine ⟨hl, fun i v hv => ?_⟩
    have hlt := (List.getElem?_eq_some_iff.1 hv).1
    have := mapM_some_get h i i (by rw [List.getElem?_range (by omega)])
    rw [this, hv]
  · cases h

theorem add_plain_cell {a : Addr} {i : Nat} {v : Value} (h : W.cell? (a.add i) = some v) : W.cell? ⟨a.block, a.off + i, none⟩ = some v ∧ a.block < W.heap.size ∧ (i = 0 → a.spot = none) := by
  have hb : ∀ b : Addr, W.cell? b = some v → b.spot = none ∧ b.block < W.heap.size := fun b hb => by
    unfold World.cell? at hb
    split at hb
    · rename_i hc
      split at hb
      · cases hb
      · rename_i hs
        refine ⟨by cases hh : b.spot with
          | none => rfl
          | some x => rw [hh] at hs; simp at hs, (Array.getElem?_eq_some_iff.1 hc).1⟩
    · cases hb
  obtain ⟨h1, h2⟩ := hb _ h
  rw [add_block] at h2
  have he : a.add i = ⟨a.block, a.off + i, none⟩ := by
    have e1 := add_block a i
    have e2 := add_off a i
    generalize a.add i = b at h1 e1 e2
    obtain ⟨b1, b2, b3⟩ := b
    simp only at h1 e1 e2
    subst h1 e1 e2
    rfl
  refine ⟨by rw [← he]; exact h, h2, fun hi => ?_⟩
  subst hi
  have : a.add 0 = a := by unfold Addr.add; simp
  rw [this] at h1
  exact h1

theorem open_cells (hT : TyOk P E) {sp : Nat → Bool} : ∀ (fuel : Nat) (t : TypeId) (s : Sh) (cs : List Value) (x : DataW H × List MemPlace), (E.ti t).sh = some s → s.good = true → DataW.trod enc P W 0 sp true fuel t cs = some x → ∃ y : Den s, RdC W (Was W) s y cs ∧ InR s y
  | 0, t, s, cs, x, _, _, h => by simp [DataW.trod] at h
  | fuel + 1, t, s, cs, x, hs, hg, h => by
    have hty := hT t s hs
    have hd := hty.desc
    have hcs := cellsOf_eq hty
    -- one cell
    cases s with
    | bool =>
      have hd : P.underlying t = some .bool := hd
      have : ∃ b, cs = [.bool b] := by
        unfold DataW.trod at h
        rw [hd] at h
        split at h <;> simp_all
      obtain ⟨b, rfl⟩ := this
      exact ⟨b, by simp only [RdC], trivial⟩
    | byte =>
      have hd : P.underlying t = some (.int .u8) := hd
      have : ∃ n, cs = [.int .u8 n] ∧ (Lit.int .u8 n).wf = true := by
        unfold DataW.trod at h
        rw [hd] at h
        split at h <;> simp_all
      obtain ⟨n, rfl, hw⟩ := this
      have hb := wf_u8 hw
      refine ⟨UInt8.ofNat n.toNat, ?_, trivial⟩
      have := byte_const n (by omega)
      simp only [RdC]
      rw [this]
    | int k =>
      obtain ⟨hd, _⟩ := hd
      have : ∃ n, cs = [.int k n] ∧ (Lit.int k n).wf = true := by
        unfold DataW.trod at h
        rw [hd] at h
        split at h <;> simp_all
      obtain ⟨n, rfl, hw⟩ := this
      exact ⟨n, by simp only [RdC], hw⟩
    | str =>
      have hd : P.underlying t = some .string := hd
      have : ∃ b, cs = [.string b] := by
        unfold DataW.trod at h
        rw [hd] at h
        split at h <;> simp_all
      obtain ⟨b, rfl⟩ := this
      exact ⟨b.data.toList, by simp only [RdC]; exact ⟨b, rfl, rfl⟩, trivial⟩
    | unit =>
      obtain ⟨fs, hd, _⟩ := hd
      obtain ⟨xs, n, _, _, hl, _⟩ := DataW.trod_struct hd h
      rw [hcs] at hl
      exact ⟨(), by simp only [RdC]; exact List.eq_nil_of_length_eq_zero hl, trivial⟩
    | pair a b =>
      obtain ⟨fs, hd, hf, hf2⟩ := hd
      obtain ⟨xs, n, e1, _, hl, hxl, hx⟩ := DataW.trod_struct hd h
      obtain rfl : fuel = n := by omega
      rw [hcs] at hl
      simp only [Sh.good, Bool.and_eq_true] at hg
      refine struct_exist (.pair a b) cs (by simpa only [Sh.spine] using hg.2) hl (fun i u hu => ?_)
      obtain ⟨f, hfi⟩ := hf2 i u hu
      obtain ⟨ho, hsh, _⟩ := hf i f hfi
      rw [hu] at hsh
      have hxi := hx i f hfi
      have hlt : i < xs.length := by rw [hxl]; exact (Array.getElem?_eq_some_iff.1 hfi).1
      rw [List.getElem?_eq_getElem hlt, cellsOf_eq (hT _ _ hsh), ho] at hxi
      exact open_cells hT fuel f.type u _ _ hsh (good_fld (.pair a b) i u (by simp only [Sh.good, Bool.and_eq_true]; exact hg) hu) hxi
    | arr m e =>
      obtain ⟨te, hd, hte⟩ := hd
      obtain ⟨xs, n, e1, _, hl, hxl, hx⟩ := DataW.trod_array hd h
      obtain rfl : fuel = n := by omega
      rw [hcs] at hl
      simp only [Sh.good] at hg
      obtain ⟨l, h1, h2, h3⟩ := chunks_exist (R := RdC W (Was W) e) (I := InR e) (k := e.size) m cs hl (fun i hi => by
        have hxi := hx i hi
        rw [List.getElem?_eq_getElem (by omega), cellsOf_eq (hT _ _ hte)] at hxi
        obtain ⟨y, k1, k2⟩ := open_cells hT fuel te e _ _ hte hg hxi
        exact ⟨y, k1, k2⟩)
      exact ⟨l, by simp only [RdC]; exact ⟨h1, h2⟩, h3⟩
    | sl e =>
      obtain ⟨te, hd, hte, hpos, _⟩ := hd
      simp only [Sh.good] at hg
      rcases DataW.trod_slice hd h with ⟨rfl, _⟩ | ⟨a, len, cap, elems, rest, n, e1, rfl, _, _, hlc, _, hel, hx, _⟩
      · exact ⟨[], by simp only [RdC]; exact ⟨none, 0, [], rfl, Nat.le_refl _, rfl, fun hh => absurd rfl hh⟩, fun x hx => by cases hx⟩
      · obtain rfl : fuel = n := by omega
        have hce := cellsOf_eq (hT _ _ hte)
        rw [hce] at hx
        -- the cells, one by one
        have hone : ∀ i, i < len → ∃ c, W.cells? 0 (a.add (i * e.size)) e.size = some c ∧ ∃ y : Den e, RdC W (Was W) e y c ∧ InR e y := fun i hi => by
          have hxi := hx i hi
          rw [List.getElem?_eq_getElem (by omega)] at hxi
          rw [Option.bind_eq_some_iff] at hxi
          obtain ⟨c, hc1, hc2⟩ := hxi
          obtain ⟨y, k1, k2⟩ := open_cells hT fuel te e c _ hte hg hc2
          exact ⟨c, hc1, y, k1, k2⟩
        have hcell : ∀ i, i < len → ∀ j, j < e.size → ∃ v, W.cell? ⟨a.block, a.off + (i * e.size + j), none⟩ = some v ∧ (i = 0 → j = 0 → a.spot = none) ∧ a.block < W.heap.size ∧ ∀ c, W.cells? 0 (a.add (i * e.size)) e.size = some c → c[j]? = some v := fun i hi j hj => by
          obtain ⟨c, hc1, _⟩ := hone i hi
          obtain ⟨hl, hat⟩ := cells_at hc1
          have hv := hat j c[j] (List.getElem?_eq_getElem (by omega))
          obtain ⟨p2, p3, p1⟩ := add_plain_cell hv
          rw [add_block, add_off] at p2
          rw [add_block] at p3
          refine ⟨c[j], by rw [← Nat.add_assoc]; exact p2, fun hi0 hj0 => ?_, p3, fun c' hc' => ?_⟩
          · subst hi0
            have := p1 hj0
            rw [Nat.zero_mul] at this
            have e0 : a.add 0 = a := by unfold Addr.add; simp
            rw [e0] at this
            exact this
          · rw [hc1] at hc'
            obtain rfl := Option.some.inj hc'
            exact List.getElem?_eq_getElem (by omega)
        let vs : List Value := (List.range (len * e.size)).map fun q => (W.cell? ⟨a.block, a.off + q, none⟩).getD undef
        have hvl : vs.length = len * e.size := by simp [vs]
        obtain ⟨l, h1, h2, h3⟩ := chunks_exist (R := RdC W (Was W) e) (I := InR e) (k := e.size) len vs hvl (fun i hi => by
          obtain ⟨c, hc1, y, k1, k2⟩ := hone i hi
          obtain ⟨hl, _⟩ := cells_at hc1
          refine ⟨y, ?_, k2⟩
          have : (vs.drop (i * e.size)).take e.size = c := by
            apply List.ext_getElem?
            intro j
            have hle : (i + 1) * e.size ≤ len * e.size := Nat.mul_le_mul_right _ hi
            rw [Nat.add_mul, Nat.one_mul] at hle
            rcases Nat.lt_or_ge j e.size with hj | hj
            · obtain ⟨v, q1, _, _, q2⟩ := hcell i hi j hj
              rw [List.getElem?_take_of_lt hj, List.getElem?_drop, q2 c hc1]
              simp only [vs, List.getElem?_map]
              rw [List.getElem?_range (by omega)]
              simp only [Option.map_some, q1, Option.getD_some]
            · rw [List.getElem?_eq_none (by simp; omega), List.getElem?_eq_none (by omega)]
          rw [this]
          exact k1)
        refine ⟨l, ?_, h3⟩
        simp only [RdC]
        refine ⟨some a, cap, vs, by rw [h1], by omega, h2, fun hne => ⟨a, rfl, ?_⟩⟩
        have hlen : 0 < len * e.size := by
          rw [← hvl]
          exact List.length_pos_iff.2 hne
        have hpl : 0 < len := Nat.pos_of_mul_pos_right hlen
        obtain ⟨_, _, hsp, hblk, _⟩ := hcell 0 hpl 0 hpos
        refine ⟨hsp rfl rfl, fun q v hv => ⟨hblk, ?_⟩⟩
        have hq := (List.getElem?_eq_some_iff.1 hv).1
        rw [hvl] at hq
        obtain ⟨u, q1, _⟩ := hcell (q / e.size) (Nat.div_lt_of_lt_mul (by rw [Nat.mul_comm]; exact hq)) (q % e.size) (Nat.mod_lt _ hpos)
        rw [Nat.mul_comm, Nat.div_add_mod] at q1
        simp only [vs, List.getElem?_map] at hv
        rw [List.getElem?_range hq] at hv
        simp only [Option.map_some, Option.some.injEq, q1, Option.getD_some] at hv
        rw [q1, hv]

/-- AN ARGUMENT READS AS A DATUM of its shape; its numbers are within their kinds. -/
theorem open_arg (hT : TyOk P E) {t : TypeId} {s : Sh} (hs : (E.ti t).sh = some s) (hg : s.good = true) {base : Nat} {v : Value} {d : DataW H} {p : List MemPlace} (hv : Value.okWide P W .any base t v) (h : DataW.Trod enc P W 0 (fun _ => true) true t v d p) :
    ∃ y : Den s, Rd W (Was W) v (.dat s y none) ∧ InR s y := by
  obtain ⟨n, hn⟩ := h
  obtain ⟨y, h1, h2⟩ := open_cells hT n t s v.cells.toList _ hs hg hn
  refine ⟨y, .dat _ _ _ _ ?_, h2⟩
  have hd := (hT t s hs).desc
  unfold RdV
  split
  · rename_i ha
    have : ∃ cs, v = .agg cs := by
      unfold Value.okWide at hv
      cases s with
      | unit => obtain ⟨fs, hd, _⟩ := hd; rw [hd] at hv; obtain ⟨cs, e, _⟩ := hv; exact ⟨cs, e⟩
      | pair a b => obtain ⟨fs, hd, _⟩ := hd; rw [hd] at hv; obtain ⟨cs, e, _⟩ := hv; exact ⟨cs, e⟩
      | arr m e => obtain ⟨te, hd, _⟩ := hd; rw [hd] at hv; obtain ⟨cs, e, _⟩ := hv; exact ⟨cs, e⟩
      | _ => cases ha
    obtain ⟨cs, rfl⟩ := this
    exact ⟨cs, rfl, h1⟩
  · rename_i ha
    have hone : v.cells.toList.length = 1 := by rw [RdC.length _ _ _ h1]; exact size_one (by simpa using ha)
    have hoc := RdC.oneCell _ _ _ h1
    have hna : ∀ cs, v ≠ .agg cs := by
      intro cs e
      subst e
      unfold Value.okWide at hv
      cases s with
      | bool => simp only at hd; rw [hd] at hv; simp [Cell.okWide, Cell.ok, hd] at hv
      | byte => simp only at hd; rw [hd] at hv; simp [Cell.okWide, Cell.ok, hd] at hv
      | int k => rw [hd.1] at hv; simp [Cell.okWide, Cell.ok, hd.1] at hv
      | str => simp only at hd; rw [hd] at hv; simp [Cell.okWide, Cell.ok, hd] at hv
      | sl e => obtain ⟨te, hd, _⟩ := hd; rw [hd] at hv; simp [Cell.okWide, Cell.ok, hd] at hv
      | _ => exact ha rfl
    have hc : v.cells.toList = [v] := by
      cases v with
      | agg cs => exact absurd rfl (hna cs)
      | _ => rfl
    rw [hc] at h1
    exact h1
end
end Go.Av
end

section
/-
  The last step of a law: arguments read behind the call as they did before.
-/
namespace Go.Av
open Go.RowKit Go.WideShapes Go.ChangeShapes

section
variable {H : Type} {enc : TypeId × Value → H} {P : Program} {W W' : World}

theorem trodAll_carry {base : Nat} {sp : Nat → Bool} {held : Bool} : ∀ {ts : List TypeId} {vs : List Value} {ds : List (DataW H)} {ps : List MemPlace}, DataW.TrodAll enc P W base sp held ts vs ds ps → (∀ p ∈ ps, W.sameAt W' p) → DataW.TrodAll enc P W' base sp held ts vs ds ps
  | [], [], [], _, h, _ => h
  | _ :: _, _ :: _, _ :: _, _, ⟨p, q, ⟨n, h1⟩, h2, e⟩, hs => ⟨p, q, ⟨n, DataW.trod_carry n _ _ _ h1 (fun x hx => hs x (by rw [e]; exact List.mem_append_left _ hx))⟩, trodAll_carry h2 (fun x hx => hs x (by rw [e]; exact List.mem_append_right _ hx)), e⟩

/-- The arguments, read again. -/
theorem args_again (hl : laidOutB P = true) (hm : mapsRowed P = true) (hz : ((List.range P.types.size).all fun t => match P.underlying t with | some (.slice e) => decide (0 < P.cellsOf e) | _ => true) = true)
    {ts : List TypeId} {vs : List Value} {ds : List (DataW H)} {ps : List MemPlace} (hts : ∀ t ∈ ts, t < P.types.size) (h : DataW.TrodAll enc P W 0 (fun _ => true) true ts vs ds ps) (hb : Below W.heap.size W W') {sp : Nat → Bool} (hsp : ∀ p ∈ ps, sp p.block = true) :
    DataW.TrodAll enc P W' 0 sp true ts vs ds ps :=
  (trodAll_carry h (fun p hp => hb.same (h.lt p hp))).respare (kids_rows hl hm) (fun t e ht => slices_full_of P hz t e ht) hts hsp
end
end Go.Av
end

section
/-
  A result that is a choice.
-/
namespace Go.Av

/-- What a choice comes to. -/
def Picks : AV → AV → Prop
  | .ite b x y, r => (b = true → Picks x r) ∧ (b = false → Picks y r)
  | v, r => r.strip = v

theorem rd_picks {w : World} {S : Stable} {v : Value} {r' : AV} (h : Rd w S v r') : ∀ r, Picks r r' → Rd w S v r
  | .ite b x y, ⟨h1, h2⟩ => .ite v b x y (fun e => rd_picks h x (h1 e)) (fun e => rd_picks h y (h2 e))
  | .bad, e | .dat _ _ _, e | .box _ _, e | .adr _ _, e | .badr _ _, e | .pv _ _ _, e | .pbox _ _ _, e | .padr _ _, e | .pval _ _, e | .itr _ _, e | .abs _ _ _, e | .cnd _ _, e | .nilIface, e | .iface _ _, e | .tup _, e | .fn _ _, e => by
    have e : r'.strip = _ := e
    rw [← e]; exact h.strip

theorem strip_box (r : AV) : (∀ s (x : Den s), r.strip ≠ .box s x) ∧ (∀ s p, r.strip ≠ .badr s p) := by
  cases r <;> simp [AV.strip]
theorem picks_np : ∀ (r r' : AV), Picks r r' → (∀ s (x : Den s), r ≠ .box s x) ∧ (∀ s p, r ≠ .badr s p) ∧ r.lab = none
  | .ite b x y, _, _ => ⟨(fun s z h => nomatch h), (fun s p h => nomatch h), rfl⟩
  | .bad, r', e | .dat _ _ _, r', e | .box _ _, r', e | .adr _ _, r', e | .badr _ _, r', e | .pv _ _ _, r', e | .pbox _ _ _, r', e | .padr _ _, r', e | .pval _ _, r', e | .itr _ _, r', e | .abs _ _ _, r', e | .cnd _ _, r', e | .nilIface, r', e | .iface _ _, r', e | .tup _, r', e | .fn _ _, r', e => by
    have e : r'.strip = _ := e
    rw [← e]; exact ⟨(strip_box r').1, (strip_box r').2, strip_lab r'⟩

theorem ResRd.picks {n : Nat → Prop} {w' : World} {S' : Stable} {v : Value} {r' r : AV} (h : ResRd n w' S' v r') (hp : Picks r r') : ResRd n w' S' v r where
  rd := rd_picks h.rd r hp
  nb := (picks_np r r' hp).1
  np := (picks_np r r' hp).2.1
  own := fun l te e => by rw [(picks_np r r' hp).2.2] at e; cases e

theorem SoundAt.picks {P : Program} {f : FuncId} {w : World} {S : Stable} {spec : List AV → Bool × AV} (h : SoundAt P f spec w S) {spec' : List AV → Bool × AV} (he : ∀ avs r, spec' avs = (true, r) → ∃ r', spec avs = (true, r') ∧ Picks r r') : SoundAt P f spec' w S := by
  intro vals avs r h1 h2 h3
  obtain ⟨r', k1, k2⟩ := he avs r h1
  exact (h vals avs r' k1 h2 h3).mono fun v w' ⟨S', g, hr⟩ => ⟨S', g, hr.picks k2⟩

/-- A contract out of a reading, where the result is a choice. -/
theorem sound_of_evPicks {P : Program} {E : EnvP} {G : World → Stable → Prop} (hG : Stays G) (hT : TyOk P E.toEnv) (hF : ∀ w S, G w S → EnvOk P E w S) (hm : P.follows .mixedOrders = true) {f : FuncId} {fn : Func} {c : Code} (hf : P.funcs[f]? = some fn) (hb : fn.body = some c) (hnt : fn.ntmps = E.nt)
    (hname : (fn.name == "runtime.NumGoroutine") = false) {spec : List AV → Bool × AV} (hspec : ∀ avs r, spec avs = (true, r) → ∃ n r', evFnP E n c fn.results avs = some r' ∧ Picks r r') : SoundG G P f spec := by
  classical
  let spec0 : List AV → Bool × AV := fun avs => if h : ∃ n r', evFnP E n c fn.results avs = some r' ∧ Picks (spec avs).2 r' then (true, h.choose_spec.choose) else (false, .bad)
  have h0 : SoundG G P f spec0 := sound_of_evP hG hT hF hm hf hb hnt hname fun avs r hs => by
    simp only [spec0] at hs
    split at hs
    · rename_i h
      simp only [Prod.mk.injEq, true_and] at hs
      subst hs
      exact ⟨_, h.choose_spec.choose_spec.1⟩
    · cases hs
  refine fun w S hg => (h0 w S hg).picks fun avs r hs => ?_
  obtain ⟨n, r', k1, k2⟩ := hspec avs r hs
  have h : ∃ n r', evFnP E n c fn.results avs = some r' ∧ Picks (spec avs).2 r' := ⟨n, r', k1, by rw [hs]; exact k2⟩
  refine ⟨h.choose_spec.choose, by simp only [spec0]; rw [dif_pos h], ?_⟩
  have e2 : (spec avs).2 = r := by rw [hs]
  rw [← e2]
  exact h.choose_spec.choose_spec.2

/-! Contracts of functions that turn roots, as a list -/
theorem mns_nil {P : Program} {w : World} {S : Stable} : ∀ (f : FuncId) (sp : List AV → Bool × AV), (none : Option (List AV → Bool × AV)) = some sp → SoundMAt P f sp w S := fun _ _ h => by cases h
theorem mns_cons {P : Program} {w : World} {S : Stable} {k : FuncId} {s : List AV → Bool × AV} {g : FuncId → Option (List AV → Bool × AV)} (h : SoundMAt P k s w S) (hr : ∀ f sp, g f = some sp → SoundMAt P f sp w S) :
    ∀ f sp, (if f = k then some s else g f) = some sp → SoundMAt P f sp w S := fun f sp he => by
  split at he
  · rename_i e; subst e; cases he; exact h
  · exact hr f sp he
end Go.Av
end
