/-
  A slot's tree laid open.
-/
import Derived.Test.YtcfhfjjohmdaoaaDoorAvPOps6
namespace Go.Av
open Go.RowKit Go.Lib

theorem openV_flat (s : Nat) (p : PSh) (x : Den p.sh) : (openV s p x).isRoot = false ∧ (openV s p x).isRef = false := by
  cases p with
  | psl te e => cases e <;> exact ⟨rfl, rfl⟩
  | _ => exact ⟨rfl, rfl⟩

section
variable {base : Nat → Prop} {w0 w : World} {S0 S : Stable} {fr : Fr} {gv : Nat → Value} {a : Act} {F : Nat → Nat → Prop} {P : Program} {E : EnvP}

/-- The parts of a tree that is laid open: a slice's head. -/
theorem open_head {S' : Stable} {p : PSh} {x : Den p.sh} {c : Spot} {Fs : Nat → Prop} (hR : Root w S p x none c Fs) {r : List PStep} {u : Value} (hv : ValAt w p c x r u Fs) (hS : ∀ b o, S b o → S' b o)
    (hF : ∀ b, Fs b → ∀ o, S' b o) (hc : ∀ v, c = .val v → r = [] ∨ ∃ te e, p = .psl te e) : ∃ q y, getPP p x r = some ⟨q, y⟩ ∧ Rd w S' u (.dat q.sh y none) := by
  obtain ⟨q, y, c', k1, k2, k3, k4, k5, k6, k7⟩ := hv
  obtain ⟨c2, Fq, j1, j2⟩ := hR.part k2 k1 hc
  rw [k4] at j1
  simp only [Option.some.injEq, Prod.mk.injEq, true_and] at j1
  subst j1
  obtain ⟨cs, m1, m2⟩ := PM.open hS q _ y Fq j2.part (fun b hb o => hF b (j2.sub b hb).1 o)
  refine ⟨q, y, k2, .dat _ _ _ _ ?_⟩
  have hag : q.sh.agg = false := by cases q <;> first | rfl | exact k3.elim
  have hsz : q.size = 1 := by cases q <;> first | rfl | exact k3.elim
  have hl := RdC.length _ _ _ m1
  rw [PSh.size_eq, hsz] at hl
  match cs, hl with
  | [v], _ =>
    have h0 := m2 0 v rfl
    rw [k5] at h0
    obtain rfl := Option.some.inj h0
    unfold RdV
    rw [hag]
    exact m1

/-- The parts of a tree that is laid open: an address. -/
theorem open_adr {S' : Stable} {p : PSh} {x : Den p.sh} {c : Spot} {Fs : Nat → Prop} (hR : Root w S p x none c Fs) {r : List PStep} {u : Value} (ha : AdrAt w p c x r u Fs) (hS : ∀ b o, S b o → S' b o)
    (hF : ∀ b, Fs b → c.block ≠ some b → ∀ o, S' b o) {q : PSh} {y : Den q.sh} (hg : getPP p x r = some ⟨q, y⟩) (hcell : ∀ g o, u = .pointer (some ⟨g, o, none⟩) → ∀ i, i < q.size → S' g (o + i)) : Rd w S' u (.adr q.sh y) := by
  obtain ⟨g, o, Fq, k1, k2, k3⟩ := adr_part hR ha hg
  obtain ⟨cs, m1, m2⟩ := PM.open hS q _ y Fq k3.part (fun b hb o => hF b (k3.sub b hb).1 (k3.sub b hb).2 o)
  subst k1
  have hl := RdC.length _ _ _ m1
  rw [PSh.size_eq] at hl
  refine .adr _ _ _ cs m1 ⟨rfl, fun _ => ⟨rfl, fun i v hv => ⟨hcell g o rfl i (by have := (List.getElem?_eq_some_iff.1 hv).1; omega), m2 i v hv⟩⟩⟩

theorem RP.frozen (h : RP base w0 S0 S fr gv a w F) {s n : Nat} (hn : a.tmps.size = n) {fr' : Fr} (hf : fr.freeze n s = some fr') :
    ∃ S', RP base w0 S0 S' fr' gv a w (fun t b => t ≠ s ∧ F t b) ∧ Keeps w S w S' := by
  unfold Fr.freeze at hf
  split at hf
  · cases hf
  rename_i hsn
  have hs : s < a.tmps.size := by omega
  have htv : ∀ t, t < a.tmps.size → tv gv a t = a.tmps.getD t undef := fun t ht => tv_eval gv a t ht
  -- what all openings share
  have fin : ∀ (S' : Stable) (fr' : Fr), (∀ b o, S b o → S' b o) → (∀ b o, ¬ F s b → (S' b o ↔ S b o)) → (fr s).vague = true → (fr' s).isRoot = false → (fr' s).isRef = false →
      (∀ t, t ≠ s → (fr' t = fr t ∧ ∀ r, fr t ≠ .padr s r ∧ fr t ≠ .pval s r) ∨ ((fr t).isRef = true ∧ (fr' t).isRoot = false ∧ (fr' t).isRef = false)) →
      R (fun k => (base k ∨ ∃ t, F t k) ∧ ¬ F s k) w S' S' fr' a w → ∃ S', RP base w0 S0 S' fr' gv a w (fun t b => t ≠ s ∧ F t b) ∧ Keeps w S w S' := fun S' fr' hS hS2 hvg hr1 hr2 hoth hR => by
    have hk : Keeps w S w S' := fun b o hs => ⟨hS b o hs, rfl⟩
    refine ⟨S', ?_, hk⟩
    refine h.upd (fun t => t = s) (hR.rebase (fun k hk => ?_)) (Kept.refl _ _) (fun b o hB => hS2 b o (fun hb => h.nb s b hb hB)) hk (fun t ht b => ⟨(·.2), fun hh => ⟨ht, hh⟩⟩) (fun _ _ _ _ => rfl)
      (fun t b o ht hb => hS2 b o (fun hh => h.dj t s b ht hb hh)) (fun t ht => ?_) (fun t b ht hb => absurd ht hb.1) (fun t t' b ht _ hb => absurd ht hb.1) (fun t ht _ b hb => absurd ht hb.1) (fun t ht hr => ?_) (fun t s' r ht => ?_) (fun t s' r ht => ?_)
    · rcases hk with hk | ⟨t, ht, hk⟩
      · exact ⟨.inl hk, fun hh => h.nb s k hh hk⟩
      · exact ⟨.inr ⟨t, hk⟩, fun hh => h.dj t s k ht hk hh⟩
    · rcases hoth t ht with ⟨e, _⟩ | ⟨e1, e2, _⟩
      · rw [e]; exact ⟨rfl, fun _ => ⟨rfl, rfl⟩⟩
      · have : (fr t).isRoot = false := by generalize fr t = av at e1; cases av <;> first | rfl | cases e1
        rw [e2, this]
        exact ⟨rfl, fun hh => by cases hh⟩
    · subst ht; rw [hr1] at hr; cases hr
    · by_cases hts : t = s
      · subst hts; rw [ht] at hr2; cases hr2
      · rcases hoth t hts with ⟨e, e2⟩ | ⟨_, _, e2⟩
        · rw [e] at ht
          exact .inl ⟨fun hss => (e2 r).1 (by rw [ht, hss]), ht, rfl⟩
        · rw [ht] at e2; cases e2
    · by_cases hts : t = s
      · subst hts; rw [ht] at hr2; cases hr2
      · rcases hoth t hts with ⟨e, e2⟩ | ⟨_, _, e2⟩
        · rw [e] at ht
          exact .inl ⟨fun hss => (e2 r).2 (by rw [ht, hss]), ht, rfl⟩
        · rw [ht] at e2; cases e2
  have hlt : ∀ (lim : Nat → Prop), ∀ b o, (S b o ∨ (F s b ∧ lim o)) → b < w.heap.size := fun lim b o hh => hh.elim (h.r.slt b o) (fun hh => h.lt hh.1)
  have hXB : ∀ b, F s b → base b ∨ ∃ t, F t b := fun b hb => .inr ⟨s, hb⟩
  split at hf
  · -- a value's tree
    rename_i p x hfs
    simp only [Option.some.injEq] at hf
    have hroot := h.root s (by rw [hfs]; rfl)
    rw [hfs] at hroot
    generalize hvv : tv gv a s = vv at hroot
    cases hroot with
    | tree _ _ p' z' hh' c' k1 k2 =>
      cases k1 with
      | pv _ _ _ _ hv =>
        have hpm : PM w S p (valR vv) x (F s) := by
          have : PM w S p ((Spot.val vv).rdr w) x (fun b => F s b ∧ (Spot.val vv).block ≠ some b) := k2.core
          exact this.congrF fun b => ⟨(·.1), fun hh => ⟨hh, fun e => by cases e⟩⟩
        have hvs : vv = a.tmps.getD s undef := by rw [← hvv]; exact htv s hs
        obtain ⟨o1, o2, o3, o4, o5, o6⟩ := open_whole hv hpm s
        have hvg : (fr s).vague = true := by rw [hfs]; rfl
        have hIs : ∀ p' z' hh' c', IsRoot (fr s) (tv gv a s) p' z' hh' c' → p' = p ∧ HEq z' x ∧ hh' = none ∧ c' = .val vv := fun p' z' hh' c' hi => by
          rw [hfs, hvv] at hi
          cases hi with
          | pv => exact ⟨rfl, HEq.rfl, rfl, rfl⟩
        -- how far all is open
        have hlim : ∀ r q (y : Den q.sh), r ≠ [] → getPP p x r = some ⟨q, y⟩ → (∀ o, openLim p x o) ∨ ∃ te u n, p = .psl te (.leaf u) ∧ r = [.idx n] := fun r q y hr hg => by
          cases p with
          | osl te e => cases r <;> first | exact absurd rfl hr | simp [getPP] at hg
          | psl te e =>
            cases e with
            | leaf u =>
              right
              match r, hg with
              | [], _ => exact absurd rfl hr
              | [.idx n], _ => exact ⟨te, u, n, rfl, rfl⟩
              | .fld i :: r, hg => simp [getPP] at hg
              | .idx n :: _ :: _, hg => simp [getPP] at hg
            | _ => exact .inl fun _ => trivial
          | _ => exact .inl fun _ => trivial
        have hS : ∀ b o, S b o → (S b o ∨ (F s b ∧ openLim p x o)) := fun b o hh => .inl hh
        have hcv : ∀ r q (y : Den q.sh), getPP p x r = some ⟨q, y⟩ → r ≠ [] → (∃ u, locP w p (.val vv) r = some (q, u)) → ∀ v, Spot.val vv = .val v → r = [] ∨ ∃ te e, p = .psl te e := fun r q y hg hr hl v _ => by
          right
          obtain ⟨u, hl⟩ := hl
          cases p with
          | psl te e => exact ⟨te, e, rfl⟩
          | leaf _ => cases r <;> first | exact absurd rfl hr | simp [getPP] at hg
          | osl _ _ => cases r <;> first | exact absurd rfl hr | simp [getPP] at hg
          | ppair b c =>
            match r, hl with
            | [], _ => exact absurd rfl hr
            | .idx n :: r, hl => simp [locP] at hl
            | .fld 0 :: r, hl => simp [locP] at hl
            | .fld (i + 1) :: r, hl => simp [locP] at hl
          | parr m e =>
            match r, hl with
            | [], _ => exact absurd rfl hr
            | [.idx n], hl => simp [locP] at hl
            | .fld i :: r, hl => simp [locP] at hl
            | .idx n :: _ :: _, hl => simp [locP] at hl
        subst hf
        refine fin (fun b o => S b o ∨ (F s b ∧ openLim p x o)) _ hS (fun b o hb => ⟨fun hh => hh.elim id (fun hh => absurd hh.1 hb), .inl⟩) hvg (by simp only [if_true]; exact (openV_flat s p x).1) (by simp only [if_true]; exact (openV_flat s p x).2) (fun t ht => ?_) ?_
        · simp only [if_neg ht]
          split
          · rename_i s' r e
            by_cases hss : s' = s
            · simp only [if_pos hss]
              right
              refine ⟨by rw [e]; rfl, ?_⟩
              split
              · exact ⟨rfl, rfl⟩
              · split
                · exact openV_flat s p x
                · split <;> exact ⟨rfl, rfl⟩
            · simp only [if_neg hss]
              exact .inl ⟨e.symm, fun r' => ⟨(fun e' => by rw [e] at e'; cases e'), fun e' => by rw [e] at e'; cases e'; exact hss rfl⟩⟩
          · rename_i s' r e
            by_cases hss : s' = s
            · simp only [if_pos hss]
              right
              refine ⟨by rw [e]; rfl, ?_⟩
              split
              · exact ⟨rfl, rfl⟩
              · split <;> exact ⟨rfl, rfl⟩
            · simp only [if_neg hss]
              exact .inl ⟨e.symm, fun r' => ⟨(fun e' => by rw [e] at e'; cases e'; exact hss rfl), fun e' => by rw [e] at e'; cases e'⟩⟩
          · rename_i v h1 h2
            exact .inl ⟨rfl, fun r' => ⟨fun e' => h2 s r' e', fun e' => h1 s r' e'⟩⟩
        · refine h.r.reveal hXB hS (fun b o hb => ⟨fun hh => hh.elim id (fun hh => absurd hh.1 hb), .inl⟩) (hlt _) (s := s) (fun t => ?_) hvg (fun te e y he => ?_)
          · by_cases hts : t = s
            · subst hts
              simp only [if_true]
              exact .inr ⟨hvg, by rw [← hvs]; exact o1, o2, o3, o4, fun l te hl => ⟨o5 l te hl, trivial, trivial⟩⟩
            · simp only [if_neg hts]
              split
              · rename_i s' r e
                by_cases hss : s' = s
                · subst hss
                  simp only [if_true]
                  right
                  refine ⟨by rw [e]; rfl, ?_⟩
                  obtain ⟨p', z', hh', c', k3, k4⟩ := h.val t s' r e
                  obtain ⟨e1, e2, e3, e4⟩ := hIs _ _ _ _ k3
                  subst e1 e3 e4
                  obtain rfl := eq_of_heq e2
                  by_cases htn : n ≤ t
                  · simp only [if_pos htn]
                    exact ⟨.bad _, (fun _ _ e => by cases e), (fun _ _ e => by cases e), (fun _ _ _ e => by cases e), (fun _ _ e => by cases e)⟩
                  · simp only [if_neg htn]
                    have htt := htv t (by omega)
                    cases r with
                    | nil =>
                      simp only
                      obtain ⟨q, y, c2, m1, m2, m3, m4, m5, _⟩ := k4
                      have e1 : locP w p' (.val vv) [] = some (p', .val vv) := by cases p' <;> rfl
                      have e2 : getPP p' z' [] = some ⟨p', z'⟩ := by cases p' <;> rfl
                      rw [e1] at m4
                      rw [e2] at m2
                      simp only [Option.some.injEq, Prod.mk.injEq, Sigma.mk.injEq] at m2 m4
                      obtain ⟨rfl, rfl⟩ := m4
                      obtain rfl := eq_of_heq m2.2
                      have hsl : p'.isSl = true := by cases p' <;> first | rfl | exact m3.elim
                      have m5' : vv.cells[0]? = some (tv gv a t) := m5
                      rw [valOk_cells hv hsl] at m5'
                      have htmp : a.tmps.getD t undef = a.tmps.getD s' undef := by
                        rw [← htt, ← hvs]; exact (Option.some.inj m5').symm
                      exact ⟨by rw [htmp, ← hvs]; exact o1, o2, o3, o4, fun l te hl => ⟨o5 l te hl, trivial, htmp⟩⟩
                    | cons st r =>
                      simp only
                      have hne : st :: r ≠ [] := by simp
                      obtain ⟨q, y, c2, m1, m2, m3, m4, m5, m6, m7⟩ := k4
                      rw [m2]
                      simp only
                      have hall : ∀ o, openLim p' z' o := by
                        rcases hlim _ q y hne m2 with hh | ⟨te, u, n', hp, hr⟩
                        · exact hh
                        · subst hp
                          rw [hr] at m2
                          simp only [getPP, Option.some.injEq, Sigma.mk.injEq] at m2
                          obtain ⟨rfl, _⟩ := m2
                          exact m3.elim
                      obtain ⟨q2, y2, n1, n2⟩ := open_head (S' := fun b o => S b o ∨ (F s' b ∧ openLim p' z' o)) k2 ⟨q, y, c2, m1, m2, m3, m4, m5, m6, m7⟩ hS (fun b hb o => .inr ⟨hb, hall o⟩) (hcv _ q y m2 hne ⟨_, m4⟩)
                      rw [m2] at n1
                      simp only [Option.some.injEq, Sigma.mk.injEq] at n1
                      obtain ⟨rfl, n1⟩ := n1
                      obtain rfl := eq_of_heq n1
                      exact ⟨by rw [← htt]; exact n2, (fun _ _ e => by cases e), (fun _ _ e => by cases e), (fun _ _ _ e => by cases e), (fun _ _ e => by cases e)⟩
                · simp only [if_neg hss]
                  exact .inl e.symm
              · rename_i s' r e
                by_cases hss : s' = s
                · subst hss
                  simp only [if_true]
                  right
                  refine ⟨by rw [e]; rfl, ?_⟩
                  obtain ⟨p', z', hh', c', k3, k4⟩ := h.adr t s' r e
                  obtain ⟨e1, e2, e3, e4⟩ := hIs _ _ _ _ k3
                  subst e1 e3 e4
                  obtain rfl := eq_of_heq e2
                  by_cases htn : n ≤ t
                  · simp only [if_pos htn]
                    exact ⟨.bad _, (fun _ _ e => by cases e), (fun _ _ e => by cases e), (fun _ _ _ e => by cases e), (fun _ _ e => by cases e)⟩
                  · simp only [if_neg htn]
                    have htt := htv t (by omega)
                    split
                    · rename_i q y hg
                      refine ⟨?_, (fun _ _ e => by cases e), (fun _ _ e => by cases e), (fun _ _ _ e => by cases e), (fun _ _ e => by cases e)⟩
                      rw [← htt]
                      have hne : r ≠ [] := by
                        rintro rfl
                        obtain ⟨q', g, o, m1, m2, _⟩ := k4
                        have e1 : locP w p' (.val vv) [] = some (p', .val vv) := by cases p' <;> rfl
                        rw [e1] at m2
                        simp at m2
                      have hFg : ∀ g o, tv gv a t = .pointer (some ⟨g, o, none⟩) → F s' g := fun g o e => by
                        obtain ⟨q', g', o', m1, m2, m3, m4, m5⟩ := k4
                        rw [m3] at e
                        cases e
                        exact m5
                      rcases hlim r q y hne hg with hall | ⟨te, u, n', hp, hr⟩
                      · exact open_adr k2 k4 hS (fun b hb _ o => .inr ⟨hb, hall o⟩) hg (fun g o e i _ => .inr ⟨hFg g o e, hall _⟩)
                      · subst hp hr
                        simp only [getPP, Option.some.injEq, Sigma.mk.injEq] at hg
                        obtain ⟨rfl, hg⟩ := hg
                        obtain rfl := eq_of_heq hg
                        -- an element of a flat row
                        obtain ⟨q', g, o, m1, m2, m3, m4, m5⟩ := id k4
                        have hin : n' < List.length z' := m1.1
                        obtain ⟨g1, o1', Fq, j1, j2, j3⟩ := adr_part (q := .leaf u) (y := List.getD z' n' (dflt u)) k2 k4 rfl
                        have hpart := j3.part
                        simp only [PM] at hpart
                        obtain ⟨_, cs, j4, j5⟩ := hpart
                        have hl := RdC.length _ _ _ j4
                        have hloc : o1' = n' * u.size := by
                          simp only [locP] at j2
                          split at j2
                          · simp only [Option.some.injEq, Prod.mk.injEq, Spot.blk.injEq, true_and] at j2
                            exact j2.2.symm
                          · cases j2
                        rw [j1]
                        refine .adr _ _ _ cs (RdC.keeps (fun b o hs => ⟨.inl hs, rfl⟩) u _ cs j4) ⟨rfl, fun _ => ⟨rfl, fun i v hv => ⟨.inr ⟨hFg g1 o1' j1, ?_⟩, j5 i v hv⟩⟩⟩
                        have hi := (List.getElem?_eq_some_iff.1 hv).1
                        show o1' + i < List.length z' * u.size
                        have : (n' + 1) * u.size ≤ List.length z' * u.size := Nat.mul_le_mul_right _ hin
                        rw [Nat.add_mul, Nat.one_mul] at this
                        omega
                    · exact ⟨.bad _, (fun _ _ e => by cases e), (fun _ _ e => by cases e), (fun _ _ _ e => by cases e), (fun _ _ e => by cases e)⟩
                · simp only [if_neg hss]
                  exact .inl e.symm
              · exact .inl rfl
          · simp only [if_true] at he
            have := o6 te e y (fun k => (base k ∨ ∃ t, F t k) ∧ ¬ F s k) he (fun b hb hh => hh.2 hb)
            rw [hvs] at this
            exact this
  · -- a pointer's tree
    rename_i p x hfs
    simp only [Option.some.injEq] at hf
    have hroot := h.root s (by rw [hfs]; rfl)
    rw [hfs] at hroot
    generalize hvv : tv gv a s = vv at hroot
    cases hroot with
    | tree _ _ p' z' hh' c' k1 k2 =>
      cases k1 with
      | pbox _ _ _ b0 =>
        have hvg : (fr s).vague = true := by rw [hfs]; rfl
        have hvs : (Value.pointer (some ⟨b0, 0, none⟩)) = a.tmps.getD s undef := by rw [← hvv]; exact htv s hs
        have hIs : ∀ p' z' hh' c', IsRoot (fr s) (tv gv a s) p' z' hh' c' → p' = p ∧ HEq z' x ∧ hh' = none ∧ c' = .blk b0 0 := fun p' z' hh' c' hi => by
          rw [hfs, hvv] at hi
          cases hi with
          | pbox => exact ⟨rfl, HEq.rfl, rfl, rfl⟩
        have hS : ∀ b o, S b o → (S b o ∨ (F s b ∧ True)) := fun b o hh => .inl hh
        have hcore : PM w S p (blkR w b0 0) x (fun b => F s b ∧ (Spot.blk b0 0).block ≠ some b) := k2.core
        subst hf
        refine fin (fun b o => S b o ∨ (F s b ∧ True)) _ hS (fun b o hb => ⟨fun hh => hh.elim id (fun hh => absurd hh.1 hb), .inl⟩) hvg (by simp only [if_true]; rfl) (by simp only [if_true]; rfl) (fun t ht => ?_) ?_
        · simp only [if_neg ht]
          split
          · rename_i s' r e
            by_cases hss : s' = s
            · simp only [if_pos hss]
              right
              refine ⟨by rw [e]; rfl, ?_⟩
              split
              · exact ⟨rfl, rfl⟩
              · split <;> exact ⟨rfl, rfl⟩
            · simp only [if_neg hss]
              exact .inl ⟨e.symm, fun r' => ⟨(fun e' => by rw [e] at e'; cases e'), fun e' => by rw [e] at e'; cases e'; exact hss rfl⟩⟩
          · rename_i s' r e
            by_cases hss : s' = s
            · simp only [if_pos hss]
              right
              refine ⟨by rw [e]; rfl, ?_⟩
              split
              · exact ⟨rfl, rfl⟩
              · split <;> exact ⟨rfl, rfl⟩
            · simp only [if_neg hss]
              exact .inl ⟨e.symm, fun r' => ⟨(fun e' => by rw [e] at e'; cases e'; exact hss rfl), fun e' => by rw [e] at e'; cases e'⟩⟩
          · rename_i v h1 h2
            exact .inl ⟨rfl, fun r' => ⟨fun e' => h2 s r' e', fun e' => h1 s r' e'⟩⟩
        · refine h.r.reveal hXB hS (fun b o hb => ⟨fun hh => hh.elim id (fun hh => absurd hh.1 hb), .inl⟩) (hlt _) (s := s) (fun t => ?_) hvg (fun te e y he => ?_)
          · by_cases hts : t = s
            · subst hts
              simp only [if_true]
              refine .inr ⟨hvg, ?_, (fun _ _ e => by cases e), (fun _ _ e => by cases e), (fun _ _ _ e => by cases e), (fun _ _ e => by cases e)⟩
              obtain ⟨cs, m1, m2⟩ := PM.open hS p _ x _ hcore (fun b hb o => .inr ⟨hb.1, trivial⟩)
              rw [← hvs]
              exact .adr _ _ _ cs m1 ⟨rfl, fun _ => ⟨rfl, fun i v hv => ⟨.inr ⟨(k2.blk b0 rfl).1, trivial⟩, m2 i v hv⟩⟩⟩
            · simp only [if_neg hts]
              split
              · rename_i s' r e
                by_cases hss : s' = s
                · subst hss
                  simp only [if_true]
                  right
                  refine ⟨by rw [e]; rfl, ?_⟩
                  obtain ⟨p', z', hh', c', k3, k4⟩ := h.val t s' r e
                  obtain ⟨e1, e2, e3, e4⟩ := hIs _ _ _ _ k3
                  subst e1 e3 e4
                  obtain rfl := eq_of_heq e2
                  by_cases htn : n ≤ t
                  · simp only [if_pos htn]
                    exact ⟨.bad _, (fun _ _ e => by cases e), (fun _ _ e => by cases e), (fun _ _ _ e => by cases e), (fun _ _ e => by cases e)⟩
                  · simp only [if_neg htn]
                    have htt := htv t (by omega)
                    obtain ⟨q2, y2, n1, n2⟩ := open_head (S' := fun b o => S b o ∨ (F s' b ∧ True)) k2 k4 hS (fun b hb o => .inr ⟨hb, trivial⟩) (fun v e => by cases e)
                    rw [n1]
                    exact ⟨by rw [← htt]; exact n2, (fun _ _ e => by cases e), (fun _ _ e => by cases e), (fun _ _ _ e => by cases e), (fun _ _ e => by cases e)⟩
                · simp only [if_neg hss]
                  exact .inl e.symm
              · rename_i s' r e
                by_cases hss : s' = s
                · subst hss
                  simp only [if_true]
                  right
                  refine ⟨by rw [e]; rfl, ?_⟩
                  obtain ⟨p', z', hh', c', k3, k4⟩ := h.adr t s' r e
                  obtain ⟨e1, e2, e3, e4⟩ := hIs _ _ _ _ k3
                  subst e1 e3 e4
                  obtain rfl := eq_of_heq e2
                  by_cases htn : n ≤ t
                  · simp only [if_pos htn]
                    exact ⟨.bad _, (fun _ _ e => by cases e), (fun _ _ e => by cases e), (fun _ _ _ e => by cases e), (fun _ _ e => by cases e)⟩
                  · simp only [if_neg htn]
                    have htt := htv t (by omega)
                    split
                    · rename_i q y hg
                      refine ⟨?_, (fun _ _ e => by cases e), (fun _ _ e => by cases e), (fun _ _ _ e => by cases e), (fun _ _ e => by cases e)⟩
                      rw [← htt]
                      refine open_adr k2 k4 hS (fun b hb _ o => .inr ⟨hb, trivial⟩) hg (fun g o e i _ => .inr ⟨?_, trivial⟩)
                      obtain ⟨q', g', o', m1, m2, m3, m4, m5⟩ := k4
                      rw [m3] at e
                      cases e
                      exact m5
                    · exact ⟨.bad _, (fun _ _ e => by cases e), (fun _ _ e => by cases e), (fun _ _ _ e => by cases e), (fun _ _ e => by cases e)⟩
                · simp only [if_neg hss]
                  exact .inl e.symm
              · exact .inl rfl
          · simp only [if_true] at he
            cases he
  · cases hf
end
end Go.Av
