/-
  Operations on private trees: what the machine does.
-/
import Derived.Test.YtcfhfjjohmdaoaaDoorAvPStep
namespace Go.Av
open Go.RowKit Go.Lib

section
variable {base : Nat → Prop} {w0 w : World} {S0 S : Stable} {fr : Fr} {gv : Nat → Value} {a : Act} {F : Nat → Nat → Prop} {P : Program} {E : EnvP}

theorem tv_put (gv : Nat → Value) (a : Act) (d : Nat) (v : Value) (t : Nat) (hd : d < a.tmps.size) : tv gv (a.put (some d) v) t = if t = d then v else tv gv a t := by
  simp only [tv, Act.put]
  by_cases h : t = d
  · subst h; simp [hd]
  · rw [if_neg h]; simp [Array.getElem?_setIfInBounds_ne (Ne.symm h)]

theorem tv_eval (gv : Nat → Value) (a : Act) (t : Nat) (ht : t < a.tmps.size) : tv gv a t = a.eval (.tmp t) := by
  simp only [tv, Act.eval, Array.getD, ht, dif_pos]

theorem sweep_or (fr : Fr) (d t : Nat) : fr.sweep d t = fr t ∨ ((fr t).vague = true ∧ (fr.sweep d t).vague = true) := by
  unfold Fr.sweep
  split
  · rename_i s r e; split
    · right; rw [e]; exact ⟨rfl, rfl⟩
    · left; exact e.symm
  · rename_i s r e; split
    · right; rw [e]; exact ⟨rfl, rfl⟩
    · left; exact e.symm
  · exact .inl rfl

theorem sweep_root (fr : Fr) (d t : Nat) : (fr.sweep d t).isRoot = (fr t).isRoot ∧ ((fr t).isRoot = true → fr.sweep d t = fr t) := by
  unfold Fr.sweep
  split
  · rename_i s r e; rw [e]; split <;> exact ⟨rfl, fun h => by cases h⟩
  · rename_i s r e; rw [e]; split <;> exact ⟨rfl, fun h => by cases h⟩
  · exact ⟨rfl, fun _ => rfl⟩

theorem sweep_adr {fr : Fr} {d t s : Nat} {r : List PStep} (h : fr.sweep d t = .padr s r) : fr t = .padr s r ∧ s ≠ d := by
  unfold Fr.sweep at h
  split at h
  · rename_i s' r' e; split at h
    · cases h
    · rename_i hne; cases h; exact ⟨e, hne⟩
  · split at h <;> cases h
  · rename_i h1 h2; exact absurd h (h1 s r)
theorem sweep_val {fr : Fr} {d t s : Nat} {r : List PStep} (h : fr.sweep d t = .pval s r) : fr t = .pval s r ∧ s ≠ d := by
  unfold Fr.sweep at h
  split at h
  · split at h <;> cases h
  · rename_i s' r' e; split at h
    · cases h
    · rename_i hne; cases h; exact ⟨e, hne⟩
  · rename_i h1 h2; exact absurd h (h2 s r)

theorem drop_root (v : AV) (d : Nat) : (v.drop d).isRoot = v.isRoot ∧ (v.isRoot = true → v.drop d = v) := by
  cases v with
  | dat s x o => exact ⟨rfl, fun h => by cases h⟩
  | badr s p => simp only [AV.drop]; split <;> exact ⟨rfl, fun h => by cases h⟩
  | _ => exact ⟨rfl, fun _ => rfl⟩
theorem drop_adr {v : AV} {d s : Nat} {r : List PStep} (h : v.drop d = .padr s r) : v = .padr s r := by
  cases v with
  | dat s x o => cases h
  | badr s p => simp only [AV.drop] at h; split at h <;> cases h
  | _ => exact h
theorem drop_val {v : AV} {d s : Nat} {r : List PStep} (h : v.drop d = .pval s r) : v = .pval s r := by
  cases v with
  | dat s x o => cases h
  | badr s p => simp only [AV.drop] at h; split at h <;> cases h
  | _ => exact h

theorem putP_self (fr : Fr) (d : Nat) (v : AV) : fr.putP d v d = v := by simp [Fr.putP, Fr.put]
theorem putP_root (fr : Fr) (d : Nat) (v : AV) {t : Nat} (ht : t ≠ d) : (fr.putP d v t).isRoot = (fr t).isRoot ∧ ((fr t).isRoot = true → fr.putP d v t = fr t) := by
  unfold Fr.putP Fr.put
  rw [if_neg ht]
  obtain ⟨h1, h2⟩ := sweep_root fr d t
  obtain ⟨h3, h4⟩ := drop_root (fr.sweep d t) d
  exact ⟨h3.trans h1, fun h => (h4 (h1.trans h)).trans (h2 h)⟩
theorem putP_adr {fr : Fr} {d t s : Nat} {v : AV} {r : List PStep} (h : fr.putP d v t = .padr s r) (ht : t ≠ d) : fr t = .padr s r ∧ s ≠ d := by
  unfold Fr.putP Fr.put at h
  rw [if_neg ht] at h
  exact sweep_adr (drop_adr h)
theorem putP_val {fr : Fr} {d t s : Nat} {v : AV} {r : List PStep} (h : fr.putP d v t = .pval s r) (ht : t ≠ d) : fr t = .pval s r ∧ s ≠ d := by
  unfold Fr.putP Fr.put at h
  rw [if_neg ht] at h
  exact sweep_val (drop_val h)

theorem RP.rsweep (h : RP base w0 S0 S fr gv a w F) (d : Nat) : R (fun k => base k ∨ ∃ t, F t k) w S S (fr.sweep d) a w := h.r.repriv (fun t => sweep_or fr d t)

/-- A slot is written; the world may have grown; no tree is touched. -/
theorem RP.putV (h : RP base w0 S0 S fr gv a w F) {d : Nat} (hd : d < a.tmps.size) {val : Value} {v : AV} {S' : Stable} {w' : World}
    (hr : R (fun k => base k ∨ ∃ t, F t k) w S S' ((fr.sweep d).put d v) (a.put (some d) val) w') (hroot : v.isRoot = false)
    (hadr : ∀ s r, v = .padr s r → s ≠ d ∧ ∃ p x h c, IsRoot (fr s) (tv gv a s) p x h c ∧ AdrAt w p c x r val (F s))
    (hval : ∀ s r, v = .pval s r → s ≠ d ∧ ∃ p x h c, IsRoot (fr s) (tv gv a s) p x h c ∧ ValAt w p c x r val (F s)) :
    RP base w0 S0 S' (fr.putP d v) gv (a.put (some d) val) w' (fun t b => t ≠ d ∧ F t b) := by
  have hb : ∀ t b, F t b → w'.heap[b]? = w.heap[b]? := fun t b hF => hr.below.block b (.inr ⟨t, hF⟩)
  have htv : ∀ t, t ≠ d → tv gv (a.put (some d) val) t = tv gv a t := fun t ht => by rw [tv_put gv a d val t hd, if_neg ht]
  have htd : tv gv (a.put (some d) val) d = val := by rw [tv_put gv a d val d hd, if_pos rfl]
  have hFs : ∀ s, s ≠ d → (fun b => s ≠ d ∧ F s b) = F s := fun s hs => funext fun b => propext ⟨(·.2), fun hh => ⟨hs, hh⟩⟩
  refine h.upd (fun t => t = d) (hr.rebase (fun k hk => hk.imp id (fun ⟨t, ht⟩ => ⟨t, ht.2⟩))) ⟨hr.below.os, hr.below.tape, hr.below.output, hr.below.size, fun k hk => hr.below.block k (.inl hk)⟩ (fun b o hB => hr.old b o (.inl hB)) hr.kp
    (fun t ht b => ⟨(·.2), fun hh => ⟨ht, hh⟩⟩) (fun t b _ hF => hb t b hF) (fun t b o _ hF => hr.old b o (.inr ⟨t, hF⟩))
    (fun t ht => ?_) (fun t b ht hh => absurd ht hh.1) (fun t t' b ht _ hh => absurd ht hh.1) (fun t ht _ b hh => absurd ht hh.1) (fun t ht hh => ?_) (fun t s r ht => ?_) (fun t s r ht => ?_)
  · obtain ⟨e1, e2⟩ := putP_root fr d v ht
    exact ⟨e1, fun hh => ⟨e2 hh, htv t ht⟩⟩
  · subst ht
    rw [putP_self, hroot] at hh
    cases hh
  · by_cases htd' : t = d
    · subst htd'
      rw [putP_self] at ht
      obtain ⟨hs, p, x, hh, c, h1, h2⟩ := hadr s r ht
      right
      refine ⟨p, x, hh, c, ?_, ?_⟩
      · rw [(putP_root fr t v hs).2 h1.isRoot, htv s hs]; exact h1
      · rw [hFs s hs, htd]
        exact h2.step (fun b hF => hb s b hF)
    · obtain ⟨e1, e2⟩ := putP_adr ht htd'
      exact .inl ⟨e2, e1, htv t htd'⟩
  · by_cases htd' : t = d
    · subst htd'
      rw [putP_self] at ht
      obtain ⟨hs, p, x, hh, c, h1, h2⟩ := hval s r ht
      right
      refine ⟨p, x, hh, c, ?_, ?_⟩
      · rw [(putP_root fr t v hs).2 h1.isRoot, htv s hs]; exact h1
      · rw [hFs s hs, htd]
        exact h2.step (fun b hF => hb s b hF)
    · obtain ⟨e1, e2⟩ := putP_val ht htd'
      exact .inl ⟨e2, e1, htv t htd'⟩

/-- A value that owns nothing, in the same world. -/
theorem RP.putPlain (h : RP base w0 S0 S fr gv a w F) {d : Nat} (hd : d < a.tmps.size) {val : Value} {v : AV} (hv : Rd w S val v) (hp : v.plain = true) (hroot : v.isRoot = false)
    (hadr : ∀ s r, v = .padr s r → s ≠ d ∧ ∃ p x h c, IsRoot (fr s) (tv gv a s) p x h c ∧ AdrAt w p c x r val (F s))
    (hval : ∀ s r, v = .pval s r → s ≠ d ∧ ∃ p x h c, IsRoot (fr s) (tv gv a s) p x h c ∧ ValAt w p c x r val (F s)) :
    RP base w0 S0 S (fr.putP d v) gv (a.put (some d) val) w (fun t b => t ≠ d ∧ F t b) :=
  h.putV hd ((h.rsweep d).put_plain hd hv hp) hroot hadr hval

theorem RP.putDat (h : RP base w0 S0 S fr gv a w F) {d : Nat} (hd : d < a.tmps.size) {val : Value} {v : AV} (hv : Rd w S val v) (hp : v.plain = true) (hpr : v.isPriv = false) :
    RP base w0 S0 S (fr.putP d v) gv (a.put (some d) val) w (fun t b => t ≠ d ∧ F t b) := by
  refine h.putPlain hd hv hp ?_ ?_ ?_
  · cases v <;> first | rfl | (simp [AV.isPriv, AV.isRoot] at hpr)
  · rintro s r rfl; cases hpr
  · rintro s r rfl; cases hpr

/-- The place that an operand is. -/
theorem RP.place (h : RP base w0 S0 S fr gv a w F) {x : Operand} {ad : Bool} {s : Nat} {r : List PStep} {n : Nat} (hp : placeV n fr x = some (ad, s, r)) :
    ∃ y, x = .tmp y ∧ y < n ∧ ∃ p z hh c, IsRoot (fr s) (tv gv a s) p z hh c ∧ Root w S p z hh c (F s) ∧ (ad = true → AdrAt w p c z r (tv gv a y) (F s)) ∧ (ad = false → ValAt w p c z r (tv gv a y) (F s)) := by
  have getroot : ∀ s, (∃ p z hh c, IsRoot (fr s) (tv gv a s) p z hh c) → ∀ p z hh c, IsRoot (fr s) (tv gv a s) p z hh c → Root w S p z hh c (F s) := fun s _ p z hh c hi => by
    have h1 := h.root s hi.isRoot
    generalize hav : fr s = av at h1 hi
    generalize hvv : tv gv a s = vv at h1 hi
    cases h1 with
    | tree _ _ p' z' hh' c' k1 k2 =>
      obtain ⟨e1, e2, e3, e4⟩ := hi.det k1
      subst e1 e3 e4
      obtain rfl := eq_of_heq e2
      exact k2
    | itr s0 pos b bs k1 k2 k3 k4 => cases hi
  unfold placeV at hp
  split at hp
  · rename_i y
    split at hp
    · cases hp
    rename_i hyn
    refine ⟨y, rfl, Nat.lt_of_not_le hyn, ?_⟩
    split at hp
    · rename_i p z hh e
      split at hp
      · rename_i hsl
        simp only [Option.some.injEq, Prod.mk.injEq] at hp
        obtain ⟨rfl, rfl, rfl⟩ := hp
        have h1 := h.root y (by rw [e]; rfl)
        rw [e] at h1
        generalize hvv : tv gv a y = vv at h1
        cases h1 with
        | tree _ _ p' z' hh' c' k1 k2 =>
          cases k1 with
          | pv _ _ _ _ hv =>
            refine ⟨p, z, hh, .val vv, by rw [e]; exact .pv p z hh vv hv, k2, (fun e => by cases e), fun _ => ?_⟩
            have hc0 : ∀ p : PSh, p.isSl = true → ∀ z : Den p.sh, getPP p z [] = some ⟨p, z⟩ ∧ locP w p (.val vv) [] = some (p, .val vv) ∧ spineP w p (.val vv) [] = [] ∧ inPP p z [] := fun p hp z => by
              cases p <;> first | exact ⟨rfl, rfl, rfl, trivial⟩ | cases hp
            obtain ⟨c1, c2, c3, c4⟩ := hc0 p hsl z
            refine ⟨p, z, .val vv, c4, c1, k2.hdr vv rfl hsl, c2, ?_, (fun k hk => by rw [c3] at hk; cases hk), fun g hg => by cases hg⟩
            have hag : p.agg = false := by cases p <;> first | rfl | cases hsl
            unfold valOk at hv
            rw [hag] at hv
            simp only [Bool.false_eq_true, if_false] at hv
            show vv.cells[0]? = some vv
            cases vv <;> first | rfl | (simp [Value.oneCell'] at hv)
      · cases hp
    · rename_i s' r' e
      simp only [Option.some.injEq, Prod.mk.injEq] at hp
      obtain ⟨rfl, rfl, rfl⟩ := hp
      obtain ⟨p, z, hh, c, k1, k2⟩ := h.val y s' r' e
      exact ⟨p, z, hh, c, k1, getroot s' ⟨p, z, hh, c, k1⟩ p z hh c k1, (fun e => by cases e), fun _ => k2⟩
    · rename_i p z hh e
      simp only [Option.some.injEq, Prod.mk.injEq] at hp
      obtain ⟨rfl, rfl, rfl⟩ := hp
      have h1 := h.root y (by rw [e]; rfl)
      rw [e] at h1
      generalize hvv : tv gv a y = vv at h1
      cases h1 with
      | tree _ _ p' z' hh' c' k1 k2 =>
        cases k1 with
        | pbox _ _ _ b =>
          refine ⟨p, z, hh, .blk b 0, by rw [e]; exact .pbox p z hh b, k2, fun _ => ?_, fun e => by cases e⟩
          have hc0 : ∀ p : PSh, ∀ z : Den p.sh, locP w p (.blk b 0) [] = some (p, .blk b 0) ∧ spineP w p (.blk b 0) [] = [] ∧ inPP p z [] := fun p z => by
            cases p <;> exact ⟨rfl, rfl, trivial⟩
          obtain ⟨c2, c3, c4⟩ := hc0 p z
          exact ⟨p, b, 0, c4, c2, rfl, (fun k hk => by rw [c3] at hk; cases hk), (k2.blk b rfl).1⟩
    · rename_i s' r' e
      simp only [Option.some.injEq, Prod.mk.injEq] at hp
      obtain ⟨rfl, rfl, rfl⟩ := hp
      obtain ⟨p, z, hh, c, k1, k2⟩ := h.adr y s' r' e
      exact ⟨p, z, hh, c, k1, getroot s' ⟨p, z, hh, c, k1⟩ p z hh c k1, fun _ => k2, fun e => by cases e⟩
    · cases hp
  · cases hp

/-- The tree that a slot holds. -/
theorem treeV_root {s : Nat} {T : Tree} (ht : treeV fr s = some T) {v : Value} {p : PSh} {z : Den p.sh} {hh : Option (List PStep)} {c : Spot} (hi : IsRoot (fr s) v p z hh c) : T = ⟨p, z, hh⟩ := by
  unfold treeV at ht
  generalize fr s = av at ht hi
  cases hi with
  | pv => exact (Option.some.inj ht).symm
  | pbox => exact (Option.some.inj ht).symm

theorem RP.placeT (h : RP base w0 S0 S fr gv a w F) {x : Operand} {ad : Bool} {s : Nat} {r : List PStep} {n : Nat} {p : PSh} {z : Den p.sh} {hh : Option (List PStep)} (hp : placeV n fr x = some (ad, s, r)) (ht : treeV fr s = some ⟨p, z, hh⟩) :
    ∃ y, x = .tmp y ∧ y < n ∧ ∃ c, IsRoot (fr s) (tv gv a s) p z hh c ∧ Root w S p z hh c (F s) ∧ (ad = true → AdrAt w p c z r (tv gv a y) (F s)) ∧ (ad = false → ValAt w p c z r (tv gv a y) (F s)) := by
  obtain ⟨y, e1, e2, p', z', hh', c, h1, h2, h3, h4⟩ := h.place hp
  have e3 := treeV_root ht h1
  simp only [Tree.mk.injEq] at e3
  obtain ⟨e4, e5, e6⟩ := e3
  subst e4
  obtain rfl := eq_of_heq e5
  subst e6
  exact ⟨y, e1, e2, c, h1, h2, h3, h4⟩
end
end Go.Av
