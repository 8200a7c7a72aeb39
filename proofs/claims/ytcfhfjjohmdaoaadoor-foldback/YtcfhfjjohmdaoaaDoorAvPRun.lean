/-
  One operation: the machine does what the frame says.
-/
import Derived.Test.YtcfhfjjohmdaoaaDoorAvPIter
namespace Go.Av
open Go.RowKit Go.Lib

section
variable {base : Nat → Prop} {w0 w : World} {S0 S : Stable} {fr : Fr} {gv : Nat → Value} {a : Act} {F : Nat → Nat → Prop} {P : Program} {E : EnvP}

theorem wp_tmps {o : Oper} {K : Act → World → Prop} {Q : Exit → Act → World → Prop} (h : o.wp P a w K Q) : o.wp P a w (fun a' w' => K a' w' ∧ ∃ v, a'.tmps = (a.put o.dst v).tmps) Q := by
  unfold Oper.wp at *
  generalize (execOp a.eval o).run P w = r at *
  cases r with
  | ok n w' =>
    cases n <;> simp only [Oper.upon] at h ⊢
    case value v => exact ⟨h, v, rfl⟩
    case skip => exact ⟨h, undef, rfl⟩
    case defer d => exact ⟨h, undef, by cases o.dst <;> rfl⟩
    case enter f args =>
      refine Calls.mono h fun e w'' he => ?_
      cases e with
      | returned v => exact ⟨he, v, rfl⟩
      | panicked c => exact he
      | outgrown => exact he
    case row row args => exact Rows.mono h fun v w'' he => ⟨he, v, rfl⟩
  | halt x w' =>
    cases x <;> simp only [Oper.upon] at h ⊢
    case panic u => exact h

theorem OpDoes.tmps {o : Oper} {Post : Act → World → Prop} (h : OpDoes P o a w Post) : OpDoes P o a w (fun a' w' => Post a' w' ∧ ∃ v, a'.tmps = (a.put o.dst v).tmps) := fun K Q hK => by
  have h1 := wp_tmps (h Post Q (fun _ _ hh => hh))
  exact Oper.wp_mono (fun a' w' hh => hK a' w' hh) h1

theorem spent_priv (v : AV) (d : Nat) : ((v.spent d).isPriv = true → v.spent d = v) ∧ (v.isPriv = true → v.spent d = v) := by
  cases v with
  | dat s x o => exact ⟨(fun h => by cases h), fun h => by cases h⟩
  | _ => exact ⟨fun _ => rfl, fun _ => rfl⟩
theorem drop_priv (v : AV) (d : Nat) : ((v.drop d).isPriv = true → v.drop d = v) ∧ (v.isPriv = true → v.drop d = v) := by
  cases v with
  | dat s x o => exact ⟨(fun h => by cases h), fun h => by cases h⟩
  | badr s p =>
    refine ⟨fun h => ?_, fun h => by cases h⟩
    simp only [AV.drop] at h
    split at h <;> cases h
  | _ => exact ⟨fun _ => rfl, fun _ => rfl⟩

/-- Whether a frame keeps what is private, but for a slot. -/
def KeepsP (fr fr' : Fr) (d : Nat) : Prop := ∀ t, t ≠ d → (fr' t).isPriv = true ∨ (fr t).isPriv = true → fr' t = fr t

theorem keepsP_put (fr : Fr) (d : Nat) (v : AV) : KeepsP fr (fr.put d v) d := fun t ht h => by
  unfold Fr.put at *
  rw [if_neg ht] at *
  exact h.elim (drop_priv _ _).1 (drop_priv _ _).2
theorem keepsP_spend (fr : Fr) (l d : Nat) (v : AV) : KeepsP fr ((fr.spend l).put d v) d := fun t ht h => by
  have h1 := keepsP_put (fr.spend l) d v t ht
  have h2 := spent_priv (fr t) l
  rcases h with h | h
  · have h3 := h1 (.inl h)
    rw [h3] at h ⊢
    exact h2.1 h
  · have h4 : (fr.spend l) t = fr t := h2.2 h
    have h3 := h1 (.inr (by rw [h4]; exact h))
    rw [h3, h4]
theorem keepsP_spendO (fr : Fr) (l : Option Nat) (d : Nat) (v : AV) : KeepsP fr ((spendO fr l).put d v) d := by
  cases l with
  | none => exact keepsP_put fr d v
  | some l => exact keepsP_spend fr l d v

theorem special_keepsP {E : Env} {fr fr' : Fr} {o : Oper} {d : Nat} {ok : Bool} (he : special E fr o d = some (ok, fr')) : KeepsP fr fr' d := by
  unfold special at he
  split at he
  · split at he
    · split at he
      · simp only [Option.some.injEq, Prod.mk.injEq] at he; rw [← he.2]; exact keepsP_put _ _ _
      · cases he
    · rename_i y _
      split at he
      · rename_i s z hf
        split at he
        · cases he
        · simp only [Option.some.injEq, Prod.mk.injEq] at he
          rw [← he.2]
          intro t ht h
          have h1 := keepsP_put (fr.put y .bad) d (.box s z) t ht
          by_cases hty : t = y
          · subst hty
            have e1 : (fr.put t .bad) t = .bad := by simp [Fr.put]
            rcases h with h | h
            · have := h1 (.inl h)
              rw [this, e1] at h
              cases h
            · rw [hf] at h; cases h
          · have h2 := keepsP_put fr y .bad t hty
            rcases h with h | h
            · have h3 := h1 (.inl h)
              rw [h3] at h ⊢
              exact h2 (.inl h)
            · have h3 := h2 (.inr h)
              rw [h1 (.inr (by rw [h3]; exact h)), h3]
      · simp only [Option.some.injEq, Prod.mk.injEq] at he; rw [← he.2]; exact keepsP_spend _ _ _ _
      · split at he
        · split at he
          · simp only [Option.some.injEq, Prod.mk.injEq] at he; rw [← he.2]; exact keepsP_put _ _ _
          · cases he
    · split at he
      · split at he
        · simp only [Option.some.injEq, Prod.mk.injEq] at he; rw [← he.2]; exact keepsP_put _ _ _
        · cases he
  · split at he
    · split at he
      · split at he
        · split at he
          · simp only [Option.some.injEq, Prod.mk.injEq] at he; rw [← he.2]; exact keepsP_spendO _ _ _ _
          · cases he
        · cases he
      · cases he
    · split at he
      · split at he
        · split at he
          · split at he
            · split at he
              · simp only [Option.some.injEq, Prod.mk.injEq] at he; rw [← he.2]; exact keepsP_spend _ _ _ _
              · cases he
            · cases he
          · cases he
        · cases he
      · cases he
    · cases he
  · split at he
    · simp only [Option.some.injEq, Prod.mk.injEq] at he; rw [← he.2]; exact keepsP_put _ _ _
    · cases he
  · split at he
    · split at he
      · simp only [Option.some.injEq, Prod.mk.injEq] at he; rw [← he.2]; exact keepsP_put _ _ _
      · cases he
    · cases he
  · split at he
    · split at he
      · simp only [Option.some.injEq, Prod.mk.injEq] at he; rw [← he.2]; exact keepsP_put _ _ _
      · cases he
    · split at he
      · simp only [Option.some.injEq, Prod.mk.injEq] at he; rw [← he.2]; exact keepsP_spend _ _ _ _
      · cases he
    · cases he
  · cases he

theorem stepU_keepsP {E : Env} {fr fr' : Fr} {o : Oper} {d : Nat} {ok : Bool} (he : stepU E fr o d = some (ok, fr')) : KeepsP fr fr' d := by
  unfold stepU at he
  split at he
  · split at he
    · simp only [Option.some.injEq, Prod.mk.injEq] at he; rw [← he.2]; exact keepsP_put _ _ _
    · cases he
  · split at he
    · simp only [Option.some.injEq, Prod.mk.injEq] at he; rw [← he.2]; exact keepsP_put _ _ _
    · exact special_keepsP he

/-- What an operation that touches no tree leaves. -/
theorem RP.otherD (h : RP base w0 S0 S fr gv a w F) {d : Nat} (hd : d < a.tmps.size) {S' : Stable} {fr' : Fr} {a' : Act} {w' : World} (hr : R (fun k => base k ∨ ∃ t, F t k) w S S' fr' a' w') {val : Value} (ha : a'.tmps = (a.put (some d) val).tmps)
    (hk : KeepsP fr fr' d) (hp : (fr' d).isPriv = false) : RP base w0 S0 S' (fr'.sweep d) gv a' w' (fun t b => t ≠ d ∧ F t b) := by
  have htv : ∀ t, t ≠ d → tv gv a' t = tv gv a t := fun t ht => by
    have : tv gv a' t = tv gv (a.put (some d) val) t := by unfold tv; rw [ha]
    rw [this, tv_put gv a d val t hd, if_neg ht]
  have hb : ∀ t b, F t b → w'.heap[b]? = w.heap[b]? := fun t b hF => hr.below.block b (.inr ⟨t, hF⟩)
  have hsd : ∀ t, (fr'.sweep d t).isRoot = (fr' t).isRoot ∧ ((fr' t).isRoot = true → fr'.sweep d t = fr' t) := sweep_root fr' d
  have hdr : (fr' d).isRoot = false := by generalize fr' d = av at hp; cases av <;> first | rfl | cases hp
  have hrr : ∀ v : AV, v.isRoot = true → v.isPriv = true := fun v hv => by unfold AV.isPriv; rw [hv]; rfl
  refine h.upd (fun t => t = d) ((hr.repriv (sweep_or fr' d)).rebase (fun k hk => hk.imp id (fun ⟨t, ht⟩ => ⟨t, ht.2⟩))) ⟨hr.below.os, hr.below.tape, hr.below.output, hr.below.size, fun k hk => hr.below.block k (.inl hk)⟩ (fun b o hB => hr.old b o (.inl hB)) hr.kp
    (fun t ht b => ⟨(·.2), fun hh => ⟨ht, hh⟩⟩) (fun t b _ hF => hb t b hF) (fun t b o _ hF => hr.old b o (.inr ⟨t, hF⟩))
    (fun t ht => ?_) (fun t b ht hh => absurd ht hh.1) (fun t t' b ht _ hh => absurd ht hh.1) (fun t ht _ b hh => absurd ht hh.1) (fun t ht hh => ?_) (fun t s r ht => ?_) (fun t s r ht => ?_)
  · obtain ⟨e1, e2⟩ := hsd t
    constructor
    · rw [e1]
      cases h1 : (fr' t).isRoot with
      | true => rw [hk t ht (.inl (hrr _ h1))] at h1; exact h1.symm
      | false =>
        cases h2 : (fr t).isRoot with
        | true => rw [hk t ht (.inr (hrr _ h2)), h2] at h1; cases h1
        | false => rfl
    · intro hh
      have e3 := hk t ht (.inr (hrr _ hh))
      exact ⟨by rw [e2 (by rw [e3]; exact hh), e3], htv t ht⟩
  · subst ht
    rw [(hsd t).1, hdr] at hh
    cases hh
  · obtain ⟨e1, e2⟩ := sweep_adr ht
    have htd : t ≠ d := fun e => by rw [e] at e1; rw [e1] at hp; cases hp
    exact .inl ⟨e2, by rw [← hk t htd (.inl (by rw [e1]; rfl))]; exact e1, htv t htd⟩
  · obtain ⟨e1, e2⟩ := sweep_val ht
    have htd : t ≠ d := fun e => by rw [e] at e1; rw [e1] at hp; cases hp
    exact .inl ⟨e2, by rw [← hk t htd (.inl (by rw [e1]; rfl))]; exact e1, htv t htd⟩

theorem PPost.of {n : Nat} {tame : Prop} {fr' : Fr} {a' : Act} {w' : World} {S1 : Stable} {F1 : Nat → Nat → Prop} (hk : Keeps w S w S1) (hp : PPost base w0 S0 n gv w S1 F1 tame fr' a' w') : PPost base w0 S0 n gv w S F False fr' a' w' := by
  obtain ⟨h1, S', F', h2, h3, _⟩ := hp
  exact ⟨h1, S', F', h2, hk.trans h3, fun hf => hf.elim⟩

theorem RP.freezes (hn : a.tmps.size = E.nt) : ∀ (l : List Nat) (fr : Fr) (S : Stable) (F : Nat → Nat → Prop) (fr' : Fr), RP base w0 S0 S fr gv a w F → freezeL E.nt l fr = some fr' → ∃ S' F', RP base w0 S0 S' fr' gv a w F' ∧ Keeps w S w S' ∧ (l = [] → S' = S ∧ F' = F ∧ fr' = fr)
  | [], fr, S, F, fr', h, he => by
    simp only [freezeL, Option.some.injEq] at he
    subst he
    exact ⟨S, F, h, Keeps.refl _ _, fun _ => ⟨rfl, rfl, rfl⟩⟩
  | s :: l, fr, S, F, fr', h, he => by
    simp only [freezeL] at he
    split at he
    · obtain ⟨S', F', h1, h2, _⟩ := RP.freezes hn l fr S F fr' h he
      exact ⟨S', F', h1, h2, fun e => by cases e⟩
    · split at he
      · rename_i fr1 hf
        obtain ⟨S1, h1, h2⟩ := h.frozen hn hf
        obtain ⟨S', F', h3, h4, _⟩ := RP.freezes hn l fr1 S1 _ fr' h1 he
        exact ⟨S', F', h3, h2.trans h4, fun e => by cases e⟩
      · cases he

theorem PPost.mono {n : Nat} {tame tame' : Prop} {fr' : Fr} {a' : Act} {w' : World} (h : tame' → tame) (hp : PPost base w0 S0 n gv w S F tame fr' a' w') : PPost base w0 S0 n gv w S F tame' fr' a' w' := by
  obtain ⟨h1, S', F', h2, h3, h4⟩ := hp
  exact ⟨h1, S', F', h2, h3, fun ht => h4 (h ht)⟩

theorem and3' {x y z : Bool} (h : (x && y && z) = true) : x = true ∧ y = true ∧ z = true := by cases x <;> cases y <;> cases z <;> simp_all

theorem privPure_ok (hn : a.tmps.size = E.nt) (h : RP base w0 S0 S fr gv a w F) (hT : TyOk P E.toEnv) {o : Oper} {d : Nat} (hd : d < a.tmps.size) {fr' : Fr} (he : privPure E fr o d = some (some (true, fr'))) :
    PYields P base w0 S0 gv a w S F o d ((fr d).isRoot = false) (fun _ => True) fr' := by
  unfold privPure at he
  rw [← hn] at he
  split at he
  · -- move
    rename_i x hop
    split at he
    · rename_i ad s r hp
      simp only [Option.some.injEq] at he
      split at he
      · cases he
      · rename_i hne
        simp only [Option.some.injEq, Prod.mk.injEq, true_and] at he
        subst he
        exact h.copyRef hd hp hne (fun y hy hyl w' => by subst hy; unfold execOp; simp only [hop]; rw [tv_eval gv a y hyl]; rfl)
    · cases he
  · -- assign
    rename_i x hop
    split at he
    · cases he
    split at he
    · rename_i ad s r hp
      simp only [Option.some.injEq] at he
      split at he
      · cases he
      · rename_i hne
        split at he
        · rename_i hw
          simp only [Option.some.injEq, Prod.mk.injEq, true_and] at he
          subst he
          obtain ⟨y, rfl, hy, hr, hv, _⟩ := h.topVal hp hw
          exact h.movesRoot hd hr hne (fun w' => by unfold execOp; simp only [hop]; rw [← hv, tv_eval gv a y hy]; rfl)
        · simp only [Option.some.injEq, Prod.mk.injEq, true_and] at he
          subst he
          exact h.copyRef hd hp hne (fun y hy hyl w' => by subst hy; unfold execOp; simp only [hop]; rw [tv_eval gv a y hyl]; rfl)
    · cases he
  · -- a length
    rename_i c hop
    obtain ⟨callee, args, argTypes⟩ := c
    split at he
    · rename_i x t hc hargs htypes
      simp only at hc hargs htypes
      subst hc
      obtain rfl : args = #[x] := Array.ext' hargs
      obtain rfl : argTypes = #[t] := Array.ext' htypes
      split at he
      · rename_i s r hp
        simp only [Option.some.injEq] at he
        split at he
        · rename_i p y hh ht
          split at he
          · rename_i q z hg
            split at he
            · rename_i n hl
              split at he
              · rename_i hty
                simp only [Option.some.injEq, Prod.mk.injEq, true_and] at he
                subst he
                exact h.rLen hd hop hp ht hg hl hT hty
              · cases he
            · cases he
          · cases he
        · cases he
      · simp at he
      · cases he
    · cases he
  · -- an index
    rename_i t x i hop
    split at he
    · rename_i s r hp
      simp only [Option.some.injEq] at he
      split at he
      · cases he
      · rename_i hne
        split at he
        · rename_i p y hh ht
          split at he
          · rename_i te e z n hg hn'
            split at he
            · rename_i hty
              simp only [Option.some.injEq, Prod.mk.injEq, Bool.and_eq_true, decide_eq_true_eq] at he
              obtain ⟨⟨⟨hi, h0⟩, hlt⟩, rfl⟩ := he
              exact h.rIdx hT hd hop hp hne ht hg hty (vi := (rdo E.toEnv fr true 0 i).2) (Prod.ext hi rfl) hn' h0 hlt
            · cases he
          · cases he
        · cases he
    · simp at he
    · cases he
  · cases he

theorem privLoad_ok (hn : a.tmps.size = E.nt) (h : RP base w0 S0 S fr gv a w F) (hT : TyOk P E.toEnv) {o : Oper} {d : Nat} (hd : d < a.tmps.size) {fr' : Fr} (he : privLoad E fr o d = some (some (true, fr'))) :
    ∃ x k g o', a.eval x = .pointer (some ⟨g, o', none⟩) ∧ (∃ s, F s g) ∧ PYields P base w0 S0 gv a w S F o d ((fr d).isRoot = false) (LoadsAs a x w k) fr' := by
  unfold privLoad at he
  rw [← hn] at he
  split at he
  · -- a load
    rename_i t x hop
    split at he
    · rename_i s r hp
      simp only [Option.some.injEq] at he
      split at he
      · cases he
      · rename_i hne
        split at he
        · rename_i p y ht
          obtain ⟨u, hu1, hu2, c, _, _, hadr, _⟩ := h.placeT hp ht
          obtain ⟨_, g, o', _, _, hptr, _, hFg⟩ := hadr rfl
          have hptr' : a.eval x = .pointer (some ⟨g, o', none⟩) := by rw [hu1, ← tv_eval gv a u hu2]; exact hptr
          split at he
          · rename_i q z hg
            split at he
            · rename_i hty
              split at he
              · rename_i hpl
                simp only [Option.some.injEq, Prod.mk.injEq, true_and] at he
                subst he
                exact ⟨_, _, _, _, hptr', ⟨_, hFg⟩, h.rLoad hT hd hop hp ht hg hty hpl⟩
              · split at he
                · rename_i n hl
                  simp only [Option.some.injEq, Prod.mk.injEq, true_and] at he
                  subst he
                  exact ⟨_, _, _, _, hptr', ⟨_, hFg⟩, h.rHead hT hd hop hp hne ht hg hty hl⟩
                · cases he
            · cases he
          · cases he
        · cases he
    · cases he
  · cases he

theorem privOp_ok (hn : a.tmps.size = E.nt) (h : RP base w0 S0 S fr gv a w F) (hT : TyOk P E.toEnv) {o : Oper} {d : Nat} (hdst : o.dst = some d) (hd : d < a.tmps.size) {fr' : Fr} (he : privOp E fr o d = some (some (true, fr'))) :
    OpDoes P o a w (PPost base w0 S0 E.nt gv w S F ((fr d).isRoot = false) fr') := by
  rw [← hn]
  unfold privOp at he
  split at he
  · rename_i r hr
    rw [he] at hr
    exact (privPure_ok hn h hT hd hr).does hdst
  · obtain ⟨x, k, _, _, _, _, hy⟩ := privLoad_ok hn h hT hd he
    exact hy.does hdst

theorem privStore_ok (hn : a.tmps.size = E.nt) (h : RP base w0 S0 S fr gv a w F) (hT : TyOk P E.toEnv) {o : Oper} (hdst : o.dst = none) {t : TypeId} {x y : Operand} (hop : o.op = .store t x y) {fr' : Fr} (he : privStore E fr t x y = some (some (true, fr'))) :
    OpDoes P o a w (PPost base w0 S0 E.nt gv w S F False fr') := by
  rw [← hn]
  unfold privStore at he
  rw [← hn] at he
  split at he
  · rename_i s r hp
    simp only [Option.some.injEq] at he
    split at he
    · rename_i p z ht
      split at he
      · rename_i q y0 ok u v oy hg hy
        split at he
        · rename_i hc
          obtain ⟨hu, hpl, hty, hz⟩ := hc
          subst hu
          split at he
          · rename_i z' hset
            simp only [Option.some.injEq, Prod.mk.injEq] at he
            obtain ⟨rfl, rfl⟩ := he
            exact h.sData hT hdst hop hp ht hg hty hpl hy hset hz
          · cases he
        · cases he
      · cases he
    · cases he
  · simp at he
  · cases he

/-- An operation of the rest. -/
theorem RP.oldStep (hn : a.tmps.size = E.nt) (h : RP base w0 S0 S fr gv a w F) (hT : TyOk P E.toEnv) (hF : ∀ w S, Keeps w0 S0 w S → EnvOk P E w S) {o : Oper} {d : Nat} (hdst : o.dst = some d) (hd : d < a.tmps.size) {fr' : Fr} (he : stepU E.toEnv fr o d = some (true, fr')) (hp : (fr' d).isPriv = false) :
    OpDoes P o a w (PPost base w0 S0 E.nt gv w S F ((fr d).isRoot = false) (fr'.sweep d)) := by
  refine (stepU_ok (E := E.toEnv) hn h.r hT (hF _ _ h.kp).1 hdst hd he).tmps.mono fun a' w' ⟨⟨h1, S', h2, h3⟩, v, h4⟩ => ?_
  rw [hdst] at h4
  exact ⟨h1, S', _, h.otherD hd h2 h4 (stepU_keepsP he) hp, h3, fun ht t b hb => ⟨h2.below.block b (.inr ⟨t, hb⟩), t, not_root h ht hb, hb⟩⟩

theorem makeP_ok (hn : a.tmps.size = E.nt) (h : RP base w0 S0 S fr gv a w F) (hT : TyOk P E.toEnv) (hF : ∀ w S, Keeps w0 S0 w S → EnvOk P E w S) {o : Oper} {d : Nat} (hdst : o.dst = some d) (hd : d < a.tmps.size) {fr' : Fr} (he : makeP E fr o d = some (some (true, fr'))) :
    OpDoes P o a w (PPost base w0 S0 E.nt gv w S F ((fr d).isRoot = false) fr') := by
  unfold makeP at he
  split at he
  · split at he
    · rename_i ok e' l k te' hef
      simp only [Option.some.injEq] at he
      split at he
      · rename_i hc
        obtain ⟨rfl, rfl, hf⟩ := hc
        simp only [Option.some.injEq, Prod.mk.injEq] at he
        obtain ⟨rfl, rfl⟩ := he
        rw [← hn]
        exact h.made hT (hF _ _ h.kp).1 hdst hd hef hf
      · cases he
    · cases he
  · cases he

def isNext : Op → Bool
  | .next _ _ => true
  | _ => false
/-- Whether an operation leaves the trees that there are. -/
def tameOp (E : EnvP) (fr : Fr) (o : Oper) (d : Nat) : Bool :=
  !(fr d).isRoot && !isNext o.op && match privOp E fr o d with
    | some _ => true
    | none => (treesOf E.nt fr o.op.operands.toList).isEmpty

theorem stepD_ok (hn : a.tmps.size = E.nt) (h : RP base w0 S0 S fr gv a w F) (hT : TyOk P E.toEnv) (hF : ∀ w S, Keeps w0 S0 w S → EnvOk P E w S) {o : Oper} {d : Nat} (hdst : o.dst = some d) (hd : d < a.tmps.size) {fr' : Fr} (he : stepD E fr o d = some (true, fr')) :
    OpDoes P o a w (PPost base w0 S0 E.nt gv w S F (tameOp E fr o d = true) fr') := by
  unfold stepD at he
  unfold tameOp
  split at he
  · rename_i r hr
    subst he
    rw [hr]
    exact (privOp_ok hn h hT hdst hd hr).mono fun a' w' hp => hp.mono (fun ht => by simp only [Bool.and_eq_true] at ht; simpa using ht.1.1)
  · rename_i hr
    rw [hr]
    split at he
    · cases he
    · rename_i fr1 hf
      obtain ⟨S1, F1, h1, h2, h3⟩ := RP.freezes hn _ _ _ _ _ h hf
      -- nothing was laid open, or the operation is not tame
      have fin : ∀ {fr'' : Fr} {a' : Act} {w' : World} {T : Prop}, ((fr1 d).isRoot = false → isNext o.op = false → T) → PPost base w0 S0 E.nt gv w S1 F1 T fr'' a' w' →
          PPost base w0 S0 E.nt gv w S F ((!(fr d).isRoot && !isNext o.op && (treesOf E.nt fr o.op.operands.toList).isEmpty) = true) fr'' a' w' := fun hT' hp => by
        by_cases hl : treesOf E.nt fr o.op.operands.toList = []
        · obtain ⟨e1, e2, e3⟩ := h3 hl
          subst e1 e2 e3
          exact hp.mono (fun ht => by simp only [Bool.and_eq_true] at ht; exact hT' (by simpa using ht.1.1) (by simpa using ht.1.2))
        · have := PPost.of (F := F) h2 hp
          exact this.mono (fun ht => by simp only [Bool.and_eq_true] at ht; exact hl (by simpa using ht.2))
      split at he
      · rename_i r hm
        subst he
        exact (makeQ_ok hn h1 hT (hF _ _ h1.kp).2 hdst hd hm).mono fun a' w' hp => fin (fun k1 k2 => ⟨k1, fun x b e => by rw [e] at k2; cases k2⟩) hp
      split at he
      · rename_i r hm
        subst he
        exact (makeP_ok hn h1 hT hF hdst hd hm).mono fun a' w' hp => fin (fun k1 _ => k1) hp
      · split at he
        · rename_i ok fr2 hs
          split at he
          · cases he
          · rename_i hpr
            simp only [Option.some.injEq, Prod.mk.injEq] at he
            obtain ⟨rfl, rfl⟩ := he
            exact (h1.oldStep hn hT hF hdst hd hs (by simpa using hpr)).mono fun a' w' hp => fin (fun k1 _ => k1) hp
        · cases he

theorem guardP_ok (h : RP base w0 S0 S fr gv a w F) {ops : Array Oper} {o : Oper} {j : Nat} {want G : Bool} (hg : o.guard = some (j, want)) (he : guardB ops fr j want = some G) : Region.wanted o (yielded ops a.tmps) = G := guard_ok h.r hg he

/-- Whether an operation leaves the trees that there are: of a region. -/
def tameP (E : EnvP) (ops : Array Oper) (fr : Fr) (o : Oper) : Bool :=
  match o.dst with
  | some d => match o.guard with
    | none => tameOp E fr o d
    | some (j, want) => match guardB ops fr j want with
      | some true => tameOp E fr o d
      | _ => !(fr d).isRoot
  | none => match o.op with
    | .store t x y => (privStore E fr t x y).isNone && (treesOf E.nt fr [y]).isEmpty
    | _ => false

/-- One operation: if it is carried out it does what the frame says; if not, the frame says so. -/
theorem stepP_ok (hn : a.tmps.size = E.nt) (h : RP base w0 S0 S fr gv a w F) (hT : TyOk P E.toEnv) (hF : ∀ w S, Keeps w0 S0 w S → EnvOk P E w S) {ops : Array Oper} {o : Oper} {fr' : Fr} (he : stepP E ops fr o = some (true, fr')) :
    (Region.wanted o (yielded ops a.tmps) = true ∧ OpDoes P o a w (PPost base w0 S0 E.nt gv w S F (tameP E ops fr o = true) fr')) ∨
    (Region.wanted o (yielded ops a.tmps) = false ∧ PPost base w0 S0 E.nt gv w S F (tameP E ops fr o = true) fr' (a.put o.dst undef) w) := by
  unfold stepP at he
  unfold tameP
  split at he
  · rename_i d hdst
    simp only [hdst]
    split at he
    · cases he
    rename_i hlt
    have hd : d < a.tmps.size := by rw [hn]; exact Nat.lt_of_not_le hlt
    split at he
    · rename_i hg
      have hw : Region.wanted o (yielded ops a.tmps) = true := by simp [Region.wanted, hg]
      simp only [hg]
      exact .inl ⟨hw, stepD_ok hn h hT hF hdst hd he⟩
    · rename_i j want hg
      simp only [hg]
      split at he
      · rename_i hG
        simp only [hG]
        exact .inl ⟨guardP_ok h hg hG, stepD_ok hn h hT hF hdst hd he⟩
      · rename_i hG
        simp only [Option.some.injEq, Prod.mk.injEq, true_and] at he
        subst he
        simp only [hG]
        refine .inr ⟨guardP_ok h hg hG, ?_⟩
        have := h.putDat hd (val := undef) (v := .cnd false .bad) (.cnd _ _ _ (fun _ => rfl) (fun e => by cases e)) rfl rfl
        exact ⟨by rw [put_size, hn], S, fun t b => t ≠ d ∧ F t b, this, Keeps.refl w S, fun ht t b hb => ⟨rfl, t, not_root h (by simpa using ht) hb, hb⟩⟩
      · cases he
  · rename_i hdst
    simp only [hdst]
    split at he
    · rename_i t x y hg hop
      have hw : Region.wanted o (yielded ops a.tmps) = true := by simp [Region.wanted, hg]
      simp only [hop]
      refine .inl ⟨hw, ?_⟩
      split at he
      · rename_i r hr
        subst he
        rw [hr]
        exact (privStore_ok hn h hT hdst hop hr).mono fun a' w' hp => hp.mono (fun ht => by simp at ht)
      · rename_i hr
        rw [hr]
        split at he
        · cases he
        · rename_i fr1 hf
          obtain ⟨S1, F1, h1, h2, h3⟩ := RP.freezes hn _ _ _ _ _ h hf
          rcases step_ok (E := E.toEnv) hn h1.r hT (hF _ _ h1.kp).1 he with ⟨_, hd⟩ | ⟨hw', _⟩
          · refine hd.tmps.mono fun a' w' ⟨⟨k1, S', k2, k3⟩, v, k4⟩ => ?_
            have ha : a'.tmps = a.tmps := by rw [k4, hdst]; rfl
            -- only a shared box has turned
            have hkp : ∀ t, (fr' t).isPriv = true ∨ (fr1 t).isPriv = true → fr' t = fr1 t := fun t ht => by
              unfold stepOp at he
              simp only [hdst, hg, hop] at he
              split at he
              · rename_i okx b p oky u z oz _ _
                split at he
                · rename_i s q hb
                  split at he
                  · split at he
                    · simp only [Option.some.injEq, Prod.mk.injEq] at he
                      obtain ⟨_, rfl⟩ := he
                      unfold Fr.rebox at *
                      by_cases htb : t = b
                      · subst htb
                        rw [if_pos rfl] at *
                        rcases ht with ht | ht
                        · cases ht
                        · rw [hb] at ht; cases ht
                      · rw [if_neg htb]
                    · cases he
                  · cases he
                · cases he
              · cases he
            have htv : ∀ t, tv gv a' t = tv gv a t := fun t => by unfold tv; rw [ha]
            have hrr : ∀ v : AV, v.isRoot = true → v.isPriv = true := fun v hv => by unfold AV.isPriv; rw [hv]; rfl
            have hR := h1.upd (fun _ => False) (F' := F1) (k2.rebase (fun k hk => hk)) ⟨k2.below.os, k2.below.tape, k2.below.output, k2.below.size, fun k hk => k2.below.block k (.inl hk)⟩ (fun b o hB => k2.old b o (.inl hB)) k2.kp (fun _ _ _ => Iff.rfl)
              (fun t b _ hb => k2.below.block b (.inr ⟨t, hb⟩)) (fun t b o _ hb => k2.old b o (.inr ⟨t, hb⟩))
              (fun t _ => ⟨by
                cases e1 : (fr' t).isRoot with
                | true => rw [hkp t (.inl (hrr _ e1))] at e1; exact e1.symm
                | false => cases e2 : (fr1 t).isRoot with
                  | true => rw [hkp t (.inr (hrr _ e2)), e2] at e1; cases e1
                  | false => rfl, fun hh => ⟨hkp t (.inr (hrr _ hh)), htv t⟩⟩)
              (fun _ _ hf => hf.elim) (fun _ _ _ hf => hf.elim) (fun _ hf => hf.elim) (fun _ hf => hf.elim)
              (fun t s r ht => .inl ⟨fun hf => hf, by rw [← hkp t (.inl (by rw [ht]; rfl))]; exact ht, htv t⟩) (fun t s r ht => .inl ⟨fun hf => hf, by rw [← hkp t (.inl (by rw [ht]; rfl))]; exact ht, htv t⟩)
            refine ⟨k1, S', F1, hR, h2.trans k3, fun ht t b hb => ?_⟩
            have hl : treesOf E.nt fr [y] = [] := by simpa using ht
            obtain ⟨e1, e2, e3⟩ := h3 hl
            subst e2
            exact ⟨k2.below.block b (.inr ⟨t, hb⟩), t, hb⟩
          · rw [hw] at hw'; cases hw'
    · cases he
end
end Go.Av
