/-
  Code and functions, with private trees.
-/
import Derived.Test.YtcfhfjjohmdaoaaDoorAvPDraw
import Derived.Scope
namespace Go.Av
open Go.RowKit Go.Lib

/-- A list of operations, one behind the other. -/
def evOpsP (E : EnvP) (ops : Array Oper) : List Oper → Fr → (Fr → Option AV) → Option AV
  | [], fr, K => K fr
  | o :: rest, fr, K => match stepP E ops fr o with
    | some (ok, fr') => bif ok then splitB ops o.dst fr' (fun fr2 => evOpsP E ops rest fr2 K) else none
    | none => none

def cutVP (l : List Nat) : AV → AV
  | .padr s r => match keepsL l s with
    | true => .padr s r
    | false => .bad
  | .pval s r => match keepsL l s with
    | true => .pval s r
    | false => .bad
  | v => cutV l v
/-- Just the slots named. -/
def cutFP (o : Option (List Nat)) (fr : Fr) : Fr :=
  match o with
  | some l => frOf (l.map fun s => (s % 1000000, cutVP l (fr (s % 1000000))))
  | none => fr

def kBlockP (id : Nat) (o : Option (List Nat)) (K : Ex → Fr → Option AV) : Ex → Fr → Option AV
  | .normal, fr => K .normal (cutFP o fr)
  | .exit i, fr => if i = id then K .normal fr else K (.exit i) fr
  | .ret, fr => K .ret fr

def evCP (E : EnvP) (lp : Code → (Ex → Fr → Option AV) → Fr → Option AV) : Code → (Ex → Fr → Option AV) → Fr → Option AV
  | .skip, K, fr => K .normal fr
  | .region _ ops false, K, fr => evOpsP E ops ops.toList fr (K .normal)
  | .region _ ops true, K, fr => if Region.noSelect ops then evDrawP E ops (ops.size + 1) (Array.replicate ops.size false) [] fr (K .normal) else none
  | .seq a b, K, fr => evCP E lp a (kSeq (evCP E lp b) K) fr
  | .cond c a b, K, fr => match rdo E.toEnv fr true 0 c with
    | (ok, .dat .bool t _) => bif ok then (bif t then evCP E lp a K fr else evCP E lp b K fr) else none
    | _ => none
  | .block id c, K, fr => evCP E lp c (kBlockP id (E.cutb id) K) fr
  | .loop c, K, fr => lp c K (cutFP (E.cuts (headId c)) (openL (E.frz (headId c)) fr))
  | .scope c, K, fr => evCP E lp c K fr
  | .label _, K, fr => K .normal fr
  | .exit id, K, fr => K (.exit id) (cutFP (E.cutb id) fr)
  | .ret, K, fr => K .ret (cutFP E.cutr fr)
  | _, _, _ => none

def evLP (E : EnvP) : Nat → Code → (Ex → Fr → Option AV) → Fr → Option AV
  | 0, _, _, _ => none
  | n + 1, c, K, fr => evCP E (evLP E n) c (kSeq (fun K fr => evLP E n c K (cutFP (E.cuts (headId c)) fr)) K) fr

def resOpd : ResultVar → Operand
  | .tmp t => .tmp t
  | .cell t _ => .tmp t
def resultsP (E : EnvP) (rs : Array ResultVar) (fr : Fr) : Option AV :=
  match freezeL E.nt (treesOf E.nt fr (rs.toList.map resOpd)) fr with
  | some fr' => results' E.toEnv rs fr'
  | none => none

def kFnP (E : EnvP) (rs : Array ResultVar) : Ex → Fr → Option AV
  | .normal, fr => resultsP E rs fr
  | .ret, fr => resultsP E rs fr
  | .exit _, _ => none

/-- A function's body, from its arguments. -/
def evFnP (E : EnvP) (n : Nat) (c : Code) (rs : Array ResultVar) (avs : List AV) : Option AV :=
  if E.nt < avs.length then none else evCP E (evLP E n) c (kFnP E rs) (fun t => (avs.getD t .bad).strip)

section
variable {base : Nat → Prop} {w0 : World} {S0 : Stable} {gv : Nat → Value} {P : Program} {E : EnvP}

theorem evOpsP_ok (hT : TyOk P E.toEnv) (hF : ∀ w S, Keeps w0 S0 w S → EnvOk P E w S) {ops : Array Oper} {Q : Exit → Act → World → Prop} {K : Fr → Option AV} {r : AV}
    (hK : ∀ fr' a' w', K fr' = some r → RRP base w0 S0 E.nt gv fr' a' w' → Q .normal a' w') : ∀ (l : List Oper) (fr : Fr) (a : Act) (w : World), evOpsP E ops l fr K = some r → RRP base w0 S0 E.nt gv fr a w → wpList P ops Q l a w
  | [], fr, a, w, he, hR => hK fr a w he hR
  | o :: rest, fr, a, w, he, ⟨hn, S, F, h⟩ => by
    simp only [evOpsP] at he
    cases hs : stepP E ops fr o with
    | none => rw [hs] at he; cases he
    | some p =>
      obtain ⟨ok, fr'⟩ := p
      rw [hs] at he
      simp only at he
      cases ok with
      | false => cases he
      | true =>
        simp only [cond_true] at he
        replace he := splitB_ok he
        unfold wpList
        rcases stepP_ok hn h hT hF hs with ⟨hw, hd⟩ | ⟨hw, hR'⟩
        · rw [if_pos hw]
          exact .inl (hd _ _ fun a' w' ⟨hn', S', F', hR', _⟩ => evOpsP_ok hT hF hK rest fr' a' w' he ⟨hn', S', F', hR'⟩)
        · rw [hw]
          obtain ⟨hn', S', F', hR', _⟩ := hR'
          exact evOpsP_ok hT hF hK rest fr' _ w he ⟨hn', S', F', hR'⟩

theorem RP.drew {w : World} {S : Stable} {fr : Fr} {a : Act} {F : Nat → Nat → Prop} (h : RP base w0 S0 S fr gv a w F) : RP base w0 S0 S fr gv a { w with drawn := w.drawn + 1 } F := by
  have hR : R (fun k => base k ∨ ∃ t, F t k) { w with drawn := w.drawn + 1 } S S fr a { w with drawn := w.drawn + 1 } := (h.r.drew).rebase (fun k hk => hk)
  exact h.upd (fun _ => False) hR ⟨rfl, rfl, rfl, Nat.le_refl _, fun _ _ => rfl⟩ (fun _ _ _ => Iff.rfl) (drew_keeps w S) (fun _ _ _ => Iff.rfl) (fun _ _ _ _ => rfl) (fun _ _ _ _ _ => Iff.rfl) (fun _ _ => ⟨rfl, fun _ => ⟨rfl, rfl⟩⟩)
    (fun _ _ hf => hf.elim) (fun _ _ _ hf => hf.elim) (fun _ hf => hf.elim) (fun _ hf => hf.elim) (fun t s r ht => .inl ⟨fun hf => hf, ht, rfl⟩) (fun t s r ht => .inl ⟨fun hf => hf, ht, rfl⟩)

theorem cutVP_or (l : List Nat) (v : AV) : cutVP l v = cutV l v ∨ (v.isRef = true ∧ (cutVP l v = v ∨ cutVP l v = .bad)) := by
  cases v with
  | padr s r =>
    right
    refine ⟨rfl, ?_⟩
    simp only [cutVP]
    split
    · exact .inl rfl
    · exact .inr rfl
  | pval s r =>
    right
    refine ⟨rfl, ?_⟩
    simp only [cutVP]
    split
    · exact .inl rfl
    · exact .inr rfl
  | _ => exact .inl rfl

theorem frOf_cutP (fr : Fr) (l0 : List Nat) : ∀ (l : List Nat) (t : Nat), frOf (l.map fun s => (s % 1000000, cutVP l0 (fr (s % 1000000)))) t = if (l.map (· % 1000000)).contains t then cutVP l0 (fr t) else .bad
  | [], t => rfl
  | s :: l, t => by
    simp only [List.map_cons, frOf, List.contains_cons]
    by_cases e : t = s % 1000000
    · subst e; simp
    · rw [if_neg e, frOf_cutP fr l0 l t]
      simp [e]

theorem cutVP_root (l : List Nat) (v : AV) : (cutVP l v).isRoot = v.isRoot ∧ (v.isRoot = true → cutVP l v = v) := by
  cases v with
  | dat s x o =>
    refine ⟨?_, fun h => by cases h⟩
    cases o with
    | none => rfl
    | some p => simp only [cutVP, cutV]; split <;> rfl
  | badr s p => refine ⟨?_, fun h => by cases h⟩; simp only [cutVP, cutV]; split <;> rfl
  | padr s r => refine ⟨?_, fun h => by cases h⟩; simp only [cutVP]; split <;> rfl
  | pval s r => refine ⟨?_, fun h => by cases h⟩; simp only [cutVP]; split <;> rfl
  | _ => exact ⟨rfl, fun _ => rfl⟩

theorem cutVP_adr {l : List Nat} {v : AV} {s : Nat} {r : List PStep} (h : cutVP l v = .padr s r) : v = .padr s r ∧ keepsL l s = true := by
  cases v with
  | dat s x o => cases o with
    | none => cases h
    | some p => simp only [cutVP, cutV] at h; split at h <;> cases h
  | badr s p => simp only [cutVP, cutV] at h; split at h <;> cases h
  | padr s' r' =>
    simp only [cutVP] at h
    split at h
    · rename_i hk; cases h; exact ⟨rfl, hk⟩
    · cases h
  | pval s r => simp only [cutVP] at h; split at h <;> cases h
  | _ => cases h
theorem cutVP_val {l : List Nat} {v : AV} {s : Nat} {r : List PStep} (h : cutVP l v = .pval s r) : v = .pval s r ∧ keepsL l s = true := by
  cases v with
  | dat s x o => cases o with
    | none => cases h
    | some p => simp only [cutVP, cutV] at h; split at h <;> cases h
  | badr s p => simp only [cutVP, cutV] at h; split at h <;> cases h
  | pval s' r' =>
    simp only [cutVP] at h
    split at h
    · rename_i hk; cases h; exact ⟨rfl, hk⟩
    · cases h
  | padr s r => simp only [cutVP] at h; split at h <;> cases h
  | _ => cases h

theorem RP.cut {w : World} {S : Stable} {fr : Fr} {a : Act} {F : Nat → Nat → Prop} (h : RP base w0 S0 S fr gv a w F) (o : Option (List Nat)) : ∃ F', RP base w0 S0 S (cutFP o fr) gv a w F' := by
  cases o with
  | none => exact ⟨F, h⟩
  | some l =>
    have hat : ∀ t, cutFP (some l) fr t = if (l.map (· % 1000000)).contains t then cutVP l (fr t) else .bad := frOf_cutP fr l l
    have hat0 : ∀ t, cutF (some l) fr t = if (l.map (· % 1000000)).contains t then cutV l (fr t) else .bad := frOf_cut fr l l
    let X : Nat → Prop := fun t => (l.map (· % 1000000)).contains t = false
    refine ⟨fun t b => ¬ X t ∧ F t b, ?_⟩
    have hR := (h.r.cut (some l)).repriv (fr' := cutFP (some l) fr) (fun t => by
      rw [hat, hat0]
      split
      · rcases cutVP_or l (fr t) with e | ⟨e1, e2⟩
        · exact .inl e
        · right
          have hv : (fr t).vague = true := isRef_vague e1
          have hc : cutV l (fr t) = fr t := by generalize fr t = av at e1; cases av <;> first | rfl | cases e1
          rw [hc]
          refine ⟨hv, ?_⟩
          rcases e2 with e2 | e2
          · rw [e2]; exact hv
          · rw [e2]; rfl
      · exact .inl rfl)
    have hX : ∀ t, ¬ X t → (l.map (· % 1000000)).contains t = true := fun t ht => by
      cases hc : (l.map (· % 1000000)).contains t with
      | true => rfl
      | false => exact absurd hc ht
    refine h.upd X (hR.rebase (fun k hk => hk.imp id (fun ⟨t, ht⟩ => ⟨t, ht.2⟩))) (Kept.refl _ _) (fun _ _ _ => Iff.rfl) (Keeps.refl _ _) (fun t ht b => ⟨(·.2), fun hh => ⟨ht, hh⟩⟩) (fun _ _ _ _ => rfl) (fun _ _ _ _ _ => Iff.rfl)
      (fun t ht => ?_) (fun t b ht hh => absurd ht hh.1) (fun t t' b ht _ hh => absurd ht hh.1) (fun t ht _ b hh => absurd ht hh.1) (fun t ht hh => ?_) (fun t s r ht => ?_) (fun t s r ht => ?_)
    · rw [hat, hX t ht]
      obtain ⟨e1, e2⟩ := cutVP_root l (fr t)
      exact ⟨e1, fun hh => ⟨e2 hh, rfl⟩⟩
    · have hc : (l.map (· % 1000000)).contains t = false := ht
      rw [hat, hc] at hh
      cases hh
    · rw [hat] at ht
      split at ht
      · obtain ⟨e1, e2⟩ := cutVP_adr ht
        exact .inl ⟨(fun hx => by have hc : (l.map (· % 1000000)).contains s = false := hx; rw [keepsL_in e2] at hc; cases hc), e1, rfl⟩
      · cases ht
    · rw [hat] at ht
      split at ht
      · obtain ⟨e1, e2⟩ := cutVP_val ht
        exact .inl ⟨(fun hx => by have hc : (l.map (· % 1000000)).contains s = false := hx; rw [keepsL_in e2] at hc; cases hc), e1, rfl⟩
      · cases ht

theorem RRP.cut {n : Nat} {fr : Fr} {a : Act} {w : World} (h : RRP base w0 S0 n gv fr a w) (o : Option (List Nat)) : RRP base w0 S0 n gv (cutFP o fr) a w := by
  obtain ⟨hn, S, F, h⟩ := h
  obtain ⟨F', h'⟩ := h.cut o
  exact ⟨hn, S, F', h'⟩

theorem RRP.opens {n : Nat} {fr : Fr} {a : Act} {w : World} (h : RRP base w0 S0 n gv fr a w) (l : List Nat) : RRP base w0 S0 n gv (openL l fr) a w := by
  obtain ⟨hn, S, F, h⟩ := h
  obtain ⟨S', h', _⟩ := RP.openL l fr S h
  exact ⟨hn, S', F, h'⟩

/-- What is asked of all that may come behind a piece of code. -/
structure GoesP (E : EnvP) (base : Nat → Prop) (w0 : World) (S0 : Stable) (gv : Nat → Value) (K : Ex → Fr → Option AV) (r : AV) (Q : Exit → Act → World → Prop) : Prop where
  panics : ∀ c a w, ¬ Q (.panic c) a w
  go : ∀ ex fr a w, K ex fr = some r → RRP base w0 S0 E.nt gv fr a w → Q (exOf ex) a w

theorem evCP_ok (hT : TyOk P E.toEnv) (hF : ∀ w S, Keeps w0 S0 w S → EnvOk P E w S) (hm : P.follows .mixedOrders = true) {r : AV} {N : Nat} {lp : Code → (Ex → Fr → Option AV) → Fr → Option AV}
    (hlp : ∀ c K Q fr a w, lp c K fr = some r → GoesP E base w0 S0 gv K r Q → RRP base w0 S0 E.nt gv fr a w → Code.rounds P c Q N a w) :
    ∀ (c : Code) (K : Ex → Fr → Option AV) (Q : Exit → Act → World → Prop) (fr : Fr) (a : Act) (w : World), evCP E lp c K fr = some r → GoesP E base w0 S0 gv K r Q → RRP base w0 S0 E.nt gv fr a w → c.wp P Q a w
  | .skip, K, Q, fr, a, w, he, hK, hR => wp_skip (hK.go .normal fr a w he hR)
  | .region id ops false, K, Q, fr, a, w, he, hK, hR =>
    wp_region_list (evOpsP_ok hT hF (fun fr' a' w' h1 h2 => hK.go .normal fr' a' w' h1 h2) ops.toList fr a w he hR)
  | .region id ops true, K, Q, fr, a, w, he, hK, hR => by
    simp only [evCP] at he
    split at he
    · rename_i hsel
      obtain ⟨hn, S, F, h⟩ := hR
      exact wp_region_L (W := fun _ w' => Keeps { w with drawn := w.drawn + 1 } S w' S) hm (evDrawP_ok hT hF hsel hK.panics (fun fr' a' w' h1 h2 => hK.go .normal fr' a' w' h1 h2) _ _ _ [] fr a _ S F _ he hn h.drew (fun _ hπ => by cases hπ)
        (fun _ w' _ hk _ => hk) (fun _ _ _ _ _ _ hh => hh) (fun j oj hj hl => by simp [Array.getElem?_replicate] at hl; split at hl <;> simp at hl) (Nat.le_refl _))
    · cases he
  | .seq x y, K, Q, fr, a, w, he, hK, hR => by
    refine wp_seq (evCP_ok hT hF hm hlp x _ _ fr a w he ⟨fun c a w => hK.panics c a w, fun ex fr' a' w' h1 h2 => ?_⟩ hR)
    cases ex with
    | normal => exact evCP_ok hT hF hm hlp y K Q fr' a' w' h1 hK h2
    | exit id => exact hK.go (.exit id) fr' a' w' h1 h2
    | ret => exact hK.go .ret fr' a' w' h1 h2
  | .cond c x y, K, Q, fr, a, w, he, hK, hR => by
    simp only [evCP] at he
    split at he
    · rename_i ok t o hc
      cases ok with
      | false => cases he
      | true =>
        simp only [cond_true] at he
        obtain ⟨hn, S, F, h⟩ := hR
        have hb := dat_bool (rdo_ok h.r hc).1
        cases t with
        | true => exact wp_cond hb (evCP_ok hT hF hm hlp x K Q fr a w he hK ⟨hn, S, F, h⟩)
        | false => exact wp_cond hb (evCP_ok hT hF hm hlp y K Q fr a w he hK ⟨hn, S, F, h⟩)
    · cases he
  | .block id c, K, Q, fr, a, w, he, hK, hR => by
    refine wp_block (evCP_ok hT hF hm hlp c _ _ fr a w he ⟨fun c a w => hK.panics c a w, fun ex fr' a' w' h1 h2 => ?_⟩ hR)
    cases ex with
    | normal => exact hK.go .normal _ a' w' h1 (h2.cut _)
    | exit i =>
      simp only [exOf, Exit.inBlock]
      simp only [kBlockP] at h1
      split at h1
      · rename_i hi
        rw [if_pos hi]
        exact hK.go .normal fr' a' w' h1 h2
      · rename_i hi
        rw [if_neg hi]
        exact hK.go (.exit i) fr' a' w' h1 h2
    | ret => exact hK.go .ret fr' a' w' h1 h2
  | .loop c, K, Q, fr, a, w, he, hK, hR => wp_loop_rounds N (hlp c K Q _ a w he hK ((hR.opens _).cut _))
  | .exit id, K, Q, fr, a, w, he, hK, hR => wp_exit (hK.go (.exit id) _ a w he (hR.cut _))
  | .ret, K, Q, fr, a, w, he, hK, hR => wp_ret (hK.go .ret _ a w he (hR.cut _))
  | .rangeFunc _ _ _ _, K, Q, fr, a, w, he, hK, hR => by simp [evCP] at he
  | .scope c, K, Q, fr, a, w, he, hK, hR => wp_scope_straight (evCP_ok hT hF hm hlp c K _ fr a w he ⟨fun c a w => hK.panics c a w, fun ex fr' a' w' h1 h2 => by
      cases ex with
      | normal => exact hK.go .normal fr' a' w' h1 h2
      | exit id => exact hK.go (.exit id) fr' a' w' h1 h2
      | ret => exact hK.go .ret fr' a' w' h1 h2⟩ hR)
  | .label _, K, Q, fr, a, w, he, hK, hR => wp_label (hK.go .normal fr a w he hR)
  | .goto _, K, Q, fr, a, w, he, hK, hR => by simp [evCP] at he
  | .refuse _, K, Q, fr, a, w, he, hK, hR => by simp [evCP] at he

theorem evLP_ok (hT : TyOk P E.toEnv) (hF : ∀ w S, Keeps w0 S0 w S → EnvOk P E w S) (hm : P.follows .mixedOrders = true) {r : AV} :
    ∀ (n : Nat) (c : Code) (K : Ex → Fr → Option AV) (Q : Exit → Act → World → Prop) (fr : Fr) (a : Act) (w : World), evLP E n c K fr = some r → GoesP E base w0 S0 gv K r Q → RRP base w0 S0 E.nt gv fr a w → Code.rounds P c Q n a w
  | 0, c, K, Q, fr, a, w, he, _, _ => by simp [evLP] at he
  | n + 1, c, K, Q, fr, a, w, he, hK, hR => by
    rw [rounds_succ]
    simp only [evLP] at he
    refine evCP_ok hT hF hm (evLP_ok hT hF hm n) c _ _ fr a w he ⟨fun c a w => hK.panics c a w, fun ex fr' a' w' h1 h2 => ?_⟩ hR
    cases ex with
    | normal => exact evLP_ok hT hF hm n c K Q _ a' w' h1 hK (h2.cut _)
    | exit id => exact hK.go (.exit id) fr' a' w' h1 h2
    | ret => exact hK.go .ret fr' a' w' h1 h2

theorem resultsP_ok {w : World} {S : Stable} {fr : Fr} {a : Act} {F : Nat → Nat → Prop} (hn : a.tmps.size = E.nt) (h : RP base w0 S0 S fr gv a w F) (hT : TyOk P E.toEnv) {fn : Func} {r : AV} (he : resultsP E fn.results fr = some r) :
    ∃ S', (∃ fr' F', RP base w0 S0 S' fr' gv a w F') ∧ ∃ v, (results fn a.tmps).run P w = .ok v w ∧ ResRd base w S' v r := by
  unfold resultsP at he
  split at he
  · rename_i fr1 hf
    obtain ⟨S1, F1, h1, _, _⟩ := RP.freezes hn _ _ _ _ _ h hf
    obtain ⟨v, k1, k2⟩ := results_ok h1.r hT he
    exact ⟨S1, ⟨fr1, F1, h1⟩, v, k1, k2.rd, k2.nb, k2.np, fun l te hl => by
      obtain ⟨e, x, e1, xs, m1, m2, m3, m4⟩ := k2.own l te hl
      exact ⟨e, x, e1, xs, m1, m2, m3, fun b hb hB => m4 b hb (.inl hB)⟩⟩
  · cases he

theorem RP.start {w : World} {S : Stable} {fr : Fr} {a : Act} (h : R base w S S fr a w) (hv : ∀ t, (fr t).isPriv = false) (gv : Nat → Value) : RP base w S S fr gv a w (fun _ _ => False) where
  r := h.rebase (fun k hk => hk.elim id (fun ⟨_, hf⟩ => hf.elim))
  below := Kept.refl _ _
  old := fun _ _ _ => Iff.rfl
  kp := Keeps.refl _ _
  nb := fun _ _ hf => hf.elim
  dj := fun _ _ _ _ hf => hf.elim
  nroot := fun _ _ _ hf => hf
  root := fun t ht => by have := hv t; unfold AV.isPriv at this; rw [ht] at this; cases this
  adr := fun t s r ht => by have := hv t; rw [ht] at this; cases this
  val := fun t s r ht => by have := hv t; rw [ht] at this; cases this

theorem strip_priv (v : AV) : v.strip.isPriv = false := by cases v <;> rfl

/-- A FUNCTION KEEPS ITS CONTRACT, if its reading says what the contract says. -/
theorem sound_of_evP {G : World → Stable → Prop} (hG : Stays G) (hT : TyOk P E.toEnv) (hF : ∀ w S, G w S → EnvOk P E w S) (hm : P.follows .mixedOrders = true) {f : FuncId} {fn : Func} {c : Code} (hf : P.funcs[f]? = some fn) (hb : fn.body = some c) (hnt : fn.ntmps = E.nt)
    (hname : (fn.name == "runtime.NumGoroutine") = false) {spec : List AV → Bool × AV} (hspec : ∀ avs r, spec avs = (true, r) → ∃ n, evFnP E n c fn.results avs = some r) : SoundG G P f spec := by
  intro w S hg vals avs r hs hS ha
  obtain ⟨n, he⟩ := hspec avs r hs
  unfold evFnP at he
  split at he
  · cases he
  rename_i hle
  left
  constructor
  · unfold callFunc
    rw [Sem.run_bind]
    have hname' : ¬ fn.name = "runtime.NumGoroutine" := by simpa using hname
    simp [program, Sem.run, hf, hname', hb]
  · refine calls_of_wp hf hb ?_
    have hsz : (vals.toArray ++ Array.replicate (fn.ntmps - vals.toArray.size) undef).size = E.nt := by
      have := ha.1
      simp
      omega
    have hstart := RP.start (R.start hS ha (fn.ntmps - vals.toArray.size)) (fun t => strip_priv _) (fun _ => undef)
    refine evCP_ok hT (fun w1 S1 hk => hF w1 S1 (hG _ _ _ _ hk hg)) hm (evLP_ok hT (fun w1 S1 hk => hF w1 S1 (hG _ _ _ _ hk hg)) hm n) c _ _ _ _ w he ⟨fun ch a w' hp => ?_, fun ex fr a w' h1 h2 => ?_⟩ ⟨hsz, S, _, hstart⟩
    · obtain ⟨_, v, e, _⟩ := hp
      cases e
    · obtain ⟨hn, S', F, h⟩ := h2
      cases ex with
      | normal =>
        obtain ⟨S1, ⟨fr1, F1, h3⟩, v, k1, k2⟩ := resultsP_ok hn h hT h1
        exact ⟨h.r.dfr, v, k1, v, rfl, S1, ⟨⟨h3.below.os, h3.below.tape, h3.below.output, h3.below.size, h3.below.block⟩, h3.old, h3.r.slt⟩, k2⟩
      | exit id => cases h1
      | ret =>
        obtain ⟨S1, ⟨fr1, F1, h3⟩, v, k1, k2⟩ := resultsP_ok hn h hT h1
        exact ⟨h.r.dfr, v, k1, v, rfl, S1, ⟨⟨h3.below.os, h3.below.tape, h3.below.output, h3.below.size, h3.below.block⟩, h3.old, h3.r.slt⟩, k2⟩

/-- A contract out of a reading: what the reading says, or that without the owner. -/
theorem sound_of_evP' {G : World → Stable → Prop} (hG : Stays G) (hT : TyOk P E.toEnv) (hF : ∀ w S, G w S → EnvOk P E w S) (hm : P.follows .mixedOrders = true) {f : FuncId} {fn : Func} {c : Code} (hf : P.funcs[f]? = some fn) (hb : fn.body = some c) (hnt : fn.ntmps = E.nt)
    (hname : (fn.name == "runtime.NumGoroutine") = false) {spec : List AV → Bool × AV} (hspec : ∀ avs r, spec avs = (true, r) → ∃ n r', evFnP E n c fn.results avs = some r' ∧ (r' = r ∨ r'.strip = r)) : SoundG G P f spec := by
  classical
  let spec0 : List AV → Bool × AV := fun avs => if h : ∃ n r', evFnP E n c fn.results avs = some r' ∧ (r' = (spec avs).2 ∨ r'.strip = (spec avs).2) then (true, h.choose_spec.choose) else (false, .bad)
  have h0 : SoundG G P f spec0 := sound_of_evP hG hT hF hm hf hb hnt hname fun avs r hs => by
    simp only [spec0] at hs
    split at hs
    · rename_i h
      simp only [Prod.mk.injEq, true_and] at hs
      subst hs
      exact ⟨_, h.choose_spec.choose_spec.1⟩
    · cases hs
  refine fun w S hg => (h0 w S hg).strip fun avs r hs => ?_
  obtain ⟨n, r', k1, k2⟩ := hspec avs r hs
  have h : ∃ n r', evFnP E n c fn.results avs = some r' ∧ (r' = (spec avs).2 ∨ r'.strip = (spec avs).2) := ⟨n, r', k1, by rw [hs]; exact k2⟩
  refine ⟨h.choose_spec.choose, by simp only [spec0]; rw [dif_pos h], ?_⟩
  have e2 : (spec avs).2 = r := by rw [hs]
  rcases h.choose_spec.choose_spec.2 with h1 | h1
  · exact .inl (h1.trans e2)
  · exact .inr (h1.trans e2)
end
end Go.Av
