/-
  Regions that draw their order, code, and functions.
-/
import Derived.Test.YtcfhfjjohmdaoaaDoorAvRun
import Derived.OrdersHeld
import Derived.LoopN
namespace Go.Av
open Go.RowKit Go.Lib

section
variable {base : Nat → Prop} {w0 w : World} {S0 S : Stable} {fr : Fr} {a : Act} {P : Program} {E : Env}

theorem wpAnyH_mono {ops : Array Oper} {Q : Exit → Act → World → Prop} {md : Region.Mode} {A B : World → Prop} (h : ∀ w, A w → B w) : ∀ (n : Nat) (listed : Array Bool) (a : Act) (w : World), wpAnyH P md ops Q A n listed a w → wpAnyH P md ops Q B n listed a w
  | 0, _, _, _, k => k
  | n + 1, _, _, _, k => ⟨k.1, fun i hi => wpOp_mono (fun a' w' k' => ⟨h _ k'.1, wpAnyH_mono h n _ a' w' k'.2⟩) (k.2 i hi)⟩

/-- An operation of a drawn region that the region's order is asked for: what it leaves. -/
theorem wpOp_of_step {ops : Array Oper} {Q : Exit → Act → World → Prop} {i : Nat} {o : Oper} (hi : ops[i]? = some o) {Post K : Act → World → Prop}
    (h : (Region.wanted o (yielded ops a.tmps) = true ∧ OpDoes P o a w Post) ∨ (Region.wanted o (yielded ops a.tmps) = false ∧ Post (a.put o.dst undef) w)) (hK : ∀ a' w', Post a' w' → K a' w') :
    wpOp P ops Q i K a w := by
  unfold wpOp
  simp only [hi]
  rcases h with ⟨h1, h2⟩ | ⟨h1, h2⟩
  · rw [if_pos h1]
    exact .inl (h2 _ _ hK)
  · rw [h1]
    exact hK _ _ h2

/-- What an operation that makes nothing yields in every world that holds what is stable. -/
theorem yields_of_takes (hn : a.tmps.size = E.nt) (h : R base w0 S0 S fr a w) (hT : TyOk P E) {ops : Array Oper} {o : Oper} {fr' : Fr} (he : stepOp E ops fr o = some (true, fr')) (ht : takes E fr ops o = true) :
    ∃ v, YieldsIf P ops (fun w' => Keeps w S w' S) o v a ∧ R base w0 S0 S fr' (a.put o.dst v) w := by
  unfold takes at ht
  simp only [Bool.and_eq_true] at ht
  obtain ⟨_, ht⟩ := ht
  unfold stepOp at he
  split at he
  · rename_i d hdst
    split at he
    · cases he
    rename_i hlt
    have hd : d < a.tmps.size := by rw [hn]; exact Nat.lt_of_not_le hlt
    have go : Region.wanted o (yielded ops a.tmps) = true → (still E fr true o).isSome = true → takeable E fr true o = true → stepU E fr o d = some (true, fr') →
        ∃ v, YieldsIf P ops (fun w' => Keeps w S w' S) o v a ∧ R base w0 S0 S fr' (a.put o.dst v) w := by
      intro hw h1 h2 he
      unfold stepU at he
      split at he
      · rename_i ok v hst
        split at he
        · rename_i hok
          simp only [Option.some.injEq, Prod.mk.injEq] at he
          obtain ⟨rfl, rfl⟩ := he
          obtain ⟨val, k1, k2, k3⟩ := still_ok h hT hst (bx := false) (.inr h2)
          refine ⟨val, .inl ⟨hw, fun w' hk => k1 w' ⟨hk, fun e => by cases e⟩⟩, ?_⟩
          rw [hdst]
          exact h.put_copy hd k2 k3 hok
        · cases he
      · rename_i hst
        rw [hst] at h1
        simp at h1
    split at he
    · rename_i hg
      rw [hg] at ht
      simp only [Bool.and_eq_true] at ht
      exact go (by simp [Region.wanted, hg]) ht.1 ht.2 he
    · rename_i j want hg
      rw [hg] at ht
      simp only at ht
      split at he
      · rename_i hG
        rw [hG] at ht
        simp only [Bool.and_eq_true] at ht
        exact go (guard_ok h hg hG) ht.1 ht.2 he
      · rename_i hG
        simp only [Option.some.injEq, Prod.mk.injEq, true_and] at he
        subst he
        refine ⟨undef, .inr ⟨guard_ok h hg hG, rfl⟩, ?_⟩
        rw [hdst]
        exact h.put_plain hd (.cnd _ _ _ (fun _ => rfl) (fun e => by cases e)) rfl
      · cases he
  · rename_i hdst
    split at he
    · rename_i t x y hg hop
      rw [hg] at ht
      simp only [Bool.and_eq_true] at ht
      have : still E fr true o = none := by unfold still; rw [hop]
      rw [this] at ht
      simp at ht
    · cases he

/-- What holds of all worlds that keep what is stable. -/
def Held (w : World) (S : Stable) (W : World → Prop) : Prop := ∀ w', Keeps w S w' S → W w'

theorem evDraw_ok (hT : TyOk P E) (hF : ∀ w S, FnsOk P E w S) {ops : Array Oper} (hsel : Region.noSelect ops = true) {Q : Exit → Act → World → Prop} (hQ : ∀ c a w, ¬ Q (.panic c) a w) {K : Fr → Option AV} {r : AV}
    (hK : ∀ fr' a' w', K fr' = some r → RR base w0 S0 E.nt fr' a' w' → Q .normal a' w') :
    ∀ (n m : Nat) (listed : Array Bool) (fr : Fr) (a : Act) (w : World) (S : Stable) (W : World → Prop), evDraw E ops n listed fr K = some r → a.tmps.size = E.nt → R base w0 S0 S fr a w → Held w S W → n ≤ m + 1 →
      wpAnyH P .any ops Q W m listed a w
  | 0, m, listed, fr, a, w, S, W, he, _, _, _, _ => by simp [evDraw] at he
  | n + 1, m, listed, fr, a, w, S, W, he, hn, h, hW, hle => by
    simp only [evDraw] at he
    split at he
    · rename_i hr
      exact wpAnyH_done hr (hK fr a w he ⟨hn, S, h⟩) m
    · rename_i i rs hr
      cases m with
      | zero =>
        exfalso
        obtain rfl : n = 0 := by omega
        split at he
        · split at he
          · rename_i ok fr' _
            cases ok with
            | false => cases he
            | true => simp only [cond_true] at he; replace he := splitB_ok he; simp [evDraw] at he
          · cases he
        · split at he
          · split at he
            · rename_i ok fr' _
              cases ok with
              | false => cases he
              | true => simp only [cond_true] at he; replace he := splitB_ok he; simp [evDraw] at he
            · cases he
          · cases he
      | succ m =>
        split at he
        · -- one that makes nothing is taken first
          rename_i k hk
          have hmem := List.mem_of_find?_eq_some hk
          have hprop := List.find?_some hk
          simp only [Bool.and_eq_true] at hprop
          rw [← hr] at hmem
          obtain ⟨_, o, ho, _⟩ := mem_ready.1 hmem
          have hget : ops.getD k default = o := by
            obtain ⟨hlt, e⟩ := Array.getElem?_eq_some_iff.1 ho
            unfold Array.getD
            rw [dif_pos hlt]
            exact e
          rw [hget] at he hprop
          split at he
          · rename_i ok fr' hs
            cases ok with
            | false => cases he
            | true =>
              simp only [cond_true] at he
              replace he := splitB_ok he
              obtain ⟨v, hy, hR⟩ := yields_of_takes hn h hT hs hprop.2
              have hrest := evDraw_ok hT hF hsel hQ hK n m (listed.setIfInBounds k true) fr' (a.put o.dst v) w S (fun w' => W w' ∧ Keeps w S w' S) he (by rw [put_size, hn]) hR (fun w' hk' => ⟨hW w' hk', hk'⟩) (by omega)
              refine wpAnyH_mono (A := fun w' => W w' ∧ Keeps w S w' S) (fun _ hh => hh.1) _ _ _ _ ?_
              refine wpAnyH_take ho hsel hprop.1 (by simpa using hmem) (fun c a w hq => absurd hq (hQ c _ w)) ?_ ⟨hW w (Keeps.refl w S), Keeps.refl w S⟩ hrest
              rcases hy with ⟨h1, h2⟩ | h1
              · exact .inl ⟨h1, fun w' hh => h2 w' hh.2⟩
              · exact .inr h1
          · cases he
        · split at he
          · -- just one may come up
            rename_i hnone
            refine wpAnyH_all hr (by simp) (fun j hj => ?_)
            simp only [List.mem_singleton] at hj
            subst hj
            have hmem : j ∈ Region.ready .any ops listed := by rw [hr]; simp
            obtain ⟨_, o, ho, _⟩ := mem_ready.1 hmem
            have hget : ops.getD j default = o := by
              obtain ⟨hlt, e⟩ := Array.getElem?_eq_some_iff.1 ho
              unfold Array.getD
              rw [dif_pos hlt]
              exact e
            rw [hget] at he
            split at he
            · rename_i ok fr' hs
              cases ok with
              | false => cases he
              | true =>
                simp only [cond_true] at he
                replace he := splitB_ok he
                refine wpOp_of_step ho (step_ok hn h hT (hF _ _) hs) (fun a' w' ⟨hn', S', hR, hk⟩ => ?_)
                have hW' : Held w' S' W := fun w2 hk2 => hW w2 (fun b o hs => ⟨hs, ((hk2 b o (hk b o hs).1).2).trans (hk b o hs).2⟩)
                exact ⟨hW w' (fun b o hs => ⟨hs, (hk b o hs).2⟩), evDraw_ok hT hF hsel hQ hK n m (listed.setIfInBounds j true) fr' a' w' S' W he hn' hR hW' (by omega)⟩
            · cases he
          · cases he

theorem drew_keeps (w : World) (S : Stable) : Keeps w S { w with drawn := w.drawn + 1 } S := fun _ _ hs => ⟨hs, rfl⟩

theorem R.drew (h : R base w0 S0 S fr a w) : R base w0 S0 S fr a { w with drawn := w.drawn + 1 } where
  below := ⟨h.below.os, h.below.tape, h.below.output, h.below.size, h.below.block⟩
  base_le := h.base_le
  old := h.old
  kp := h.kp.trans (drew_keeps w S)
  slt := h.slt
  dfr := h.dfr
  rd := fun t => (h.rd t).keeps (drew_keeps w S)
  sls := h.sls
  cp := h.cp
  own := fun t e x te he => by
    obtain ⟨xs, h1, h2, h3⟩ := h.own t e x te he
    exact ⟨xs, h1, h2.mono (RdC.keeps (drew_keeps w S) e), h3⟩
  dist := h.dist
  box := fun t s x he => by
    obtain ⟨b, ⟨h1, h2, c, T, h3, h4⟩, h5⟩ := h.box t s x he
    exact ⟨b, ⟨h1, h2, c, T, h3, RdC.keeps (drew_keeps w S) _ _ _ h4⟩, h5⟩
  boxd := h.boxd
  boxo := h.boxo
  badr := h.badr

/-- How an end of code reads. -/
def exOf : Ex → Exit
  | .normal => .normal
  | .exit id => .exit id
  | .ret => .ret

/-- What is asked of all that may come behind a piece of code. -/
structure Goes (E : Env) (base : Nat → Prop) (w0 : World) (S0 : Stable) (K : Ex → Fr → Option AV) (r : AV) (Q : Exit → Act → World → Prop) : Prop where
  panics : ∀ c a w, ¬ Q (.panic c) a w
  go : ∀ ex fr a w, K ex fr = some r → RR base w0 S0 E.nt fr a w → Q (exOf ex) a w

theorem frOf_cut (fr : Fr) (l0 : List Nat) : ∀ (l : List Nat) (t : Nat), frOf (l.map fun s => (s % 1000000, cutV l0 (fr (s % 1000000)))) t = if (l.map (· % 1000000)).contains t then cutV l0 (fr t) else .bad
  | [], t => rfl
  | s :: l, t => by
    simp only [List.map_cons, frOf, List.contains_cons]
    by_cases e : t = s % 1000000
    · subst e; simp
    · rw [if_neg e, frOf_cut fr l0 l t]
      simp [e]

theorem keepsL_in {l : List Nat} {s : Nat} (h : keepsL l s = true) : (l.map (· % 1000000)).contains s = true := by
  simp only [keepsL, Bool.and_eq_true, decide_eq_true_eq, List.contains_iff_mem] at h
  simp only [List.contains_iff_mem, List.mem_map]
  exact ⟨s, h.1, Nat.mod_eq_of_lt h.2⟩

theorem cutV_dat {l : List Nat} {v : AV} {s : Sh} {x : Den s} {o : Lab} (h : cutV l v = .dat s x o) : ∃ o', v = .dat s x o' ∧ (o = none ∨ o = o' ∧ ∀ lb te, o = some (lb, te) → keepsL l lb = true) := by
  cases v with
  | dat s' x' o' =>
    cases o' with
    | none =>
      simp only [cutV, AV.dat.injEq] at h
      obtain ⟨rfl, h2, h3⟩ := h
      obtain rfl := eq_of_heq h2
      exact ⟨none, rfl, .inl h3.symm⟩
    | some p =>
      obtain ⟨lb, te⟩ := p
      simp only [cutV] at h
      split at h
      · rename_i hc
        simp only [AV.dat.injEq] at h
        obtain ⟨rfl, h2, h3⟩ := h
        obtain rfl := eq_of_heq h2
        subst h3
        exact ⟨_, rfl, .inr ⟨rfl, fun lb' te' e => by cases e; exact hc⟩⟩
      · simp only [AV.dat.injEq] at h
        obtain ⟨rfl, h2, h3⟩ := h
        obtain rfl := eq_of_heq h2
        exact ⟨_, rfl, .inl h3.symm⟩
  | badr s' p =>
    simp only [cutV] at h
    split at h <;> cases h
  | _ => cases h

theorem Rd.cut {w : World} {S : Stable} {v : Value} {av : AV} (h : Rd w S v av) (l : List Nat) : Rd w S v (cutV l av) := by
  cases av with
  | dat s x o =>
    cases o with
    | none => exact h
    | some p =>
      simp only [cutV]
      split
      · exact h
      · exact h.relab none
  | badr s p =>
    simp only [cutV]
    split
    · exact h
    · exact .bad v
  | _ => exact h

theorem cutV_box {l : List Nat} {v : AV} {s : Sh} {x : Den s} (h : cutV l v = .box s x) : v = .box s x := by
  cases v with
  | dat s' x' o' =>
    cases o' with
    | none => cases h
    | some p => simp only [cutV] at h; split at h <;> cases h
  | badr s' p => simp only [cutV] at h; split at h <;> cases h
  | _ => exact h

theorem cutV_badr {l : List Nat} {v : AV} {s : Nat} {p : List Nat} (h : cutV l v = .badr s p) : v = .badr s p ∧ keepsL l s = true := by
  cases v with
  | dat s' x' o' =>
    cases o' with
    | none => cases h
    | some p => simp only [cutV] at h; split at h <;> cases h
  | badr s' p' =>
    simp only [cutV] at h
    split at h
    · rename_i hc; cases h; exact ⟨rfl, hc⟩
    · cases h
  | _ => cases h

theorem R.cut (h : R base w0 S0 S fr a w) (o : Option (List Nat)) : R base w0 S0 S (cutF o fr) a w := by
  cases o with
  | none => exact h
  | some l =>
    have hat : ∀ t, cutF (some l) fr t = if (l.map (· % 1000000)).contains t then cutV l (fr t) else .bad := frOf_cut fr l l
    have hdat : ∀ t s (x : Den s) lb te, cutF (some l) fr t = .dat s x (some (lb, te)) → fr t = .dat s x (some (lb, te)) ∧ (l.map (· % 1000000)).contains lb = true ∧ (l.map (· % 1000000)).contains t = true := fun t s x lb te e => by
      rw [hat] at e
      split at e
      · rename_i hc
        obtain ⟨o', e1, e2⟩ := cutV_dat e
        rcases e2 with e2 | ⟨e2, e3⟩
        · cases e2
        · subst e2; exact ⟨e1, keepsL_in (e3 _ _ rfl), hc⟩
      · cases e
    have hlab : ∀ t lb te, (cutF (some l) fr t).lab = some (lb, te) → (fr t).lab = some (lb, te) ∧ cutF (some l) fr lb = cutF (some l) fr t ∧ cutF (some l) fr t = fr t := fun t lb te e => by
      cases hv : cutF (some l) fr t with
      | dat s x o =>
        rw [hv] at e
        simp only [AV.lab] at e
        subst e
        obtain ⟨e1, e2, e3⟩ := hdat t s x lb te hv
        have e4 := (h.cp t lb te (by rw [e1]; rfl)).1
        refine ⟨by rw [e1]; rfl, ?_, e1.symm⟩
        rw [← hv, hat lb, hat t, if_pos e2, if_pos e3, e4]
      | _ => rw [hv] at e; simp [AV.lab] at e
    have hbox : ∀ t s (x : Den s), cutF (some l) fr t = .box s x → fr t = .box s x := fun t s x e => by
      rw [hat] at e
      split at e
      · exact cutV_box e
      · cases e
    exact {
      below := h.below
      base_le := h.base_le
      old := h.old
      kp := h.kp
      slt := h.slt
      dfr := h.dfr
      rd := fun t => by
        rw [hat]
        split
        · exact (h.rd t).cut l
        · exact .bad _
      cp := fun t lb te e => ⟨(hlab t lb te e).2.1, (h.cp t lb te (hlab t lb te e).1).2⟩
      sls := fun t s x o e => h.sls t s x o (hdat t s x o.1 o.2 e).1
      own := fun t e x te he => h.own t e x te (hdat t (.sl e) x t te he).1
      dist := fun lb lb' e e' b h1 h2 => h.dist lb lb' e e' b (hlab _ _ _ h1).1 (hlab _ _ _ h2).1
      box := fun t s x e => h.box t s x (hbox t s x e)
      boxd := fun t t' s s' x x' b h1 h2 => h.boxd t t' s s' x x' b (hbox _ _ _ h1) (hbox _ _ _ h2)
      boxo := fun t s x b lb e h1 h2 h3 => h.boxo t s x b lb e (hbox _ _ _ h1) h2 (hlab _ _ _ h3).1
      badr := fun t s p e => by
        rw [hat] at e
        split at e
        · obtain ⟨e1, e2⟩ := cutV_badr e
          obtain ⟨u, y, z, b, k1, k2⟩ := h.badr t s p e1
          refine ⟨u, y, z, b, ?_, k2⟩
          rw [hat, if_pos (keepsL_in e2), k1]
          rfl
        · cases e }

theorem RR.cut {n : Nat} (h : RR base w0 S0 n fr a w) (o : Option (List Nat)) : RR base w0 S0 n (cutF o fr) a w := by
  obtain ⟨hn, S, h⟩ := h
  exact ⟨hn, S, h.cut o⟩

theorem evC_ok (hT : TyOk P E) (hF : ∀ w S, FnsOk P E w S) (hm : P.follows .mixedOrders = true) {r : AV} {N : Nat} {lp : Code → (Ex → Fr → Option AV) → Fr → Option AV}
    (hlp : ∀ c K Q fr a w, lp c K fr = some r → Goes E base w0 S0 K r Q → RR base w0 S0 E.nt fr a w → Code.rounds P c Q N a w) :
    ∀ (c : Code) (K : Ex → Fr → Option AV) (Q : Exit → Act → World → Prop) (fr : Fr) (a : Act) (w : World), evC E lp c K fr = some r → Goes E base w0 S0 K r Q → RR base w0 S0 E.nt fr a w → c.wp P Q a w
  | .skip, K, Q, fr, a, w, he, hK, hR => wp_skip (hK.go .normal fr a w he hR)
  | .region id ops false, K, Q, fr, a, w, he, hK, hR =>
    wp_region_list (evOps_ok hT hF (fun fr' a' w' h1 h2 => hK.go .normal fr' a' w' h1 h2) ops.toList fr a w he hR)
  | .region id ops true, K, Q, fr, a, w, he, hK, hR => by
    simp only [evC] at he
    split at he
    · rename_i hsel
      obtain ⟨hn, S, h⟩ := hR
      exact wp_region_held (S := fun w' => Keeps { w with drawn := w.drawn + 1 } S w' S) hm (evDraw_ok hT hF hsel hK.panics (fun fr' a' w' h1 h2 => hK.go .normal fr' a' w' h1 h2) _ _ _ fr a _ S _ he hn h.drew (fun _ hk => hk) (Nat.le_refl _))
    · cases he
  | .seq x y, K, Q, fr, a, w, he, hK, hR => by
    refine wp_seq (evC_ok hT hF hm hlp x _ _ fr a w he ⟨fun c a w => hK.panics c a w, fun ex fr' a' w' h1 h2 => ?_⟩ hR)
    cases ex with
    | normal => exact evC_ok hT hF hm hlp y K Q fr' a' w' h1 hK h2
    | exit id => exact hK.go (.exit id) fr' a' w' h1 h2
    | ret => exact hK.go .ret fr' a' w' h1 h2
  | .cond c x y, K, Q, fr, a, w, he, hK, hR => by
    simp only [evC] at he
    split at he
    · rename_i ok t o hc
      cases ok with
      | false => cases he
      | true =>
        simp only [cond_true] at he
        obtain ⟨hn, S, h⟩ := hR
        have hb := dat_bool (rdo_ok h hc).1
        cases t with
        | true => exact wp_cond hb (evC_ok hT hF hm hlp x K Q fr a w he hK ⟨hn, S, h⟩)
        | false => exact wp_cond hb (evC_ok hT hF hm hlp y K Q fr a w he hK ⟨hn, S, h⟩)
    · cases he
  | .block id c, K, Q, fr, a, w, he, hK, hR => by
    refine wp_block (evC_ok hT hF hm hlp c _ _ fr a w he ⟨fun c a w => hK.panics c a w, fun ex fr' a' w' h1 h2 => ?_⟩ hR)
    cases ex with
    | normal => exact hK.go .normal _ a' w' h1 (h2.cut _)
    | exit i =>
      simp only [exOf, Exit.inBlock]
      simp only [kBlock] at h1
      split at h1
      · rename_i hi
        rw [if_pos hi]
        exact hK.go .normal fr' a' w' h1 h2
      · rename_i hi
        rw [if_neg hi]
        exact hK.go (.exit i) fr' a' w' h1 h2
    | ret => exact hK.go .ret fr' a' w' h1 h2
  | .loop c, K, Q, fr, a, w, he, hK, hR => wp_loop_rounds N (hlp c K Q _ a w he hK (hR.cut _))
  | .exit id, K, Q, fr, a, w, he, hK, hR => wp_exit (hK.go (.exit id) _ a w he (hR.cut _))
  | .ret, K, Q, fr, a, w, he, hK, hR => wp_ret (hK.go .ret _ a w he (hR.cut _))
  | .rangeFunc _ _ _ _, K, Q, fr, a, w, he, hK, hR => by simp [evC] at he
  | .scope _, K, Q, fr, a, w, he, hK, hR => by simp [evC] at he
  | .label _, K, Q, fr, a, w, he, hK, hR => by simp [evC] at he
  | .goto _, K, Q, fr, a, w, he, hK, hR => by simp [evC] at he
  | .refuse _, K, Q, fr, a, w, he, hK, hR => by simp [evC] at he

theorem evL_ok (hT : TyOk P E) (hF : ∀ w S, FnsOk P E w S) (hm : P.follows .mixedOrders = true) {r : AV} :
    ∀ (n : Nat) (c : Code) (K : Ex → Fr → Option AV) (Q : Exit → Act → World → Prop) (fr : Fr) (a : Act) (w : World), evL E n c K fr = some r → Goes E base w0 S0 K r Q → RR base w0 S0 E.nt fr a w → Code.rounds P c Q n a w
  | 0, c, K, Q, fr, a, w, he, _, _ => by simp [evL] at he
  | n + 1, c, K, Q, fr, a, w, he, hK, hR => by
    rw [rounds_succ]
    simp only [evL] at he
    refine evC_ok hT hF hm (evL_ok hT hF hm n) c _ _ fr a w he ⟨fun c a w => hK.panics c a w, fun ex fr' a' w' h1 h2 => ?_⟩ hR
    cases ex with
    | normal => exact evL_ok hT hF hm n c K Q _ a' w' h1 hK (h2.cut _)
    | exit id => exact hK.go (.exit id) fr' a' w' h1 h2
    | ret => exact hK.go .ret fr' a' w' h1 h2

/-! ### Functions -/

theorem resV_ok (h : R base w0 S0 S fr a w) (hT : TyOk P E) {rv : ResultVar} {v : AV} (he : resV E fr rv = (true, v)) :
    ∃ val, (match rv with | .tmp t => (pure (a.tmps.getD t undef) : Sem Value) | .cell t ty => (do loadVar ty (← asAddr (a.tmps.getD t undef)))).run P w = .ok val w ∧ Rd w S val v ∧ Cpy fr a v val := by
  cases rv with
  | tmp t =>
    simp only [resV] at he
    split at he
    · simp at he
    · simp at he
    · simp at he
    · rename_i hb hp hc
      simp only [Prod.mk.injEq, true_and] at he
      subst he
      exact ⟨_, rfl, h.rd t, h.cpy t (fun s x e => hb s x e)⟩
  | cell t ty =>
    simp only [resV] at he
    split at he
    · rename_i s x hf
      split at he
      · rename_i hs
        simp only [Prod.mk.injEq, true_and] at he
        subst he
        obtain ⟨b, ⟨_, _, c, T, hc, hr⟩, e⟩ := h.box t s x hf
        have hl := RdC.length _ _ _ hr
        have hall : ∀ (i : Nat) (v : Value), c.toList[i]? = some v → w.cell? ⟨b, 0 + i, none⟩ = some v := fun i v hv => by
          simp only [World.cell?, hc, Option.isSome_none, Bool.false_eq_true, if_false, Nat.zero_add]
          simpa using hv
        have hld := run_loadVar_cells (hT ty s hs) hr (ad := ⟨b, 0, none⟩) rfl hall
        refine ⟨_, ?_, .dat _ _ _ _ hld.2, Cpy.of_plain rfl⟩
        show (do loadVar ty (← asAddr (a.tmps.getD t undef)) : Sem Value).run P w = _
        rw [e]
        exact hld.1
      · simp at he
    · rename_i s x hf
      split at he
      · rename_i hs
        simp only [Prod.mk.injEq, true_and] at he
        subst he
        have hr := h.rd t
        rw [hf] at hr
        obtain ⟨ad, cs, e, hc, hsp, hm⟩ := rd_adr hr
        have hld := run_loadVar_cells (hT ty s hs) hc (w' := w) hsp (fun i v hv => ((hm (by rintro rfl; simp at hv)).2 i v hv).2)
        refine ⟨_, ?_, .dat _ _ _ _ hld.2, Cpy.of_plain rfl⟩
        show (do loadVar ty (← asAddr (a.tmps.getD t undef)) : Sem Value).run P w = _
        rw [e]
        exact hld.1
      · simp at he
    · simp at he

/-- What a result's place yields. -/
def resOf (a : Act) : ResultVar → Sem Value
  | .tmp t => pure (a.tmps.getD t undef)
  | .cell t ty => do loadVar ty (← asAddr (a.tmps.getD t undef))

theorem resL_ok (h : R base w0 S0 S fr a w) (hT : TyOk P E) : ∀ (rs : List ResultVar) (vs : List AV), resL E fr rs = (true, vs) →
    ∃ vals : List Value, (rs.mapM (resOf a)).run P w = .ok vals w ∧ vals.length = vs.length ∧ vals.length = rs.length ∧ ∀ (i : Nat) (c : AV), vs[i]? = some c → ∃ v, vals[i]? = some v ∧ Rd w S v c
  | [], vs, he => by
    simp only [resL, Prod.mk.injEq, true_and] at he
    subst he
    exact ⟨[], by simp [Sem.run_pure], rfl, rfl, fun i c hc => by simp at hc⟩
  | rv :: rs, vs, he => by
    simp only [resL] at he
    cases h1 : resV E fr rv with
    | mk ok v =>
      cases h2 : resL E fr rs with
      | mk oks vs' =>
        rw [h1, h2] at he
        simp only [Prod.mk.injEq, Bool.and_eq_true] at he
        obtain ⟨⟨rfl, rfl⟩, rfl⟩ := he
        obtain ⟨val, k1, k2, _⟩ := resV_ok h hT h1
        obtain ⟨vals, j1, j2, j3, j4⟩ := resL_ok h hT rs vs' h2
        have k1' : (resOf a rv).run P w = .ok val w := by cases rv <;> exact k1
        refine ⟨val :: vals, ?_, by simp [j2], by simp [j3], fun i c hc => ?_⟩
        · rw [List.mapM_cons, Sem.run_bind, k1', Result.andThen_ok, Sem.run_bind, j1, Result.andThen_ok]
          rfl
        · cases i with
          | zero =>
            simp only [List.getElem?_cons_zero, Option.some.injEq] at hc
            subst hc
            exact ⟨val, rfl, k2.strip⟩
          | succ i =>
            simp only [List.getElem?_cons_succ] at hc ⊢
            exact j4 i c hc

theorem results_ok (h : R base w0 S0 S fr a w) (hT : TyOk P E) {fn : Func} {r : AV} (he : results' E fn.results fr = some r) : ∃ v, (results fn a.tmps).run P w = .ok v w ∧ ResRd base w S v r := by
  have hrun : ∀ vals : List Value, (fn.results.toList.mapM (resOf a)).run P w = .ok vals w → (results fn a.tmps).run P w = .ok (if h : vals.toArray.size = 1 then vals.toArray[0] else .tuple vals.toArray) w := fun vals hv => by
    have h2 : results fn a.tmps = (do let vs ← fn.results.mapM (resOf a); pure (if h : vs.size = 1 then vs[0] else .tuple vs)) := by
      unfold results
      congr 1
    rw [h2, Sem.run_bind]
    have : (fn.results.mapM (resOf a) : Sem (Array Value)).run P w = .ok vals.toArray w := by
      rw [Array.mapM_eq_mapM_toList]
      simp only [Sem.run_map]
      rw [hv]
      rfl
    rw [this, Result.andThen_ok]
    rfl
  unfold results' at he
  split at he
  · rename_i rv hrs
    cases h1 : resV E fr rv with
    | mk ok v =>
      rw [h1] at he
      cases ok with
      | false => cases he
      | true =>
        simp only [cond_true, Option.some.injEq] at he
        subst he
        obtain ⟨val, k1, k2, k3⟩ := resV_ok h hT h1
        have k1' : (resOf a rv).run P w = .ok val w := by cases rv <;> exact k1
        have := hrun [val] (by rw [hrs, List.mapM_cons, Sem.run_bind, k1', Result.andThen_ok]; simp [Sem.run_pure])
        refine ⟨val, this, k2, k3.nb, fun s p e => ?_, fun l te hl => ?_⟩
        · subst e
          cases rv with
          | tmp t =>
            simp only [resV] at h1
            split at h1
            · simp at h1
            · simp at h1
            · simp at h1
            · rename_i hb hp hc
              simp only [Prod.mk.injEq, true_and] at h1
              exact hp _ _ h1
          | cell t ty =>
            simp only [resV] at h1
            split at h1 <;> (try split at h1) <;> simp at h1
        · obtain ⟨e1, e2⟩ := k3.cp l te hl
          cases v with
          | dat s x o =>
            simp only [AV.lab] at hl
            subst hl
            obtain ⟨e, rfl⟩ := h.sls l s x _ e1
            exact ⟨e, x, rfl, by rw [← e2]; exact h.own l e x te e1⟩
          | _ => simp [AV.lab] at hl
  · rename_i hrs
    cases h1 : resL E fr fn.results.toList with
    | mk ok vs =>
      rw [h1] at he
      cases ok with
      | false => cases he
      | true =>
        simp only [cond_true, Option.some.injEq] at he
        subst he
        obtain ⟨vals, k1, k2, k3, k4⟩ := resL_ok h hT _ _ h1
        have := hrun vals k1
        have hne : ¬ (vals.toArray.size = 1) := by
          intro h2
          have h3 : fn.results.toList.length = 1 := by rw [← k3]; simpa using h2
          obtain ⟨rv, hrv⟩ := List.length_eq_one_iff.1 h3
          exact hrs rv hrv
        rw [dif_neg hne] at this
        refine ⟨_, this, .tup _ _ (fun i c hc => .inl (by have e : vals.toArray.size = _ := (by simpa using k2); rw [e]; exact (List.getElem?_eq_some_iff.1 hc).1)) (fun i c hc => ?_), fun s x e => (by cases e), fun s p e => (by cases e), fun l te e => (by simp [AV.lab] at e)⟩
        obtain ⟨v, hv, hr⟩ := k4 i c hc
        have : vals.toArray.getD i undef = v := by
          have h4 : vals.toArray[i]? = some v := by simpa using hv
          obtain ⟨hlt, e⟩ := Array.getElem?_eq_some_iff.1 h4
          unfold Array.getD
          rw [dif_pos hlt]
          exact e
        rw [this]
        exact hr

theorem strip_lab (v : AV) : v.strip.lab = none := by cases v <;> rfl

/-- The state at the start of a call reads as the frame of its arguments. -/
theorem R.start {S : Stable} (hS : ∀ b o, S b o → b < w.heap.size) {vals : List Value} {avs : List AV} (ha : ArgsRd w S vals avs) (k : Nat) :
    R (· < w.heap.size) w S S (fun t => (avs.getD t .bad).strip) { tmps := vals.toArray ++ Array.replicate k undef, defers := [] } w where
  below := Kept.refl _ _
  base_le := fun _ hk => hk
  old := fun _ _ _ => Iff.rfl
  kp := Keeps.refl _ _
  slt := hS
  dfr := rfl
  rd := fun t => by
    cases h1 : avs[t]? with
    | none => simp only [List.getD, h1, Option.getD_none, AV.strip]; exact .bad _
    | some av =>
      have hlt : t < vals.length := by rw [ha.1]; exact (List.getElem?_eq_some_iff.1 h1).1
      have h2 : vals[t]? = some vals[t] := List.getElem?_eq_getElem hlt
      have h3 : (vals.toArray ++ Array.replicate k undef).getD t undef = vals[t] := by
        have : (vals.toArray ++ Array.replicate k undef)[t]? = some vals[t] := by
          rw [Array.getElem?_append_left (by simpa using hlt)]
          simp [h2]
        obtain ⟨hlt', e⟩ := Array.getElem?_eq_some_iff.1 this
        unfold Array.getD
        rw [dif_pos hlt']
        exact e
      simp only [List.getD, h1, Option.getD_some]
      rw [h3]
      exact (ha.2 t _ _ h2 h1).strip
  sls := fun t s x l he => by
    have := strip_lab (avs.getD t .bad)
    rw [he] at this
    cases this
  cp := fun t l e he => by rw [strip_lab] at he; cases he
  own := fun t e x te he => by
    have := strip_lab (avs.getD t .bad)
    rw [he] at this
    cases this
  dist := fun l l' e e' b h1 _ _ _ => by rw [strip_lab] at h1; cases h1
  box := fun t s x he => by cases h1 : avs.getD t .bad <;> rw [h1] at he <;> cases he
  boxd := fun t t' s s' x x' b he _ _ _ => by cases h1 : avs.getD t .bad <;> rw [h1] at he <;> cases he
  boxo := fun t s x b l e he _ _ => by cases h1 : avs.getD t .bad <;> rw [h1] at he <;> cases he
  badr := fun t s p he => by cases h1 : avs.getD t .bad <;> rw [h1] at he <;> cases he

/-- A FUNCTION KEEPS ITS CONTRACT, if its reading says what the contract says. -/
theorem sound_of_ev (hT : TyOk P E) (hF : ∀ w S, FnsOk P E w S) (hm : P.follows .mixedOrders = true) {f : FuncId} {fn : Func} {c : Code} (hf : P.funcs[f]? = some fn) (hb : fn.body = some c) (hnt : fn.ntmps = E.nt)
    (hname : (fn.name == "runtime.NumGoroutine") = false) {spec : List AV → Bool × AV} (hspec : ∀ avs r, spec avs = (true, r) → ∃ n, evFn E n c fn.results avs = some r) : Sound P f spec := by
  intro w S vals avs r hs hS ha
  obtain ⟨n, he⟩ := hspec avs r hs
  unfold evFn at he
  split at he
  · cases he
  rename_i hle
  left
  constructor
  · unfold callFunc
    rw [Sem.run_bind]
    have hname' : ¬ fn.name = "runtime.NumGoroutine" := by simpa using hname
    simp [program, Sem.run, hf, hname', hb]
  · refine calls_of_wp hf hb ?_
    have hsz : (vals.toArray ++ Array.replicate (fn.ntmps - vals.toArray.size) undef).size = E.nt := by
      have := ha.1
      simp
      omega
    have hstart := R.start hS ha (fn.ntmps - vals.toArray.size)
    refine evC_ok hT hF hm (evL_ok hT hF hm n) c _ _ _ _ w he ⟨fun ch a w' hp => ?_, fun ex fr a w' h1 h2 => ?_⟩ ⟨hsz, S, hstart⟩
    · obtain ⟨_, v, e, _⟩ := hp
      cases e
    · obtain ⟨hn, S', h⟩ := h2
      cases ex with
      | normal =>
        obtain ⟨v, k1, k2⟩ := results_ok h hT h1
        exact ⟨h.dfr, v, k1, v, rfl, S', ⟨⟨h.below.os, h.below.tape, h.below.output, h.below.size, h.below.block⟩, h.old, h.slt⟩, k2⟩
      | exit id => cases h1
      | ret =>
        obtain ⟨v, k1, k2⟩ := results_ok h hT h1
        exact ⟨h.dfr, v, k1, v, rfl, S', ⟨⟨h.below.os, h.below.tape, h.below.output, h.below.size, h.below.block⟩, h.old, h.slt⟩, k2⟩
end
end Go.Av
