/-
  Regions that draw their order: what reads a tree may be taken first.
-/
import Derived.Test.YtcfhfjjohmdaoaaDoorAvPRun
import Derived.OrdersHeld
namespace Go.Av
open Go.RowKit Go.Lib

section
variable {P : Program} {ops : Array Oper} {Q : Exit → Act → World → Prop} {md : Region.Mode}

/-- Whatever order is picked from here on; a condition that goes by what has come up holds behind every operation. -/
def wpAnyL (P : Program) (md : Region.Mode) (ops : Array Oper) (Q : Exit → Act → World → Prop) (W : Array Bool → World → Prop) : Nat → Array Bool → Act → World → Prop
  | 0, listed, a, w => Region.ready md ops listed = [] ∧ Q .normal a w
  | fuel + 1, listed, a, w =>
    (Region.ready md ops listed = [] → Q .normal a w) ∧
    ∀ i ∈ Region.ready md ops listed, wpOp P ops Q i (fun a' w' => W (listed.setIfInBounds i true) w' ∧ wpAnyL P md ops Q W fuel (listed.setIfInBounds i true) a' w') a w

theorem wpAny_of_L {W : Array Bool → World → Prop} : ∀ (fuel : Nat) (listed : Array Bool) (a : Act) (w : World), wpAnyL P md ops Q W fuel listed a w → wpAny P md ops Q fuel listed a w
  | 0, _, _, _, h => h
  | fuel + 1, _, _, _, h => ⟨h.1, fun i hi => wpOp_mono (fun a' w' h' => wpAny_of_L fuel _ a' w' h'.2) (h.2 i hi)⟩

theorem wpAnyL_mono {W W' : Array Bool → World → Prop} (h : ∀ l w, W l w → W' l w) : ∀ (fuel : Nat) (listed : Array Bool) (a : Act) (w : World), wpAnyL P md ops Q W fuel listed a w → wpAnyL P md ops Q W' fuel listed a w
  | 0, _, _, _, k => k
  | fuel + 1, _, _, _, k => ⟨k.1, fun i hi => wpOp_mono (fun a' w' k' => ⟨h _ _ k'.1, wpAnyL_mono h fuel _ a' w' k'.2⟩) (k.2 i hi)⟩

/-- No operation that has come up waits for number i. -/
def NoneBehind (md : Region.Mode) (ops : Array Oper) (listed : Array Bool) (i : Nat) : Prop :=
  ∀ j oj, ops[j]? = some oj → listed.getD j false = true → ∀ e ∈ oj.after, Region.binds md e = true → e.on ≠ i

theorem getD_set_cases {listed : Array Bool} {i j : Nat} (h : (listed.setIfInBounds i true).getD j false = true) : j = i ∨ listed.getD j false = true := by
  by_cases hij : i = j
  · exact .inl hij.symm
  · right
    rw [getD_set_ne false hij] at h
    exact h

theorem wpAnyL_first {W : Array Bool → World → Prop} {C : World → Prop} {i : Nat} {oi : Oper} {v : Value} (hi : ops[i]? = some oi) (hsel : ∀ (j : Nat) (o : Oper) cs b, ops[j]? = some o → o.op ≠ .select cs b)
    (hQ : ∀ c a w, Q (.panic c) (a.put oi.dst v) w → Q (.panic c) a w) (hanti : ∀ l w, W (l.setIfInBounds i true) w → W l w) (hC : ∀ l w, NoneBehind md ops l i → W l w → C w) :
    ∀ (fuel : Nat) (listed : Array Bool) (a : Act) (w : World),
      (∀ j oj, ops[j]? = some oj → j ≠ i → listed.getD j true = false → (∀ e ∈ oj.after, Region.binds md e = true → e.on ≠ i) → oi.apart ops oj = true) →
      i ∈ Region.ready md ops listed → NoneBehind md ops listed i → YieldsIf P ops C oi v a → C w → W (listed.setIfInBounds i true) w →
      wpAnyL P md ops Q W fuel (listed.setIfInBounds i true) (a.put oi.dst v) w → wpAnyL P md ops Q W (fuel + 1) listed a w := by
  intro fuel
  induction fuel with
  | zero =>
    intro listed a w _ hr _ hy hc hw H
    refine ⟨fun h => (by rw [h] at hr; cases hr), fun j hj => ?_⟩
    by_cases hji : j = i
    · subst hji; exact hy.wpOp hi hc ⟨hw, H⟩
    · have := ready_mono hj hji
      rw [H.1] at this
      cases this
  | succ fuel ih =>
    intro listed a w hfree hr hnb hy hc hw H
    refine ⟨fun h => (by rw [h] at hr; cases hr), fun j hj => ?_⟩
    by_cases hji : j = i
    · subst hji; exact hy.wpOp hi hc ⟨hw, H⟩
    · have h1 := H.2 j (ready_mono hj hji)
      obtain ⟨hjun, oj, hoj, hall⟩ := mem_ready.1 hj
      have hnot : ∀ e ∈ oj.after, Region.binds md e = true → e.on ≠ i := fun e he hb heq => by
        have h1 := hall e he hb
        have h0 := (mem_ready.1 hr).1
        rw [heq] at h1
        rcases Nat.lt_or_ge i listed.size with h' | h'
        · simp [h'] at h0 h1; rw [h0] at h1; cases h1
        · simp [Array.getElem?_eq_none h'] at h1
      have hnb' : NoneBehind md ops (listed.setIfInBounds j true) i := fun k ok hk hl => by
        rcases getD_set_cases hl with rfl | hl
        · rw [hoj] at hk
          obtain rfl := Option.some.inj hk
          exact hnot
        · exact hnb k ok hk hl
      have h2 := wpOp_putIf hoj (hfree j oj hoj hji hjun hnot) (fun cs b => hsel i oi cs b hi) (fun cs b => hsel j oj cs b hoj) hQ hy h1
      have hfree' : ∀ k ok, ops[k]? = some ok → k ≠ i → (listed.setIfInBounds j true).getD k true = false →
          (∀ e ∈ ok.after, Region.binds md e = true → e.on ≠ i) → oi.apart ops ok = true := fun k ok hk hki hun hno => by
        refine hfree k ok hk hki ?_ hno
        by_cases hjk : j = k
        · subst hjk; exact hjun
        · rw [getD_set_ne true hjk] at hun; exact hun
      refine wpOp_mono (fun a' w' h3 => ?_) h2
      obtain ⟨h4, h5, h6⟩ := h3
      rw [Array.setIfInBounds_comm _ _ (Ne.symm hji)] at h5 h6
      have h7 := hanti _ _ h5
      exact ⟨h7, ih (listed.setIfInBounds j true) a' w' hfree' (ready_mono hr (Ne.symm hji)) hnb' h4 (hC _ _ hnb' h7) h5 h6⟩

theorem wpAnyL_done {W : Array Bool → World → Prop} {listed : Array Bool} {a : Act} {w : World} (hr : Region.ready md ops listed = []) (h : Q .normal a w) : ∀ fuel, wpAnyL P md ops Q W fuel listed a w
  | 0 => ⟨hr, h⟩
  | _ + 1 => ⟨fun _ => h, by rw [hr]; simp⟩

theorem wpAnyL_all {W : Array Bool → World → Prop} {rs : List Nat} {fuel : Nat} {listed : Array Bool} {a : Act} {w : World} (hr : Region.ready md ops listed = rs) (hne : rs ≠ [])
    (h : ∀ i ∈ rs, wpOp P ops Q i (fun a' w' => W (listed.setIfInBounds i true) w' ∧ wpAnyL P md ops Q W fuel (listed.setIfInBounds i true) a' w') a w) : wpAnyL P md ops Q W (fuel + 1) listed a w :=
  ⟨fun h0 => absurd (hr ▸ h0) hne, hr ▸ h⟩

theorem wp_region_L {W : Array Bool → World → Prop} {id : Nat} {a : Act} {w : World} (hm : P.follows .mixedOrders = true)
    (h : wpAnyL P .any ops Q W ops.size (Array.replicate ops.size false) a { w with drawn := w.drawn + 1 }) : (Code.region id ops true).wp P Q a w :=
  wp_region_any hm (wpAny_of_L _ _ _ _ h)
end

/-! ### The reading of such a region -/

/-- Operations that may write a tree. -/
def modOp : Op → Bool
  | .store _ _ _ => true
  | .call c => match c.callee with
    | .builtin .append => true
    | _ => false
  | _ => false

/-- Does an operation wait for another. -/
def waitsOn (o : Oper) (p : Nat) : Bool := o.after.any fun e => Region.binds .any e && e.on == p

/-- May a load that was taken first stay so behind an operation. -/
def pinOk (E : EnvP) (ops : Array Oper) (fr : Fr) (o : Oper) (p : Nat) : Bool := tameP E ops fr o || (modOp o.op && waitsOn o p)

/-- Whether an operation may be taken first: 1: it yields the same in all worlds that keep what is stable; 2: it loads from a tree. -/
def takesP (E : EnvP) (fr : Fr) (ops : Array Oper) (o : Oper) : Nat :=
  match o.dst with
  | none => 0
  | some d =>
    let go : Nat := match privPure E fr o d with
      | some (some _) => if modOp o.op then 0 else 1
      | some none => 0
      | none => match privLoad E fr o d with
        | some (some _) => if (fr d).isRoot then 0 else 2
        | some none => 0
        | none => if stillOp o.op && (treesOf E.nt fr o.op.operands.toList).isEmpty && (makeQ E fr o d).isNone && (makeP E fr o d).isNone && (still E.toEnv fr true o).isSome && takeable E.toEnv fr true o then 1 else 0
    match o.guard with
    | none => go
    | some (j, want) => match guardB ops fr j want with
      | some true => go
      | some false => if stillOp o.op then 1 else 0
      | none => 0

/-- A region that draws its order. -/
def evDrawP (E : EnvP) (ops : Array Oper) : Nat → Array Bool → List Nat → Fr → (Fr → Option AV) → Option AV
  | 0, _, _, _, _ => none
  | n + 1, listed, pins, fr, K => match Region.ready .any ops listed with
    | [] => K fr
    | i :: rs => match (i :: rs).find? (fun i => Region.free .any ops listed i && (takesP E fr ops (ops.getD i default) == 1 && pins.all fun p => pinOk E ops fr (ops.getD i default) p)) with
      | some k => match stepP E ops fr (ops.getD k default) with
        | some (ok, fr') => bif ok then splitB ops (ops.getD k default).dst fr' (fun fr2 => evDrawP E ops n (listed.setIfInBounds k true) pins fr2 K) else none
        | none => none
      | none => match (i :: rs).find? (fun i => Region.free .any ops listed i && (takesP E fr ops (ops.getD i default) == 2 && pins.all fun p => pinOk E ops fr (ops.getD i default) p)) with
        | some k => match stepP E ops fr (ops.getD k default) with
          | some (ok, fr') => bif ok then splitB ops (ops.getD k default).dst fr' (fun fr2 => evDrawP E ops n (listed.setIfInBounds k true) (k :: pins) fr2 K) else none
          | none => none
        | none => match rs with
          | [] => match pins.all fun p => pinOk E ops fr (ops.getD i default) p with
            | true => match stepP E ops fr (ops.getD i default) with
              | some (ok, fr') => bif ok then splitB ops (ops.getD i default).dst fr' (fun fr2 => evDrawP E ops n (listed.setIfInBounds i true) (pins.filter fun p => !(modOp (ops.getD i default).op && waitsOn (ops.getD i default) p)) fr2 K) else none
              | none => none
            | false => none
          | _ => none

/-- A load that was taken first: its number, the cells, what they held. -/
structure Pin where
  p : Nat
  g : Nat
  o : Nat
  k : Nat
  c : Nat → Option Value
def Pin.holds (π : Pin) (w : World) : Prop := ∀ i, i < π.k → w.cell? ⟨π.g, π.o + i, none⟩ = π.c i
/-- An operation has come up that may have written what number p read. -/
def depL (ops : Array Oper) (listed : Array Bool) (p : Nat) : Prop := ∃ j oj, ops[j]? = some oj ∧ listed.getD j false = true ∧ modOp oj.op = true ∧ waitsOn oj p = true

section
variable {base : Nat → Prop} {w0 : World} {S0 : Stable} {gv : Nat → Value} {P : Program} {E : EnvP}

/-- The state reads as the frame, in some world. -/
def RRP (base : Nat → Prop) (w0 : World) (S0 : Stable) (n : Nat) (gv : Nat → Value) (fr : Fr) (a : Act) (w : World) : Prop := a.tmps.size = n ∧ ∃ S F, RP base w0 S0 S fr gv a w F

theorem depL_anti {ops : Array Oper} {i : Nat} {oi : Oper} (hi : ops[i]? = some oi) (hm : modOp oi.op = false) {l : Array Bool} {p : Nat} (h : depL ops (l.setIfInBounds i true) p) : depL ops l p := by
  obtain ⟨j, oj, h1, h2, h3, h4⟩ := h
  rcases getD_set_cases h2 with rfl | h2
  · rw [hi] at h1
    obtain rfl := Option.some.inj h1
    rw [hm] at h3
    cases h3
  · exact ⟨j, oj, h1, h2, h3, h4⟩

theorem waitsOn_edge {o : Oper} {p : Nat} (h : waitsOn o p = true) : ∃ e ∈ o.after, Region.binds .any e = true ∧ e.on = p := by
  unfold waitsOn at h
  rw [Array.any_eq_true'] at h
  obtain ⟨e, he, hh⟩ := h
  simp only [Bool.and_eq_true, beq_iff_eq] at hh
  exact ⟨e, he, hh.1, hh.2⟩

theorem still_not_mod {op : Op} (h : stillOp op = true) : modOp op = false := by
  cases op with
  | call c =>
    obtain ⟨callee, args, ts⟩ := c
    simp only [stillOp] at h
    simp only [modOp]
    cases callee with
    | builtin b => cases b <;> first | rfl | cases h
    | value f => rfl
    | invoke r m => rfl
  | store t x y => cases h
  | _ => rfl

/-- What an operation that is taken first as number 1 yields. -/
theorem takes1_ok {w : World} {S : Stable} {fr : Fr} {a : Act} {F : Nat → Nat → Prop} (hn : a.tmps.size = E.nt) (h : RP base w0 S0 S fr gv a w F) (hT : TyOk P E.toEnv) {ops : Array Oper} {o : Oper} {fr' : Fr}
    (he : stepP E ops fr o = some (true, fr')) (ht : takesP E fr ops o = 1) : ∃ v F', YieldsIf P ops (fun w' => Keeps w S w' S) o v a ∧ RP base w0 S0 S fr' gv (a.put o.dst v) w F' ∧ modOp o.op = false ∧ (tameP E ops fr o = true → ∀ t b, F t b → ∃ t', F' t' b) := by
  unfold takesP at ht
  split at ht
  · cases ht
  · rename_i d hdst
    dsimp only at ht
    unfold stepP at he
    simp only [hdst] at he
    split at he
    · cases he
    rename_i hlt
    have hd : d < a.tmps.size := by rw [hn]; exact Nat.lt_of_not_le hlt
    -- the operation itself
    have go : Region.wanted o (yielded ops a.tmps) = true → stepD E fr o d = some (true, fr') →
        ((match privPure E fr o d with
          | some (some _) => if modOp o.op then 0 else 1
          | some none => 0
          | none => match privLoad E fr o d with
            | some (some _) => if (fr d).isRoot then 0 else 2
            | some none => 0
            | none => if stillOp o.op && (treesOf E.nt fr o.op.operands.toList).isEmpty && (makeQ E fr o d).isNone && (makeP E fr o d).isNone && (still E.toEnv fr true o).isSome && takeable E.toEnv fr true o then 1 else 0) : Nat) = 1 →
        ∃ v F', YieldsIf P ops (fun w' => Keeps w S w' S) o v a ∧ RP base w0 S0 S fr' gv (a.put o.dst v) w F' ∧ modOp o.op = false ∧ (tameOp E fr o d = true → ∀ t b, F t b → ∃ t', F' t' b) := by
      intro hw hs hk
      unfold stepD privOp at hs
      split at hk
      · rename_i q hq
        rw [hq] at hs
        simp only at hs
        obtain rfl := Option.some.inj hs
        split at hk
        · cases hk
        · rename_i hm
          obtain ⟨_, v, k1, F', k2, k3⟩ := privPure_ok hn h hT hd hq
          refine ⟨v, F', .inl ⟨hw, fun w' _ => k1 w' trivial⟩, by rw [hdst]; exact k2, by simpa using hm, fun ht => k3 ?_⟩
          unfold tameOp at ht
          simp only [Bool.and_eq_true] at ht
          simpa using ht.1.1
      · cases hk
      · rename_i hq
        rw [hq] at hs
        split at hk
        · split at hk <;> cases hk
        · cases hk
        · rename_i hq2
          rw [hq2] at hs
          simp only at hs
          split at hk
          · rename_i hc
            simp only [Bool.and_eq_true] at hc
            obtain ⟨⟨⟨⟨⟨hst, hte⟩, hmq⟩, hmk⟩, hso⟩, hta⟩ := hc
            have hte' : treesOf E.nt fr o.op.operands.toList = [] := by simpa using hte
            rw [hte'] at hs
            simp only [freezeL] at hs
            have hmq' : makeQ E fr o d = none := by simpa using hmq
            rw [hmq'] at hs
            simp only at hs
            have hmk' : makeP E fr o d = none := by simpa using hmk
            rw [hmk'] at hs
            simp only at hs
            split at hs
            · rename_i ok fr2 hu
              split at hs
              · cases hs
              · rename_i hpr
                simp only [Option.some.injEq, Prod.mk.injEq] at hs
                obtain ⟨rfl, rfl⟩ := hs
                have hu' := hu
                unfold stepU at hu'
                split at hu'
                · rename_i ok v hsv
                  split at hu'
                  · rename_i hok
                    simp only [Option.some.injEq, Prod.mk.injEq] at hu'
                    obtain ⟨rfl, rfl⟩ := hu'
                    obtain ⟨val, k1, k2, k3⟩ := still_ok h.r hT hsv (bx := false) (.inr hta)
                    have hR := h.r.put_copy hd k2 k3 hok
                    refine ⟨val, fun t b => t ≠ d ∧ F t b, .inl ⟨hw, fun w' hk => k1 w' ⟨hk, fun e => by cases e⟩⟩, ?_, ?_, fun ht t b hb => ?_⟩
                    · rw [hdst]
                      exact h.otherD hd hR rfl (stepU_keepsP hu) (by simpa using hpr)
                    · exact still_not_mod hst
                    · unfold tameOp at ht
                      simp only [Bool.and_eq_true] at ht
                      exact ⟨t, not_root h (by simpa using ht.1.1) hb, hb⟩
                  · cases hu'
                · rename_i hsn
                  rw [hsn] at hso
                  simp at hso
            · cases hs
          · cases hk
    split at he
    · rename_i hg
      simp only [hg] at ht
      have := go (by simp [Region.wanted, hg]) he ht
      obtain ⟨v, F', k1, k2, k3, k4⟩ := this
      exact ⟨v, F', k1, k2, k3, fun hh => k4 (by unfold tameP at hh; simpa only [hdst, hg] using hh)⟩
    · rename_i j want hg
      simp only [hg] at ht
      split at he
      · rename_i hG
        simp only [hG] at ht
        obtain ⟨v, F', k1, k2, k3, k4⟩ := go (guardP_ok h hg hG) he ht
        exact ⟨v, F', k1, k2, k3, fun hh => k4 (by unfold tameP at hh; simpa only [hdst, hg, hG] using hh)⟩
      · rename_i hG
        simp only [Option.some.injEq, Prod.mk.injEq, true_and] at he
        subst he
        simp only [hG] at ht
        split at ht
        · rename_i hst
          refine ⟨undef, fun t b => t ≠ d ∧ F t b, .inr ⟨guardP_ok h hg hG, rfl⟩, by rw [hdst]; exact h.putDat hd (val := undef) (v := .cnd false .bad) (.cnd _ _ _ (fun _ => rfl) (fun e => by cases e)) rfl rfl, ?_, fun hh t b hb => ?_⟩
          · exact still_not_mod hst
          · unfold tameP at hh
            simp only [hdst, hg, hG] at hh
            exact ⟨t, not_root h (by simpa using hh) hb, hb⟩
        · cases ht
      · cases he

/-- What an operation that is taken first as number 2 yields. -/
theorem takes2_ok {w : World} {S : Stable} {fr : Fr} {a : Act} {F : Nat → Nat → Prop} (hn : a.tmps.size = E.nt) (h : RP base w0 S0 S fr gv a w F) (hT : TyOk P E.toEnv) {ops : Array Oper} {o : Oper} {fr' : Fr}
    (he : stepP E ops fr o = some (true, fr')) (ht : takesP E fr ops o = 2) :
    ∃ v F' g o' k, YieldsIf P ops (fun w' => ∀ i, i < k → w'.cell? ⟨g, o' + i, none⟩ = w.cell? ⟨g, o' + i, none⟩) o v a ∧ RP base w0 S0 S fr' gv (a.put o.dst v) w F' ∧ modOp o.op = false ∧ (∃ s, F s g) ∧ ∀ t b, F t b → ∃ t', F' t' b := by
  unfold takesP at ht
  split at ht
  · cases ht
  · rename_i d hdst
    dsimp only at ht
    unfold stepP at he
    simp only [hdst] at he
    split at he
    · cases he
    rename_i hlt
    have hd : d < a.tmps.size := by rw [hn]; exact Nat.lt_of_not_le hlt
    have go : Region.wanted o (yielded ops a.tmps) = true → stepD E fr o d = some (true, fr') →
        ((match privPure E fr o d with
          | some (some _) => if modOp o.op then 0 else 1
          | some none => 0
          | none => match privLoad E fr o d with
            | some (some _) => if (fr d).isRoot then 0 else 2
            | some none => 0
            | none => if stillOp o.op && (treesOf E.nt fr o.op.operands.toList).isEmpty && (makeQ E fr o d).isNone && (makeP E fr o d).isNone && (still E.toEnv fr true o).isSome && takeable E.toEnv fr true o then 1 else 0) : Nat) = 2 →
        ∃ v F' g o' k, YieldsIf P ops (fun w' => ∀ i, i < k → w'.cell? ⟨g, o' + i, none⟩ = w.cell? ⟨g, o' + i, none⟩) o v a ∧ RP base w0 S0 S fr' gv (a.put o.dst v) w F' ∧ modOp o.op = false ∧ (∃ s, F s g) ∧ ∀ t b, F t b → ∃ t', F' t' b := by
      intro hw hs hk
      unfold stepD privOp at hs
      split at hk
      · split at hk <;> cases hk
      · cases hk
      · rename_i hq
        rw [hq] at hs
        split at hk
        · rename_i q hq2
          rw [hq2] at hs
          simp only at hs
          obtain rfl := Option.some.inj hs
          split at hk
          · cases hk
          · rename_i hnr
            obtain ⟨x, k, g, o', hx, hF, _, v, k1, F', k2, k3⟩ := privLoad_ok hn h hT hd hq2
            refine ⟨v, F', g, o', k, .inl ⟨hw, fun w' hh => k1 w' (fun g1 o1 e i hi => ?_)⟩, by rw [hdst]; exact k2, ?_, hF, k3 (by simpa using hnr)⟩
            · rw [hx] at e
              cases e
              exact hh i hi
            · unfold privLoad at hq2
              split at hq2
              · rename_i hop; rw [hop]; rfl
              · cases hq2
        · cases hk
        · split at hk <;> cases hk
    split at he
    · rename_i hg
      simp only [hg] at ht
      exact go (by simp [Region.wanted, hg]) he ht
    · rename_i j want hg
      simp only [hg] at ht
      split at he
      · rename_i hG
        simp only [hG] at ht
        exact go (guardP_ok h hg hG) he ht
      · rename_i hG
        simp only [hG] at ht
        split at ht <;> cases ht
      · cases he

/-- What holds of all worlds that keep what is stable, and what was read. -/
def HeldL (ops : Array Oper) (listed : Array Bool) (w : World) (S : Stable) (G : List Pin) (W : Array Bool → World → Prop) : Prop :=
  ∀ l w', (∀ j, listed.getD j false = true → l.getD j false = true) → Keeps w S w' S → (∀ π ∈ G, depL ops l π.p ∨ π.holds w') → W l w'
def Anti (ops : Array Oper) (W : Array Bool → World → Prop) : Prop := ∀ i oi, ops[i]? = some oi → modOp oi.op = false → ∀ l w, W (l.setIfInBounds i true) w → W l w
def ClosedL (ops : Array Oper) (listed : Array Bool) : Prop := ∀ j oj, ops[j]? = some oj → listed.getD j false = true → ∀ e ∈ oj.after, Region.binds .any e = true → listed.getD e.on false = true

theorem closed_set {ops : Array Oper} {listed : Array Bool} {k : Nat} (hc : ClosedL ops listed) (hk : k ∈ Region.ready .any ops listed) : ClosedL ops (listed.setIfInBounds k true) := fun j oj hj hl e he hb => by
  obtain ⟨_, o, ho, hall⟩ := mem_ready.1 hk
  rcases getD_set_cases hl with rfl | hl
  · rw [ho] at hj
    obtain rfl := Option.some.inj hj
    exact getD_set_true (hall e he hb)
  · exact getD_set_true (hc j oj hj hl e he hb)

theorem none_behind {ops : Array Oper} {listed : Array Bool} {k : Nat} (hc : ClosedL ops listed) (hk : k ∈ Region.ready .any ops listed) : NoneBehind .any ops listed k := fun j oj hj hl e he hb heq => by
  have h1 := hc j oj hj hl e he hb
  have h0 := (mem_ready.1 hk).1
  rw [heq] at h1
  rcases Nat.lt_or_ge k listed.size with h' | h'
  · simp [h'] at h0 h1; rw [h0] at h1; cases h1
  · simp [Array.getElem?_eq_none h'] at h1

theorem wpAnyL_take {ops : Array Oper} {Q : Exit → Act → World → Prop} {W : Array Bool → World → Prop} {C : World → Prop} {i : Nat} {oi : Oper} {v : Value} {fuel : Nat} {listed : Array Bool} {a : Act} {w : World} (hi : ops[i]? = some oi)
    (hs : Region.noSelect ops = true) (hf : Region.free .any ops listed i = true) (hr : i ∈ Region.ready .any ops listed) (hQ : ∀ c a w, Q (.panic c) (a.put oi.dst v) w → Q (.panic c) a w)
    (hanti : ∀ l w, W (l.setIfInBounds i true) w → W l w) (hC : ∀ l w, NoneBehind .any ops l i → W l w → C w) (hcl : ClosedL ops listed) (hy : YieldsIf P ops C oi v a) (hc : C w) (hw : W (listed.setIfInBounds i true) w)
    (h : wpAnyL P .any ops Q W fuel (listed.setIfInBounds i true) (a.put oi.dst v) w) : wpAnyL P .any ops Q W (fuel + 1) listed a w :=
  wpAnyL_first hi (Region.noSelect_spec hs) hQ hanti hC fuel listed a w (Region.free_spec hi hf) hr (none_behind hcl hr) hy hc hw h

theorem evDrawP_ok (hT : TyOk P E.toEnv) (hF : ∀ w S, Keeps w0 S0 w S → EnvOk P E w S) {ops : Array Oper} (hsel : Region.noSelect ops = true) {Q : Exit → Act → World → Prop} (hQ : ∀ c a w, ¬ Q (.panic c) a w) {K : Fr → Option AV} {r : AV}
    (hK : ∀ fr' a' w', K fr' = some r → RRP base w0 S0 E.nt gv fr' a' w' → Q .normal a' w') :
    ∀ (n m : Nat) (listed : Array Bool) (G : List Pin) (fr : Fr) (a : Act) (w : World) (S : Stable) (F : Nat → Nat → Prop) (W : Array Bool → World → Prop), evDrawP E ops n listed (G.map Pin.p) fr K = some r → a.tmps.size = E.nt →
      RP base w0 S0 S fr gv a w F → (∀ π ∈ G, π.holds w ∧ ∃ t, F t π.g) → HeldL ops listed w S G W → Anti ops W → ClosedL ops listed → n ≤ m + 1 → wpAnyL P .any ops Q W m listed a w
  | 0, m, listed, G, fr, a, w, S, F, W, he, _, _, _, _, _, _, _ => by simp [evDrawP] at he
  | n + 1, m, listed, G, fr, a, w, S, F, W, he, hn, h, hG, hW, hA, hcl, hle => by
    simp only [evDrawP] at he
    split at he
    · rename_i hr
      exact wpAnyL_done hr (hK fr a w he ⟨hn, S, F, h⟩) m
    · rename_i i rs hr
      cases m with
      | zero =>
        exfalso
        obtain rfl : n = 0 := by omega
        have no : ∀ (k : Nat) (ps : List Nat), (match stepP E ops fr (ops.getD k default) with
          | some (ok, fr') => bif ok then splitB ops (ops.getD k default).dst fr' (fun fr2 => evDrawP E ops 0 (listed.setIfInBounds k true) ps fr2 K) else none
          | none => none) ≠ some r := fun k ps hh => by
          split at hh
          · rename_i ok fr' _
            cases ok with
            | false => cases hh
            | true => simp only [cond_true] at hh; replace hh := splitB_ok hh; simp [evDrawP] at hh
          · cases hh
        split at he
        · exact no _ _ he
        · split at he
          · exact no _ _ he
          · split at he
            · split at he
              · exact no _ _ he
              · cases he
            · cases he
      | succ m =>
        have getOp : ∀ k, k ∈ Region.ready .any ops listed → ∃ o, ops[k]? = some o ∧ ops.getD k default = o := fun k hk => by
          obtain ⟨_, o, ho, _⟩ := mem_ready.1 hk
          obtain ⟨hlt, e⟩ := Array.getElem?_eq_some_iff.1 ho
          refine ⟨o, ho, ?_⟩
          unfold Array.getD
          rw [dif_pos hlt]
          exact e
        have ext : ∀ (k : Nat) (l : Array Bool), (∀ j : Nat, (listed.setIfInBounds k true).getD j false = true → l.getD j false = true) → ∀ j : Nat, listed.getD j false = true → l.getD j false = true := fun k l hl j hj => hl j (getD_set_true hj)
        split at he
        · -- one that yields the same in all worlds that keep what is stable
          rename_i k hk
          have hmem := List.mem_of_find?_eq_some hk
          have hprop := List.find?_some hk
          simp only [Bool.and_eq_true, beq_iff_eq, List.all_eq_true] at hprop
          obtain ⟨hfree, htk, hpins⟩ := hprop
          rw [← hr] at hmem
          obtain ⟨o, ho, hget⟩ := getOp k hmem
          rw [hget] at he htk hpins
          split at he
          · rename_i ok fr' hs
            cases ok with
            | false => cases he
            | true =>
              simp only [cond_true] at he
              replace he := splitB_ok he
              obtain ⟨v, F', hy, hR, hmd, htm⟩ := takes1_ok hn h hT hs htk
              have hG' : ∀ π ∈ G, π.holds w ∧ ∃ t, F' t π.g := fun π hπ => by
                obtain ⟨h1, t, h2⟩ := hG π hπ
                have h3 := hpins π.p (List.mem_map_of_mem hπ)
                unfold pinOk at h3
                rw [hmd] at h3
                exact ⟨h1, htm (by simpa using h3) t π.g h2⟩
              have hrest := evDrawP_ok hT hF hsel hQ hK n m (listed.setIfInBounds k true) G fr' (a.put o.dst v) w S F' (fun l w' => W l w' ∧ Keeps w S w' S) he (by rw [put_size, hn]) hR hG'
                (fun l w' hl hk' hp => ⟨hW l w' (ext k l hl) hk' hp, hk'⟩) (fun i oi hi hm l w' hh => ⟨hA i oi hi hm l w' hh.1, hh.2⟩) (closed_set hcl hmem) (by omega)
              refine wpAnyL_mono (W := fun l w' => W l w' ∧ Keeps w S w' S) (fun _ _ hh => hh.1) _ _ _ _ ?_
              refine wpAnyL_take ho hsel hfree hmem (fun c a w hq => absurd hq (hQ c _ w)) (fun l w' hh => ⟨hA k o ho hmd l w' hh.1, hh.2⟩) (C := fun w' => Keeps w S w' S) (fun l w' _ hh => hh.2) hcl hy (Keeps.refl w S)
                ⟨hW _ w (fun j hj => getD_set_true hj) (Keeps.refl w S) (fun π hπ => .inr (hG π hπ).1), Keeps.refl w S⟩ hrest
          · cases he
        · split at he
          · -- one that loads from a tree
            rename_i k hk
            have hmem := List.mem_of_find?_eq_some hk
            have hprop := List.find?_some hk
            simp only [Bool.and_eq_true, beq_iff_eq, List.all_eq_true] at hprop
            obtain ⟨hfree, htk, hpins⟩ := hprop
            rw [← hr] at hmem
            obtain ⟨o, ho, hget⟩ := getOp k hmem
            rw [hget] at he htk hpins
            split at he
            · rename_i ok fr' hs
              cases ok with
              | false => cases he
              | true =>
                simp only [cond_true] at he
                replace he := splitB_ok he
                obtain ⟨v, F', g, o', kk, hy, hR, hmd, ⟨s, hFs⟩, htm⟩ := takes2_ok hn h hT hs htk
                let π0 : Pin := ⟨k, g, o', kk, fun i => w.cell? ⟨g, o' + i, none⟩⟩
                have hG' : ∀ π ∈ π0 :: G, π.holds w ∧ ∃ t, F' t π.g := fun π hπ => by
                  rcases List.mem_cons.1 hπ with rfl | hπ
                  · exact ⟨fun i _ => rfl, htm s g hFs⟩
                  · obtain ⟨h1, t, h2⟩ := hG π hπ
                    exact ⟨h1, htm t π.g h2⟩
                have hrest := evDrawP_ok hT hF hsel hQ hK n m (listed.setIfInBounds k true) (π0 :: G) fr' (a.put o.dst v) w S F' (fun l w' => W l w' ∧ (depL ops l k ∨ π0.holds w')) he (by rw [put_size, hn]) hR hG'
                  (fun l w' hl hk' hp => ⟨hW l w' (ext k l hl) hk' (fun π hπ => hp π (List.mem_cons_of_mem _ hπ)), hp π0 (List.mem_cons_self ..)⟩)
                  (fun i oi hi hm l w' hh => ⟨hA i oi hi hm l w' hh.1, hh.2.imp (depL_anti hi hm) id⟩) (closed_set hcl hmem) (by omega)
                refine wpAnyL_mono (W := fun l w' => W l w' ∧ (depL ops l k ∨ π0.holds w')) (fun _ _ hh => hh.1) _ _ _ _ ?_
                refine wpAnyL_take ho hsel hfree hmem (fun c a w hq => absurd hq (hQ c _ w)) (fun l w' hh => ⟨hA k o ho hmd l w' hh.1, hh.2.imp (depL_anti ho hmd) id⟩) (C := fun w' => π0.holds w') (fun l w' hnb hh => ?_) hcl hy (fun _ _ => rfl)
                  ⟨hW _ w (fun j hj => getD_set_true hj) (Keeps.refl w S) (fun π hπ => .inr (hG π hπ).1), .inr (fun _ _ => rfl)⟩ hrest
                rcases hh.2 with ⟨j, oj, h1, h2, _, h4⟩ | h1
                · obtain ⟨e, he1, he2, he3⟩ := waitsOn_edge h4
                  exact absurd he3 (hnb j oj h1 h2 e he1 he2)
                · exact h1
            · cases he
          · split at he
            · -- just one may come up
              rename_i hnone1 hnone2
              split at he
              · rename_i hpins
                refine wpAnyL_all hr (by simp) (fun j hj => ?_)
                simp only [List.mem_singleton] at hj
                subst hj
                have hmem : j ∈ Region.ready .any ops listed := by rw [hr]; simp
                obtain ⟨o, ho, hget⟩ := getOp j hmem
                rw [hget] at he hpins
                simp only [List.all_eq_true] at hpins
                split at he
                · rename_i ok fr' hs
                  cases ok with
                  | false => cases he
                  | true =>
                    simp only [cond_true] at he
                    replace he := splitB_ok he
                    refine wpOp_of_step ho (stepP_ok hn h hT hF hs) (fun a' w' ⟨hn', S', F', hR, hk, htm⟩ => ?_)
                    have hkw : Keeps w S w' S := fun b o hs => ⟨hs, (hk b o hs).2⟩
                    have hjl : (listed.setIfInBounds j true).getD j false = true := by
                      obtain ⟨h0, _⟩ := mem_ready.1 hmem
                      rcases Nat.lt_or_ge j listed.size with h' | h'
                      · simp [h']
                      · simp [Array.getElem?_eq_none h'] at h0
                    -- what becomes of the loads that were taken first
                    have pin : ∀ π ∈ G, (modOp o.op = true ∧ waitsOn o π.p = true) ∨ (tameP E ops fr o = true ∧ π.holds w' ∧ ∃ t, F' t π.g) := fun π hπ => by
                      have h3 := hpins π.p (List.mem_map_of_mem hπ)
                      unfold pinOk at h3
                      simp only [Bool.or_eq_true, Bool.and_eq_true] at h3
                      rcases h3 with h3 | h3
                      · obtain ⟨h1, t, h2⟩ := hG π hπ
                        obtain ⟨h4, h5⟩ := htm h3 t π.g h2
                        exact .inr ⟨h3, fun i hi => (cell_of_block h4 _).trans (h1 i hi), h5⟩
                      · exact .inl h3
                    refine ⟨hW _ w' (fun j' hj' => getD_set_true hj') hkw (fun π hπ => ?_), ?_⟩
                    · rcases pin π hπ with ⟨h1, h2⟩ | ⟨_, h1, _⟩
                      · exact .inl ⟨j, o, ho, hjl, h1, h2⟩
                      · exact .inr h1
                    · have hfil : ((G.filter fun π => !(modOp o.op && waitsOn o π.p)).map Pin.p) = (G.map Pin.p).filter fun p => !(modOp o.op && waitsOn o p) := by
                        rw [List.filter_map]; rfl
                      rw [← hfil] at he
                      refine evDrawP_ok hT hF hsel hQ hK n m (listed.setIfInBounds j true) _ fr' a' w' S' F' W he hn' hR (fun π hπ => ?_) (fun l w2 hl hk2 hp => hW l w2 (ext j l hl) (fun b o hs => ⟨hs, ((hk2 b o (hk b o hs).1).2).trans (hk b o hs).2⟩) (fun π hπ => ?_)) hA (closed_set hcl hmem) (by omega)
                      · obtain ⟨h1, h2⟩ := List.mem_filter.1 hπ
                        rcases pin π h1 with ⟨h3, h4⟩ | ⟨_, h3, h4⟩
                        · rw [h3, h4] at h2; cases h2
                        · exact ⟨h3, h4⟩
                      · by_cases hmw : (modOp o.op && waitsOn o π.p) = true
                        · simp only [Bool.and_eq_true] at hmw
                          exact .inl ⟨j, o, ho, hl j hjl, hmw.1, hmw.2⟩
                        · exact hp π (List.mem_filter.2 ⟨hπ, by rw [Bool.not_eq_true']; exact Bool.eq_false_iff.2 hmw⟩)
                · cases he
              · cases he
            · cases he
end
end Go.Av
