/-
  A store into a box.
-/
import Derived.Test.YtcfhfjjohmdaoaaDoorAvSpec
namespace Go.Av
open Go.RowKit Go.Lib

theorem setStep_ok {w : World} {S : Stable} (s : Sh) (x : Den s) (i : Nat) (u : Sh) (y : Den u) (x' : Den s) (v : Sh) (cs vs : List Value) (h : RdC w S s x cs) (hg : setStep s x i u y = some x') (hs : s.step i = some v) (hy : RdC w S u y vs) :
    v = u ∧ RdC w S s x' (cs.take (stepOff s i) ++ vs ++ cs.drop (stepOff s i + u.size)) ∧ stepOff s i + u.size ≤ s.size := by
  cases s with
  | arr n e =>
    simp only [setStep] at hg
    split at hg
    · rename_i hu
      subst hu
      simp only [Option.some.injEq] at hg
      subst hg
      simp only [Sh.step] at hs
      split at hs
      · rename_i hi
        simp only [RdC] at h ⊢
        refine ⟨(Option.some.inj hs).symm, ⟨by rw [List.length_set]; exact h.1, ?_⟩, ?_⟩
        · have := Chunks.set (RdC.length u) h.2 (i := i) (by rw [h.1]; exact hi) hy
          simp only [stepOff]
          first | exact this | (rw [Nat.add_mul, Nat.one_mul] at this; exact this)
        · simp only [stepOff, Sh.size]
          have := Nat.mul_le_mul_right u.size (show i + 1 ≤ n from hi)
          rw [Nat.add_mul, Nat.one_mul] at this
          exact this
      · cases hs
    · cases hg
  | pair a b =>
    obtain ⟨k1, k2, k3⟩ := setFld_ok (.pair a b) x i u y x' cs vs h hg hy
    exact ⟨Option.some.inj (hs.symm.trans k1), k2, k3⟩
  | _ => simp [setStep] at hg

theorem setPath_ok {w : World} {S : Stable} : ∀ (p : List Nat) (s : Sh) (x : Den s) (u : Sh) (y : Den u) (x' : Den s) (cs vs : List Value) (off : Nat), RdC w S s x cs → setPath s x p u y = some x' → RdC w S u y vs → pathOff s p = some off →
    RdC w S s x' (cs.take off ++ vs ++ cs.drop (off + u.size)) ∧ off + u.size ≤ s.size
  | [], s, x, u, y, x', cs, vs, off, h, hg, hy, ho => by
    simp only [setPath] at hg
    simp only [pathOff, Option.some.injEq] at ho
    subst ho
    split at hg
    · rename_i hu
      subst hu
      simp only [Option.some.injEq] at hg
      subst hg
      refine ⟨?_, by omega⟩
      have hl := RdC.length _ _ _ h
      rw [List.take_zero, List.nil_append, Nat.zero_add, List.drop_eq_nil_of_le (by omega), List.append_nil]
      exact hy
    · cases hg
  | i :: p, s, x, u, y, x', cs, vs, off, h, hg, hy, ho => by
    simp only [setPath] at hg
    simp only [pathOff] at ho
    split at ho
    · rename_i v hv
      split at ho
      · rename_i o ho'
        simp only [Option.some.injEq] at ho
        subst ho
        split at hg
        · rename_i t z hz
          split at hg
          · rename_i z' hz'
            obtain ⟨rfl, k2, k3⟩ := getStep_ok s x i cs t z v h hz hv
            obtain ⟨j2, j3⟩ := setPath_ok p v z u y z' _ vs o k2 hz' hy ho'
            obtain ⟨_, m2, m3⟩ := setStep_ok s x i v z' x' v cs _ h hg hv j2
            refine ⟨?_, by omega⟩
            have hl := RdC.length _ _ _ h
            have e : cs.take (stepOff s i) ++ (((cs.drop (stepOff s i)).take v.size).take o ++ vs ++ ((cs.drop (stepOff s i)).take v.size).drop (o + u.size)) ++ cs.drop (stepOff s i + v.size) =
                cs.take (stepOff s i + o) ++ vs ++ cs.drop (stepOff s i + o + u.size) := by
              have e1 : ((cs.drop (stepOff s i)).take v.size).take o = (cs.drop (stepOff s i)).take o := by rw [List.take_take, Nat.min_eq_left (by omega)]
              have e2 : cs.take (stepOff s i + o) = cs.take (stepOff s i) ++ (cs.drop (stepOff s i)).take o := by rw [List.take_add]
              have e3 : cs.drop (stepOff s i + o + u.size) = ((cs.drop (stepOff s i)).take v.size).drop (o + u.size) ++ cs.drop (stepOff s i + v.size) := by
                have h1 : (cs.drop (stepOff s i)).drop (o + u.size) = ((cs.drop (stepOff s i)).take v.size).drop (o + u.size) ++ (cs.drop (stepOff s i)).drop v.size := by
                  conv => lhs; rw [← List.take_append_drop v.size (cs.drop (stepOff s i))]
                  rw [List.drop_append]
                  have h2 : (List.take v.size (List.drop (stepOff s i) cs)).length = v.size := by simp; omega
                  rw [h2, show o + u.size - v.size = 0 by omega, List.drop_zero]
                rw [List.drop_drop, List.drop_drop] at h1
                rw [Nat.add_assoc]
                exact h1
              rw [e1, e2, e3]
              simp only [List.append_assoc]
            rw [e] at m2
            exact m2
          · cases hg
        · cases hg
      · cases ho
    · cases ho

theorem getFld_shape : ∀ (s : Sh) (x x' : Den s) (i : Nat) (q : Sigma Den), getFld s x i = some q → ∃ y', getFld s x' i = some ⟨q.1, y'⟩
  | .pair a b, x, x', 0, q, h => by simp only [getFld, Option.some.injEq] at h ⊢; subst h; exact ⟨_, rfl⟩
  | .pair a b, x, x', i + 1, q, h => by simp only [getFld] at h ⊢; exact getFld_shape b x.2 x'.2 i q h
  | .bool, _, _, _, _, h => by simp [getFld] at h
  | .byte, _, _, _, _, h => by simp [getFld] at h
  | .int _, _, _, _, _, h => by simp [getFld] at h
  | .str, _, _, _, _, h => by simp [getFld] at h
  | .sl _, _, _, _, _, h => by simp [getFld] at h
  | .unit, _, _, _, _, h => by simp [getFld] at h
  | .arr _ _, _, _, _, _, h => by simp [getFld] at h

theorem getStep_shape (s : Sh) (x x' : Den s) (i : Nat) (q : Sigma Den) (h : getStep s x i = some q) : ∃ y', getStep s x' i = some ⟨q.1, y'⟩ := by
  cases s with
  | arr n e =>
    simp only [getStep, Option.some.injEq] at h ⊢
    subst h
    exact ⟨_, rfl⟩
  | pair a b => exact getFld_shape (.pair a b) x x' i q h
  | _ => simp [getStep] at h

theorem getPath_shape : ∀ (p : List Nat) (s : Sh) (x x' : Den s) (q : Sigma Den), getPath s x p = some q → ∃ q', getPath s x' p = some q'
  | [], s, x, x', q, _ => ⟨⟨s, x'⟩, rfl⟩
  | i :: p, s, x, x', q, h => by
    simp only [getPath] at h
    split at h
    · rename_i t z hz
      obtain ⟨y', h1⟩ := getStep_shape s x x' i _ hz
      obtain ⟨q', h2⟩ := getPath_shape p t z y' q h
      exact ⟨q', by simp only [getPath, h1, h2]⟩
    · cases h

section
variable {base : Nat → Prop} {w0 w : World} {S0 S : Stable} {fr : Fr} {a : Act} {P : Program} {E : Env}

/-- A box written: all else is as it was. -/
theorem R.rebox (h : R base w0 S0 S fr a w) {b g : Nat} {s : Sh} {q q' : Den s} (hb : fr b = .box s q) (hp : a.tmps.getD b undef = .pointer (some ⟨g, 0, none⟩)) {w' : World} (hg : w.grownBy w' (some g))
    {c : Array Value} {T : TypeId} (hc : w'.heap[g]? = some (.cells c T (0, 0))) (hr : RdC w S s q' c.toList) : R base w0 S0 S (fr.rebox b (.box s q')) a w' ∧ Keeps w S w' S := by
  obtain ⟨g', ⟨hge, hns, c0, T0, hc0, hr0⟩, e0⟩ := h.box b s q hb
  rw [hp] at e0
  obtain rfl : g = g' := by simpa using e0
  have hkeep : Keeps w S w' S := fun b1 o hs => ⟨hs, cell_of_block (hg.block b1 (h.slt b1 o hs) (fun e => by
    have := Option.some.inj e
    subst this
    exact hns o hs)) o⟩
  have other : ∀ t, (t = b ∧ (fr.rebox b (.box s q')) t = .box s q') ∨ (t ≠ b ∧ (fr.rebox b (.box s q')) t = fr t) := fun t => by
    unfold Fr.rebox
    by_cases ht : t = b
    · exact .inl ⟨ht, by rw [if_pos ht]⟩
    · exact .inr ⟨ht, by rw [if_neg ht]⟩
  have hlab : ∀ t l e, ((fr.rebox b (.box s q')) t).lab = some (l, e) → t ≠ b ∧ (fr t).lab = some (l, e) := fun t l e he => by
    rcases other t with ⟨_, e1⟩ | ⟨hne, e1⟩
    · rw [e1] at he; simp [AV.lab] at he
    · rw [e1] at he; exact ⟨hne, he⟩
  refine ⟨{
    below := h.below.grown hg h.base_le (fun k hk => by cases hk; exact hge)
    base_le := fun k hk => Nat.lt_of_lt_of_le (h.base_le k hk) hg.size
    old := h.old
    kp := h.kp.trans hkeep
    slt := fun b1 o hs => Nat.lt_of_lt_of_le (h.slt b1 o hs) hg.size
    dfr := h.dfr
    rd := fun t => by
      rcases other t with ⟨_, e1⟩ | ⟨_, e1⟩
      · rw [e1]; exact .box _ _ _
      · rw [e1]; exact (h.rd t).keeps hkeep
    sls := fun t s1 x l he => by
      rcases other t with ⟨_, e1⟩ | ⟨_, e1⟩
      · rw [e1] at he; cases he
      · rw [e1] at he; exact h.sls t s1 x l he
    cp := fun t l e he => by
      obtain ⟨hne, he'⟩ := hlab t l e he
      obtain ⟨k1, k2⟩ := h.cp t l e he'
      have hl : l ≠ b := by
        rintro rfl
        rw [hb] at k1
        rw [← k1] at he'
        simp [AV.lab] at he'
      exact ⟨by unfold Fr.rebox; rw [if_neg hl, if_neg hne]; exact k1, k2⟩
    own := fun t e x te he => by
      rcases other t with ⟨_, e1⟩ | ⟨_, e1⟩
      · rw [e1] at he; cases he
      · rw [e1] at he
        exact (h.own t e x te he).step hkeep hg (fun b1 hb1 e2 => by
          have := Option.some.inj e2
          subst this
          exact h.boxo b s q g t te hb hp (by rw [he]; rfl) hb1) (fun _ _ _ _ => Iff.rfl)
    dist := fun l l' e e' b1 h1 h2 hne hb1 => h.dist l l' e e' b1 (hlab l l e h1).2 (hlab l' l' e' h2).2 hne hb1
    box := fun t s1 x he => by
      rcases other t with ⟨rfl, e1⟩ | ⟨hne, e1⟩
      · rw [e1] at he
        obtain ⟨rfl, he⟩ := AV.box.inj he
        obtain rfl := eq_of_heq he
        exact ⟨g, ⟨hge, hns, c, T, hc, RdC.keeps hkeep _ _ _ hr⟩, hp⟩
      · rw [e1] at he
        obtain ⟨b1, k1, k2⟩ := h.box t s1 x he
        exact ⟨b1, k1.step hkeep hg (fun e2 => by
          have := Option.some.inj e2
          subst this
          exact h.boxd b t s s1 q x g hb he (Ne.symm hne) hp k2) (fun _ _ _ _ => Iff.rfl), k2⟩
    boxd := fun t t' s1 s2 x x' b1 h1 h2 hne hb1 => by
      rcases other t with ⟨rfl, e1⟩ | ⟨hn1, e1⟩
      · rcases other t' with ⟨rfl, e2⟩ | ⟨hn2, e2⟩
        · exact absurd rfl hne
        · rw [e2] at h2
          exact h.boxd t t' s s2 q x' b1 hb h2 hne hb1
      · rw [e1] at h1
        rcases other t' with ⟨rfl, e2⟩ | ⟨hn2, e2⟩
        · exact h.boxd t t' s1 s x q b1 h1 hb hne hb1
        · rw [e2] at h2
          exact h.boxd t t' s1 s2 x x' b1 h1 h2 hne hb1
    boxo := fun t s1 x b1 l e h1 hb1 h2 => by
      rcases other t with ⟨rfl, e1⟩ | ⟨hn1, e1⟩
      · exact h.boxo t s q b1 l e hb hb1 (hlab l l e h2).2
      · rw [e1] at h1
        exact h.boxo t s1 x b1 l e h1 hb1 (hlab l l e h2).2
    badr := fun t s1 p he => by
      rcases other t with ⟨_, e1⟩ | ⟨_, e1⟩
      · rw [e1] at he; cases he
      · rw [e1] at he
        obtain ⟨u, y, z, g1, k1, k2, k3, o, k4, k5⟩ := h.badr t s1 p he
        rcases other s1 with ⟨e3, e2⟩ | ⟨_, e2⟩
        · subst e3
          rw [hb] at k1
          obtain ⟨k0, k1⟩ := AV.box.inj k1
          subst k0
          obtain rfl := eq_of_heq k1
          obtain ⟨z', k6⟩ := getPath_shape p _ _ q' _ k3
          exact ⟨_, q', z', g1, e2, k2, k6, o, k4, k5⟩
        · exact ⟨u, y, z, g1, by rw [e2]; exact k1, k2, k3, o, k4, k5⟩ }, hkeep⟩

theorem store_does (h : R base w0 S0 S fr a w) (hT : TyOk P E) {o : Oper} (hdst : o.dst = none) {t : TypeId} {x y : Operand} {b : Nat} {p : List Nat} {s u : Sh} {q q' : Den s} {z : Den u} {oz : Lab} (hop : o.op = .store t x y)
    (hx : rdo E fr true 0 x = (true, .badr b p)) (hy : rdo E fr true t y = (true, .dat u z oz)) (hb : fr b = .box s q) (hset : setPath s q p u z = some q') (ht : (E.ti t).sh = some u) :
    OpDoes P o a w (RK base w0 S0 a.tmps.size w S (fr.rebox b (.box s q'))) := by
  obtain ⟨s', y', r, g, e1, e2, e3, off, e4, e5⟩ := (rdo_ok h hx).2.bd b p rfl
  rw [hb] at e1
  obtain ⟨rfl, e1⟩ := AV.box.inj e1
  obtain rfl := eq_of_heq e1
  obtain ⟨g', ⟨hge, hns, c0, T0, hc0, hr0⟩, e0⟩ := h.box b s q hb
  rw [e2] at e0
  obtain rfl : g = g' := by simpa using e0
  have hz := rd_cells (rdo_ok h hy).1
  have hzl := RdC.length _ _ _ hz
  obtain ⟨k2, k3⟩ := setPath_ok p s q u z q' _ _ off hr0 hset hz e4
  have hcl := RdC.length _ _ _ hr0
  have hst := run_storeCells_at P g off T0 (a.eval y).cells.toList 0 c0 w hc0 (by rw [Nat.add_zero, hzl]; simp only [Array.length_toList] at hcl; omega) (RdC.oneCell _ _ _ hz)
  rw [Nat.add_zero, hzl] at hst
  have hrun : (execOp a.eval o).run P w = .ok .skip (w.setRow g (c0.toList.take off ++ (a.eval y).cells.toList ++ c0.toList.drop (off + u.size)).toArray) := by
    have h1 : (Instr.storeAt t (a.eval x) (a.eval y)).run P w = .ok () (w.setRow g (c0.toList.take off ++ (a.eval y).cells.toList ++ c0.toList.drop (off + u.size)).toArray) := by
      rw [e5]
      unfold Instr.storeAt Instr.sureAddr
      simp only
      show ((pure (⟨g, off, none⟩ : Addr) : Sem Addr).bind _).run P w = _
      rw [Sem.run_bind', Sem.run_pure, Result.andThen_ok]
      unfold storeVar
      rw [Sem.run_bind, (hT t u ht).sizeOf, Result.andThen_ok]
      have hz2 : (a.eval y).cells.size = u.size := by simpa using hzl
      rw [if_neg (by omega)]
      exact hst
    unfold execOp
    simp only [hop]
    rw [Sem.run_bind, h1]
    rfl
  refine OpDoes.skip hrun ⟨by rw [hdst]; rfl, S, ?_⟩
  rw [hdst]
  exact h.rebox hb e2 (w' := w.setRow g _) ⟨rfl, rfl, rfl, by simp, fun k _ hk => setRow_other w g k _ (fun e => hk (by rw [e]))⟩ (setRow_heap w g c0 _ T0 (0, 0) hc0) (by simpa using k2)
end
end Go.Av
