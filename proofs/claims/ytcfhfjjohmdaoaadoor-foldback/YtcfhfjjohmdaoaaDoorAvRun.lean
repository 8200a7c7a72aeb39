/-
  Lists of operations, regions, code and functions: the reading is what the machine does.
-/
import Derived.Test.YtcfhfjjohmdaoaaDoorAvStore
namespace Go.Av
open Go.RowKit Go.Lib

section
variable {base : Nat → Prop} {w0 w : World} {S0 S : Stable} {fr : Fr} {a : Act} {P : Program} {E : Env}

theorem getD_of_getElem? {l : Array Value} {t : Nat} {v : Value} (h : l.getD t undef = v) (hv : v ≠ undef) : l[t]? = some v := by
  unfold Array.getD at h
  split at h
  · rename_i hlt
    rw [Array.getElem?_eq_getElem hlt]
    exact congrArg some h
  · exact absurd h.symm hv

theorem rd_cnd0 {v : Value} {av : AV} (h : Rd w S v (.cnd false av)) : v = undef := by
  cases h with
  | cnd _ _ _ h0 _ => exact h0 rfl

theorem guard_ok (h : R base w0 S0 S fr a w) {ops : Array Oper} {o : Oper} {j : Nat} {want G : Bool} (hg : o.guard = some (j, want)) (he : guardB ops fr j want = some G) :
    Region.wanted o (yielded ops a.tmps) = G := by
  unfold guardB at he
  unfold Region.wanted
  rw [hg]
  simp only
  split at he
  · rename_i t ht
    have hr := h.rd t
    have hy : ∀ b : Bool, a.tmps.getD t undef = .bool b → yielded ops a.tmps j = some b := fun b hb => by
      unfold yielded
      rw [ht]
      simp only [Option.bind_some]
      rw [getD_of_getElem? hb (by simp [undef])]
    split at he
    · rename_i b o' hf
      rw [hf] at hr
      simp only [Option.some.injEq] at he
      subst he
      rw [hy _ (dat_bool hr)]
      cases b <;> cases want <;> rfl
    · rename_i v hf
      rw [hf] at hr
      simp only [Option.some.injEq] at he
      subst he
      have hu : a.tmps.getD t undef = undef := rd_cnd0 hr
      have : yielded ops a.tmps j = none := by
        unfold yielded
        rw [ht]
        simp only [Option.bind_some]
        rcases Nat.lt_or_ge t a.tmps.size with hlt | hge
        · rw [Array.getElem?_eq_getElem hlt]
          unfold Array.getD at hu
          rw [dif_pos hlt] at hu
          have hu' : a.tmps[t] = undef := hu
          rw [hu']
          rfl
        · rw [Array.getElem?_eq_none hge]
      rw [this]
      rfl
    · rename_i b o' hf
      rw [hf] at hr
      simp only [Option.some.injEq] at he
      subst he
      rw [hy _ (dat_bool (rd_cnd hr rfl))]
      cases b <;> cases want <;> rfl
    · cases he
  · cases he

theorem stepU_ok (hn : a.tmps.size = E.nt) (h : R base w0 S0 S fr a w) (hT : TyOk P E) (hF : FnsOk P E w S) {o : Oper} {d : Nat} {fr' : Fr} (hdst : o.dst = some d) (hd : d < a.tmps.size) (he : stepU E fr o d = some (true, fr')) :
    OpDoes P o a w (RK base w0 S0 E.nt w S fr') := by
  unfold stepU at he
  split at he
  · rename_i ok v hst
    split at he
    · rename_i hok
      simp only [Option.some.injEq, Prod.mk.injEq] at he
      obtain ⟨rfl, rfl⟩ := he
      obtain ⟨val, k1, k2, k3⟩ := still_ok h hT hst (bx := true) (.inl rfl)
      refine OpDoes.value (k1 w (Like.refl _ _ _ _ _)) ⟨by rw [put_size, hn], S, ?_, Keeps.refl w S⟩
      rw [hdst]
      exact h.put_copy hd k2 k3 hok
    · cases he
  · split at he
    · rename_i ok v hef
      simp only [Option.some.injEq, Prod.mk.injEq] at he
      obtain ⟨rfl, rfl⟩ := he
      refine (eff_ok h hT hF hef).mono fun a' w' ⟨S', val, g, hr, ha⟩ => ?_
      rw [ha, hdst]
      exact ⟨by rw [put_size, hn], S', h.called hd g hr, g.keeps h.slt⟩
    · have := special_ok h hT hF hdst hd he
      rw [hn] at this
      exact this

/-- One operation: if it is carried out it does what the frame says; if not, the frame says so. -/
theorem step_ok (hn : a.tmps.size = E.nt) (h : R base w0 S0 S fr a w) (hT : TyOk P E) (hF : FnsOk P E w S) {ops : Array Oper} {o : Oper} {fr' : Fr} (he : stepOp E ops fr o = some (true, fr')) :
    (Region.wanted o (yielded ops a.tmps) = true ∧ OpDoes P o a w (RK base w0 S0 E.nt w S fr')) ∨ (Region.wanted o (yielded ops a.tmps) = false ∧ RK base w0 S0 E.nt w S fr' (a.put o.dst undef) w) := by
  unfold stepOp at he
  split at he
  · rename_i d hdst
    split at he
    · cases he
    rename_i hlt
    have hd : d < a.tmps.size := by rw [hn]; exact Nat.lt_of_not_le hlt
    split at he
    · rename_i hg
      have hw : Region.wanted o (yielded ops a.tmps) = true := by simp [Region.wanted, hg]
      exact .inl ⟨hw, stepU_ok hn h hT hF hdst hd he⟩
    · rename_i j want hg
      split at he
      · rename_i hG
        exact .inl ⟨guard_ok h hg hG, stepU_ok hn h hT hF hdst hd he⟩
      · rename_i hG
        simp only [Option.some.injEq, Prod.mk.injEq, true_and] at he
        subst he
        refine .inr ⟨guard_ok h hg hG, ?_⟩
        rw [hdst]
        exact ⟨by rw [put_size, hn], S, h.put_plain hd (.cnd _ _ _ (fun _ => rfl) (fun e => by cases e)) rfl, Keeps.refl w S⟩
      · cases he
  · rename_i hdst
    split at he
    · rename_i t x y hg hop
      have hw : Region.wanted o (yielded ops a.tmps) = true := by simp [Region.wanted, hg]
      refine .inl ⟨hw, ?_⟩
      split at he
      · rename_i okx b p oky u z oz hx hy
        split at he
        · rename_i s q hb
          split at he
          · rename_i q' hset
            split at he
            · rename_i ht
              simp only [Option.some.injEq, Prod.mk.injEq, Bool.and_eq_true] at he
              obtain ⟨⟨rfl, rfl⟩, rfl⟩ := he
              have := store_does h hT hdst hop hx hy hb hset ht
              rw [hn] at this
              exact this
            · cases he
          · cases he
        · cases he
      · cases he
    · cases he

theorem RK.rr {n : Nat} {wi : World} {Si : Stable} {fr : Fr} {a : Act} {w : World} (h : RK base w0 S0 n wi Si fr a w) : RR base w0 S0 n fr a w := ⟨h.1, h.2.choose, h.2.choose_spec.1⟩

theorem set_same (fr : Fr) (d : Nat) (v : AV) (h : fr d = v) : fr.set d v = fr := by
  funext x
  unfold Fr.set
  split
  · rename_i e; rw [e, h]
  · rfl

theorem splitB_ok {ops : Array Oper} {o : Option Nat} {fr : Fr} {K : Fr → Option AV} {r : AV} (h : splitB ops o fr K = some r) : K fr = some r := by
  unfold splitB at h
  split at h
  · exact h
  · rename_i d
    split at h
    · exact h
    · split at h
      · rename_i b o hd
        cases b with
        | true => simp only [cond_true] at h; rw [set_same _ _ _ hd] at h; exact h
        | false => simp only [cond_false] at h; rw [set_same _ _ _ hd] at h; exact h
      · rename_i b o hd
        cases b with
        | true => simp only [cond_true] at h; rw [set_same _ _ _ hd] at h; exact h
        | false => simp only [cond_false] at h; rw [set_same _ _ _ hd] at h; exact h
      · exact h

theorem evOps_ok (hT : TyOk P E) (hF : ∀ w S, FnsOk P E w S) {ops : Array Oper} {Q : Exit → Act → World → Prop} {K : Fr → Option AV} {r : AV}
    (hK : ∀ fr' a' w', K fr' = some r → RR base w0 S0 E.nt fr' a' w' → Q .normal a' w') : ∀ (l : List Oper) (fr : Fr) (a : Act) (w : World), evOps E ops l fr K = some r → RR base w0 S0 E.nt fr a w → wpList P ops Q l a w
  | [], fr, a, w, he, hR => hK fr a w he hR
  | o :: rest, fr, a, w, he, ⟨hn, S, h⟩ => by
    simp only [evOps] at he
    cases hs : stepOp E ops fr o with
    | none => rw [hs] at he; cases he
    | some p =>
      obtain ⟨ok, fr'⟩ := p
      rw [hs] at he
      simp only at he
      cases ok with
      | false => cases he
      | true =>
        simp only [cond_true] at he
        replace he := splitB_ok he
        unfold wpList
        rcases step_ok hn h hT (hF _ _) hs with ⟨hw, hd⟩ | ⟨hw, hR'⟩
        · rw [if_pos hw]
          exact .inl (hd _ _ fun a' w' hR' => evOps_ok hT hF hK rest fr' a' w' he hR'.rr)
        · rw [hw]
          exact evOps_ok hT hF hK rest fr' _ w he hR'.rr
end
end Go.Av
