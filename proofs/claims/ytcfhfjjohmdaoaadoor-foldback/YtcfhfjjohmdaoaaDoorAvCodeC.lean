/-
  The contract of a function that takes an owned slice, out of its reading.
-/
import Derived.Test.YtcfhfjjohmdaoaaDoorAvGen
namespace Go.Av
open Go.RowKit Go.Lib

/-- A function's body, from its arguments: the first is a slice that the function owns. -/
def evFnC (E : Env) (n : Nat) (c : Code) (rs : Array ResultVar) (avs : List AV) : Option AV :=
  if E.nt < avs.length then none else evC E (evL E n) c (kFn E rs) (fun t => if t = 0 then avs.getD 0 .bad else (avs.getD t .bad).strip)

section
variable {w : World} {S : Stable} {P : Program} {E : Env}

theorem R.startC (hS : ∀ b o, S b o → b < w.heap.size) {Pr : Nat → Prop} {v0 : Value} {vals : List Value} {avs : List AV} {e : Sh} {x : List (Den e)} {te : TypeId}
    (hr0 : Rd w S v0 (.dat (.sl e) x none)) (ho : OwnRow w S Pr te e v0 x) (ha : ArgsRd w S vals avs) (k : Nat) :
    R (fun k => k < w.heap.size ∧ v0.ownBlock ≠ some k) w S S (fun t => if t = 0 then (.dat (.sl e) x (some (0, te)) :: avs).getD 0 .bad else ((.dat (.sl e) x (some (0, te)) :: avs).getD t .bad).strip)
      { tmps := (v0 :: vals).toArray ++ Array.replicate k undef, defers := [] } w := by
  have h0 := R.start hS (vals := v0 :: vals) (avs := .dat (.sl e) x (some (0, te)) :: avs) (by
    refine ⟨by simp [ha.1], fun i v av hv hav => ?_⟩
    cases i with
    | zero =>
      simp only [List.getElem?_cons_zero, Option.some.injEq] at hv hav
      subst hv hav
      exact hr0.relab (some (0, te))
    | succ i =>
      simp only [List.getElem?_cons_succ] at hv hav
      exact ha.2 i v av hv hav) k
  have hst : ∀ t, ((AV.dat (.sl e) x (some (0, te)) :: avs).getD t .bad).strip.lab = none := fun t => strip_lab _
  have hget : ((v0 :: vals).toArray ++ Array.replicate k undef).getD 0 undef = v0 := by
    unfold Array.getD
    rw [dif_pos (by simp; omega)]
    simp
  have hnb : ∀ t s (y : Den s), ((AV.dat (.sl e) x (some (0, te)) :: avs).getD t .bad).strip ≠ .box s y := fun t s y he => by
    cases h1 : (AV.dat (.sl e) x (some (0, te)) :: avs).getD t .bad <;> rw [h1] at he <;> cases he
  have hnp : ∀ t s p, ((AV.dat (.sl e) x (some (0, te)) :: avs).getD t .bad).strip ≠ .badr s p := fun t s p he => by
    cases h1 : (AV.dat (.sl e) x (some (0, te)) :: avs).getD t .bad <;> rw [h1] at he <;> cases he
  have hlab : ∀ t l te', (if t = 0 then (AV.dat (.sl e) x (some (0, te)) :: avs).getD 0 .bad else ((AV.dat (.sl e) x (some (0, te)) :: avs).getD t .bad).strip).lab = some (l, te') → t = 0 ∧ l = 0 ∧ te' = te := fun t l te' he => by
    split at he
    · rename_i ht
      simp only [List.getD_cons_zero, AV.lab, Option.some.injEq, Prod.mk.injEq] at he
      exact ⟨ht, he.1.symm, he.2.symm⟩
    · rw [hst] at he; cases he
  refine ⟨Kept.refl _ _, fun _ hk => hk.1, fun _ _ _ => Iff.rfl, Keeps.refl _ _, hS, rfl, fun t => ?_, fun t l te' he => ?_, fun t s y l he => ?_, fun t e' y te' he => ?_, fun l l' e1 e2 b h1 h2 hne => ?_, fun t s y he => ?_, fun t t' s s' y y' b he => ?_, fun t s y b l e1 he => ?_, fun t s p he => ?_⟩
  · split
    · rename_i ht
      subst ht
      simp only [List.getD_cons_zero, hget]
      exact hr0.relab (some (0, te))
    · exact h0.rd t
  · obtain ⟨rfl, rfl, _⟩ := hlab t l te' he
    exact ⟨rfl, rfl⟩
  · split at he
    · simp only [List.getD_cons_zero] at he
      exact ⟨e, (AV.dat.inj he).1.symm⟩
    · have := hst t
      rw [he] at this
      cases this
  · split at he
    · rename_i ht
      subst ht
      simp only [List.getD_cons_zero] at he
      obtain ⟨h4, h5, h6⟩ := AV.dat.inj he
      obtain rfl : e = e' := by simpa using h4
      obtain rfl := eq_of_heq h5
      simp only [Option.some.injEq, Prod.mk.injEq, true_and] at h6
      subst h6
      obtain ⟨xs, k1, k2, k3, k4⟩ := ho
      simp only [hget]
      exact ⟨xs, k1, k2, k3, fun b hb hp => hp.2 hb⟩
    · have := hst t
      rw [he] at this
      cases this
  · exact absurd ((hlab _ _ _ h1).1.trans (hlab _ _ _ h2).1.symm) hne
  · split at he
    · simp only [List.getD_cons_zero] at he; cases he
    · exact absurd he (hnb t s y)
  · split at he
    · simp only [List.getD_cons_zero] at he; cases he
    · exact absurd he (hnb t s y)
  · split at he
    · simp only [List.getD_cons_zero] at he; cases he
    · exact absurd he (hnb t s y)
  · split at he
    · simp only [List.getD_cons_zero] at he; cases he
    · exact absurd he (hnp t s p)

/-- A function that takes an owned slice keeps its contract, if its reading says what the contract says. -/
theorem soundC_of_ev (hT : TyOk P E) (hF : ∀ w S, FnsOk P E w S) (hm : P.follows .mixedOrders = true) {f : FuncId} {fn : Func} {c : Code} (hf : P.funcs[f]? = some fn) (hb : fn.body = some c) (hnt : fn.ntmps = E.nt)
    (hname : (fn.name == "runtime.NumGoroutine") = false) {spec : List AV → Bool × AV} (hspec : ∀ avs r, spec avs = (true, r) → ∃ n, evFnC E n c fn.results avs = some r) : SoundC P f spec := by
  intro w S Pr v0 vals avs e x r te k hs hS hPr hr0 ho ha
  obtain ⟨n, he⟩ := hspec _ _ hs
  unfold evFnC at he
  split at he
  · cases he
  rename_i hle
  have fin : ∀ (S' : Stable) (fr : Fr) (a : Act) (w' : World) (v : Value), R (fun k => k < w.heap.size ∧ v0.ownBlock ≠ some k) w S S' fr a w' → ResRd (fun k => k < w.heap.size ∧ v0.ownBlock ≠ some k) w' S' v (.dat (.sl e) r (some (k, te))) →
      ∃ S', w.grownBy w' v0.ownBlock ∧ Keeps w S w' S' ∧ (∀ b o, b < w.heap.size → v0.ownBlock ≠ some b → (S' b o ↔ S b o)) ∧ (∀ b o, S' b o → b < w'.heap.size) ∧
      Rd w' S' v (.dat (.sl e) r none) ∧ OwnRow w' S' Pr te e v r ∧ ∀ b, v.ownBlock = some b → v0.ownBlock = some b ∨ w.heap.size ≤ b := by
    intro S' fr a w' v h hr
    obtain ⟨e', y, h1, xs, k1, k2, k3, k4⟩ := hr.own k te rfl
    obtain ⟨h4, h5, _⟩ := AV.dat.inj h1
    obtain rfl : e = e' := by simpa using h4
    obtain rfl := eq_of_heq h5
    have hnew : ∀ b, v.ownBlock = some b → v0.ownBlock = some b ∨ w.heap.size ≤ b := fun b hb => by
      have := k4 b hb
      by_cases hlt : b < w.heap.size
      · exact .inl (Classical.byContradiction fun hne => this ⟨hlt, hne⟩)
      · exact .inr (Nat.le_of_not_lt hlt)
    refine ⟨S', ⟨h.below.os, h.below.tape, h.below.output, h.below.size, fun k hk hne => h.below.block k ⟨hk, fun e => hne e.symm⟩⟩, h.kp, fun b o hb hne => h.old b o ⟨hb, hne⟩, h.slt, hr.rd.relab none, ⟨xs, k1, k2, k3, fun b hb hp => ?_⟩, hnew⟩
    rcases hnew b hb with h6 | h6
    · obtain ⟨_, _, _, _, k5⟩ := ho
      exact k5 b h6 hp
    · have := hPr b hp
      omega
  left
  constructor
  · unfold callFunc
    rw [Sem.run_bind]
    have hname' : ¬ fn.name = "runtime.NumGoroutine" := by simpa using hname
    simp [program, Sem.run, hf, hname', hb]
  · refine calls_of_wp hf hb ?_
    have hsz : ((v0 :: vals).toArray ++ Array.replicate (fn.ntmps - (v0 :: vals).toArray.size) undef).size = E.nt := by
      have := ha.1
      simp at hle ⊢
      omega
    have hstart := R.startC hS hr0 ho ha (fn.ntmps - (v0 :: vals).toArray.size)
    refine evC_ok hT hF hm (evL_ok hT hF hm n) c _ _ _ _ w he ⟨fun ch a w' hp => ?_, fun ex fr a w' h1 h2 => ?_⟩ ⟨hsz, S, hstart⟩
    · obtain ⟨_, v, e, _⟩ := hp
      cases e
    · obtain ⟨hn, S', h⟩ := h2
      cases ex with
      | normal =>
        obtain ⟨v, k1, k2⟩ := results_ok h hT h1
        exact ⟨h.dfr, v, k1, v, rfl, fin S' fr a w' v h k2⟩
      | exit id => cases h1
      | ret =>
        obtain ⟨v, k1, k2⟩ := results_ok h hT h1
        exact ⟨h.dfr, v, k1, v, rfl, fin S' fr a w' v h k2⟩
end

def cnsOf : List (FuncId × (List AV → Bool × AV)) → FuncId → Option (List AV → Bool × AV)
  | [], _ => none
  | (k, s) :: r, f => if f = k then some s else cnsOf r f

theorem cns_nil {P : Program} : ∀ f sp, cnsOf [] f = some sp → SoundC P f sp := fun _ _ h => by cases h
theorem cns_cons {P : Program} {k : FuncId} {s : List AV → Bool × AV} {r : List (FuncId × (List AV → Bool × AV))} (h : SoundC P k s) (hr : ∀ f sp, cnsOf r f = some sp → SoundC P f sp) :
    ∀ f sp, cnsOf ((k, s) :: r) f = some sp → SoundC P f sp := fun f sp he => by
  unfold cnsOf at he
  split at he
  · rename_i e
    subst e
    obtain rfl := Option.some.inj he
    exact h
  · exact hr f sp he
end Go.Av
