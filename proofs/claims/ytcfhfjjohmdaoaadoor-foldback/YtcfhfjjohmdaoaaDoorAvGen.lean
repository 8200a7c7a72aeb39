/-
  Contracts of a program's functions, as a list; a contract out of a reading.
-/
import Derived.Test.YtcfhfjjohmdaoaaDoorAvTy
namespace Go.Av
open Go.RowKit

def fnsOf : List (FuncId × (List AV → Bool × AV)) → FuncId → List AV → Bool × AV
  | [], _ => fun _ => (false, .bad)
  | (k, s) :: r, f => if f = k then s else fnsOf r f

theorem fns_nil {P : Program} {w : World} {S : Stable} : ∀ f, SoundAt P f (fnsOf [] f) w S := fun _ _ _ _ h => by cases h
theorem fns_cons {P : Program} {w : World} {S : Stable} {k : FuncId} {s : List AV → Bool × AV} {r : List (FuncId × (List AV → Bool × AV))} (h : SoundAt P k s w S) (hr : ∀ f, SoundAt P f (fnsOf r f) w S) : ∀ f, SoundAt P f (fnsOf ((k, s) :: r) f) w S := fun f => by
  unfold fnsOf
  split
  · rename_i e; subst e; exact h
  · exact hr f

theorem Ran.mono {P : Program} {f : FuncId} {vals : Array Value} {w : World} {Post Post' : Value → World → Prop} (h : Ran P f vals w Post) (hp : ∀ v w', Post v w' → Post' v w') : Ran P f vals w Post' := by
  rcases h with ⟨h1, h2⟩ | ⟨v, w', h1, h2⟩
  · exact .inl ⟨h1, h2.mono fun e w' ⟨v, he, hq⟩ => ⟨v, he, hp _ _ hq⟩⟩
  · exact .inr ⟨v, w', h1, hp _ _ h2⟩

theorem ResRd.strip {n : Nat → Prop} {w' : World} {S' : Stable} {v : Value} {r : AV} (h : ResRd n w' S' v r) : ResRd n w' S' v r.strip where
  rd := h.rd.strip
  nb := fun s x e => by cases r <;> simp [AV.strip] at e
  np := fun s p e => by cases r <;> simp [AV.strip] at e
  own := fun l te e => by rw [strip_lab] at e; cases e

theorem SoundAt.strip {P : Program} {f : FuncId} {w : World} {S : Stable} {spec : List AV → Bool × AV} (h : SoundAt P f spec w S) {spec' : List AV → Bool × AV} (he : ∀ avs r, spec' avs = (true, r) → ∃ r', spec avs = (true, r') ∧ (r' = r ∨ r'.strip = r)) : SoundAt P f spec' w S := by
  intro vals avs r h1 h2 h3
  obtain ⟨r', k1, k2⟩ := he avs r h1
  refine (h vals avs r' k1 h2 h3).mono fun v w' ⟨S', g, hr⟩ => ⟨S', g, ?_⟩
  rcases k2 with rfl | rfl
  · exact hr
  · exact hr.strip

/-- A premise that holds everywhere. -/
def Any : World → Stable → Prop := fun _ _ => True
theorem any_stays : Stays Any := fun _ _ _ _ _ _ => trivial
theorem Sound.g {G : World → Stable → Prop} {P : Program} {f : FuncId} {spec : List AV → Bool × AV} (h : Sound P f spec) : SoundG G P f spec := fun w S _ => h w S

theorem Sound.strip {P : Program} {f : FuncId} {spec : List AV → Bool × AV} (h : Sound P f spec) {spec' : List AV → Bool × AV} (he : ∀ avs r, spec' avs = (true, r) → ∃ r', spec avs = (true, r') ∧ (r' = r ∨ r'.strip = r)) : Sound P f spec' :=
  fun w S => (h w S).strip he

/-- A contract out of a reading: what the reading says, or that without the owner. -/
theorem sound_of_ev' {P : Program} {E : Env} (hT : TyOk P E) (hF : ∀ w S, FnsOk P E w S) (hm : P.follows .mixedOrders = true) {f : FuncId} {fn : Func} {c : Code} (hf : P.funcs[f]? = some fn) (hb : fn.body = some c) (hnt : fn.ntmps = E.nt)
    (hname : (fn.name == "runtime.NumGoroutine") = false) {spec : List AV → Bool × AV} (hspec : ∀ avs r, spec avs = (true, r) → ∃ n r', evFn E n c fn.results avs = some r' ∧ (r' = r ∨ r'.strip = r)) : Sound P f spec := by
  classical
  let spec0 : List AV → Bool × AV := fun avs => if h : ∃ n r', evFn E n c fn.results avs = some r' ∧ (r' = (spec avs).2 ∨ r'.strip = (spec avs).2) then (true, h.choose_spec.choose) else (false, .bad)
  have h0 : Sound P f spec0 := sound_of_ev hT hF hm hf hb hnt hname fun avs r hs => by
    simp only [spec0] at hs
    split at hs
    · rename_i h
      simp only [Prod.mk.injEq, true_and] at hs
      subst hs
      exact ⟨_, h.choose_spec.choose_spec.1⟩
    · cases hs
  refine h0.strip fun avs r hs => ?_
  obtain ⟨n, r', k1, k2⟩ := hspec avs r hs
  have h : ∃ n r', evFn E n c fn.results avs = some r' ∧ (r' = (spec avs).2 ∨ r'.strip = (spec avs).2) := ⟨n, r', k1, by rw [hs]; exact k2⟩
  refine ⟨h.choose_spec.choose, by simp only [spec0]; rw [dif_pos h], ?_⟩
  have e2 : (spec avs).2 = r := by rw [hs]
  rcases h.choose_spec.choose_spec.2 with h1 | h1
  · exact .inl (h1.trans e2)
  · exact .inr (h1.trans e2)

end Go.Av
