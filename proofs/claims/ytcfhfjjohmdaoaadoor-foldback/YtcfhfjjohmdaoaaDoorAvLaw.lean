/-
  From a law's contract to the call that the rows ask for.
-/
import Derived.Test.YtcfhfjjohmdaoaaDoorAvGen
import Derived.Below
import Derived.ChangeSame
import Derived.OpenShut
namespace Go.Av
open Go.RowKit Go.WideShapes Go.ChangeShapes

section
variable {H : Type} {enc : TypeId × Value → H} {P : Program}
theorem post_of_below {f : Func} {s : ChangeSpec} {apart fresh handsOn again : Bool} {W W' : World} {args : Array Value} {v : Value} {ds gs : List (DataW H)} {before pa pv : List MemPlace}
    (hW : DataW.Whole enc P f.params.toList s.vars apart W args.toList ds gs before)
    (hres : ∀ (b : Nat) (sp : Nat → Bool) (hd : Bool), DataW.TrodAll enc P W' b sp hd f.resultTypes.toList (v.resultList f.resultTypes.size) (s.fn H (ds ++ gs)).results [])
    (hargs : ∀ sp : Nat → Bool, (∀ p ∈ before, sp p.block = true) → DataW.TrodAll enc P W' 0 sp true f.params.toList args.toList (s.fn H (ds ++ gs)).args pa)
    (hvars : ∀ sp : Nat → Bool, (∀ p ∈ before, sp p.block = true) → DataW.TrodVars enc P W' sp s.vars (s.fn H (ds ++ gs)).vars pv)
    (hps : before = pa ++ pv) (hb : Below W.heap.size W W')
    (hok : ∀ (j : Nat) (t : TypeId) (r : Value), f.resultTypes[j]? = some t → (v.resultList f.resultTypes.size)[j]? = some r → Value.okWide P W' .any 0 t r) :
    s.post enc P f apart fresh handsOn again W args v W' := by
  have hlt : ∀ p ∈ before, p.block < W.heap.size := fun p hp => hW.lt p hp
  have hold : ∀ p ∈ before, (fun b => decide (b < W.heap.size)) p.block = true := fun p hp => by simpa using hlt p hp
  refine ⟨ds, gs, before, [], pa, pv, hW, hres _ _ _, hargs _ hold, hvars _ hold, World.keptBut_mono (fun p hp => ⟨hp, ?_⟩) (hb.frame (· ∈ before)), fun _ => ?_⟩
  · rw [hps, List.mem_append] at hp
    exact Or.inr hp
  · obtain ⟨_, _, _, _, _, hz, hn⟩ := hW
    refine ⟨hok, _, _, ([] ++ pa) ++ pv, ⟨[] ++ pa, pv, trodAll_append (hargs _ (fun _ _ => rfl)) (hres _ _ _), hvars _ (fun _ _ => rfl), rfl, ?_, ?_⟩, ?_⟩
    · intro b off hp
      have hin : MemPlace.cell b off ∈ before := by rw [hps]; simpa using hp
      rw [hb.frozen (hlt _ hin)]
      exact hz b off hin
    · intro ha
      have := hn ha
      rw [hps] at this
      simpa using this
    · intro p hp _
      rw [hps]
      simpa using hp
end

/-- The call of a law. -/
theorem law_calls {P : Program} {f : FuncId} {spec : List AV → Bool × AV} {w : World} {S : Stable} (h : SoundAt P f spec w S) {fn : Func} {c : Code} (hf : P.funcs[f]? = some fn) (hb : fn.body = some c)
    (hname : (fn.name == "runtime.NumGoroutine") = false) {vals : List Value} {avs : List AV} (hs : spec avs = (true, .bool true)) (hS : ∀ b o, S b o → b < w.heap.size) (ha : ArgsRd w S vals avs) :
    Calls P f vals.toArray w fun e w' => e = .returned (.bool true) ∧ Below w.heap.size w w' := by
  rcases h vals avs _ hs hS ha with ⟨_, h2⟩ | ⟨v, w', h1, _⟩
  · exact h2.mono fun e w' ⟨v, he, S', g, hr⟩ => ⟨by rw [he, dat_bool hr.rd], g.below⟩
  · exfalso
    have hname' : ¬ fn.name = "runtime.NumGoroutine" := by simpa using hname
    have : (callFunc f vals.toArray).run P w = .ok (.enter f vals.toArray) w := by
      unfold callFunc
      rw [Sem.run_bind]
      simp [program, Sem.run, hf, hname', hb]
    rw [this] at h1
    cases h1

theorem argsRd_nil (w : World) (S : Stable) : ArgsRd w S [] [] := ⟨rfl, fun i v av hv => by simp at hv⟩
theorem argsRd_cons {w : World} {S : Stable} {v : Value} {av : AV} {vs : List Value} {avs : List AV} (h : Rd w S v av) (hr : ArgsRd w S vs avs) : ArgsRd w S (v :: vs) (av :: avs) := by
  refine ⟨by simp [hr.1], fun i u cv hu hc => ?_⟩
  cases i with
  | zero =>
    simp only [List.getElem?_cons_zero, Option.some.injEq] at hu hc
    subst hu hc
    exact h
  | succ i =>
    simp only [List.getElem?_cons_succ] at hu hc
    exact hr.2 i u cv hu hc

theorem wf_u8 {n : Int} (h : (Lit.int .u8 n).wf = true) : 0 ≤ n ∧ n ≤ 255 := by
  have h : (decide ((0 : Int) ≤ n) && decide (n ≤ 255)) = true := h
  simpa using h
theorem wf_i32 {n : Int} (h : (Lit.int .i32 n).wf = true) : -2147483648 ≤ n ∧ n ≤ 2147483647 := by
  have h : (decide ((-2147483648 : Int) ≤ n) && decide (n ≤ 2147483647)) = true := h
  simpa using h
theorem wf_i64 {n : Int} (h : (Lit.int .i64 n).wf = true) : -9223372036854775808 ≤ n ∧ n ≤ 9223372036854775807 := by
  have h : (decide ((-9223372036854775808 : Int) ≤ n) && decide (n ≤ 9223372036854775807)) = true := h
  simpa using h

theorem rd_u8 {w : World} {S : Stable} {n : Int} (h : (Lit.int .u8 n).wf = true) : Rd w S (.int .u8 n) (.byte (UInt8.ofNat n.toNat)) := by
  have h1 := wf_u8 h
  rw [byte_const n (by omega)]
  exact rd_byte _ _ _

/-- What may not turn in a call: all that is there. -/
def Was (w : World) : Stable := fun b _ => b < w.heap.size
end Go.Av
