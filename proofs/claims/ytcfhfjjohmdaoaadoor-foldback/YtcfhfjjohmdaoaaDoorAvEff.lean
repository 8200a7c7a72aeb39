/-
  Operations that make something: calls, literals, new slices.
-/
import Derived.Test.YtcfhfjjohmdaoaaDoorAvFresh
namespace Go.Av
open Go.RowKit

section
variable {base : Nat → Prop} {w0 w : World} {S0 S : Stable} {fr : Fr} {a : Act} {P : Program} {E : Env}

/-- Whatever comes behind an operation holds, if it holds of all that 'Post' says. -/
def OpDoes (P : Program) (o : Oper) (a : Act) (w : World) (Post : Act → World → Prop) : Prop :=
  ∀ (K : Act → World → Prop) (Q : Exit → Act → World → Prop), (∀ a' w', Post a' w' → K a' w') → o.wp P a w K Q

theorem OpDoes.value {o : Oper} {Post : Act → World → Prop} {v : Value} {w' : World} (h : (execOp a.eval o).run P w = .ok (.value v) w') (hp : Post (a.put o.dst v) w') : OpDoes P o a w Post :=
  fun K Q hK => by
    unfold Oper.wp
    rw [h]
    exact hK _ _ hp
theorem OpDoes.skip {o : Oper} {Post : Act → World → Prop} {w' : World} (h : (execOp a.eval o).run P w = .ok .skip w') (hp : Post (a.put o.dst undef) w') : OpDoes P o a w Post :=
  fun K Q hK => by
    unfold Oper.wp
    rw [h]
    exact hK _ _ hp
theorem OpDoes.enter {o : Oper} {Post : Act → World → Prop} {f : FuncId} {args : Array Value} (h : (execOp a.eval o).run P w = .ok (.enter f args) w)
    (hc : Calls P f args w fun e w' => ∃ v, e = .returned v ∧ Post (a.put o.dst v) w') : OpDoes P o a w Post :=
  fun K Q hK => by
    unfold Oper.wp
    rw [h]
    exact hc.mono fun e w' ⟨v, he, hp⟩ => by subst he; exact hK _ _ hp
theorem OpDoes.mono {o : Oper} {Post Post' : Act → World → Prop} (h : OpDoes P o a w Post) (hp : ∀ a' w', Post a' w' → Post' a' w') : OpDoes P o a w Post' :=
  fun K Q hK => h K Q fun _ _ h' => hK _ _ (hp _ _ h')

/-- A call runs so: it enters a body, or yields at once. -/
def Ran (P : Program) (f : FuncId) (vals : Array Value) (w : World) (Post : Value → World → Prop) : Prop :=
  ((callFunc f vals).run P w = .ok (.enter f vals) w ∧ Calls P f vals w fun e w' => ∃ v, e = .returned v ∧ Post v w') ∨
  ∃ v w', (callFunc f vals).run P w = .ok (.value v) w' ∧ Post v w'

/-- THE CONTRACT OF A FUNCTION: where 'spec' says that all is right, the call returns what it says; nothing that was there has turned. -/
def SoundAt (P : Program) (f : FuncId) (spec : List AV → Bool × AV) (w : World) (S : Stable) : Prop :=
  ∀ (vals : List Value) (avs : List AV) (r : AV), spec avs = (true, r) → (∀ b o, S b o → b < w.heap.size) → ArgsRd w S vals avs →
    Ran P f vals.toArray w fun v w' => ∃ S', Grew w S w' S' ∧ ResRd (· < w.heap.size) w' S' v r

/-- A contract in every world. -/
def Sound (P : Program) (f : FuncId) (spec : List AV → Bool × AV) : Prop := ∀ (w : World) (S : Stable), SoundAt P f spec w S
/-- A contract in the worlds that 'G' holds of. -/
def SoundG (G : World → Stable → Prop) (P : Program) (f : FuncId) (spec : List AV → Bool × AV) : Prop := ∀ (w : World) (S : Stable), G w S → SoundAt P f spec w S
/-- What holds of a world stays. -/
def Stays (G : World → Stable → Prop) : Prop := ∀ w S w' S', Keeps w S w' S' → G w S → G w' S'

/-- The contract of a function that takes an owned slice first, and hands back an owned one: nothing else that was there has turned. -/
def SoundCAt (P : Program) (f : FuncId) (spec : List AV → Bool × AV) (w : World) (S : Stable) : Prop :=
  ∀ (Pr : Nat → Prop) (v0 : Value) (vals : List Value) (avs : List AV) (e : Sh) (x r : List (Den e)) (te : TypeId) (k : Nat),
    spec (.dat (.sl e) x (some (0, te)) :: avs) = (true, .dat (.sl e) r (some (k, te))) → (∀ b o, S b o → b < w.heap.size) → (∀ k, Pr k → k < w.heap.size) →
    Rd w S v0 (.dat (.sl e) x none) → OwnRow w S Pr te e v0 x → ArgsRd w S vals avs →
    Ran P f (v0 :: vals).toArray w fun v w' => ∃ S', w.grownBy w' v0.ownBlock ∧ Keeps w S w' S' ∧ (∀ b o, b < w.heap.size → v0.ownBlock ≠ some b → (S' b o ↔ S b o)) ∧ (∀ b o, S' b o → b < w'.heap.size) ∧
      Rd w' S' v (.dat (.sl e) r none) ∧ OwnRow w' S' Pr te e v r ∧ ∀ b, v.ownBlock = some b → v0.ownBlock = some b ∨ w.heap.size ≤ b

def SoundC (P : Program) (f : FuncId) (spec : List AV → Bool × AV) : Prop := ∀ (w : World) (S : Stable), SoundCAt P f spec w S

/-- The contracts that a reading goes by are kept. -/
def FnsOk (P : Program) (E : Env) (w : World) (S : Stable) : Prop := (∀ f, SoundAt P f (E.fns f) w S) ∧ ∀ f sp, E.cns f = some sp → SoundCAt P f sp w S

theorem argsV_ok (h : R base w0 S0 S fr a w) : ∀ (xs : List Operand) (ts : List TypeId) (vs : List AV), xs.length = ts.length → argsV E fr true xs ts = (true, vs) → ArgsRd w S (xs.map a.eval) vs
  | [], [], vs, _, he => by
    simp only [argsV, Prod.mk.injEq, true_and] at he
    subst he
    exact ⟨rfl, fun i v av hv => by simp at hv⟩
  | x :: xs, t :: ts, vs, hl, he => by
    simp only [argsV] at he
    cases h1 : rdo E fr true t x with
    | mk ok v =>
      cases h2 : argsV E fr true xs ts with
      | mk oks vs' =>
        rw [h1, h2] at he
        simp only [Prod.mk.injEq, Bool.and_eq_true] at he
        obtain ⟨⟨rfl, rfl⟩, rfl⟩ := he
        have hr := argsV_ok h xs ts vs' (by simpa using hl) h2
        refine ⟨by simp [hr.1], fun i u av hu hav => ?_⟩
        cases i with
        | zero =>
          simp only [List.map_cons, List.getElem?_cons_zero, Option.some.injEq] at hu hav
          subst hu
          subst hav
          exact (rdo_ok h h1).1.strip
        | succ i =>
          simp only [List.map_cons, List.getElem?_cons_succ] at hu hav
          exact hr.2 i u av hu hav
  | [], _ :: _, _, hl, _ => by simp at hl
  | _ :: _, [], _, hl, _ => by simp at hl

/-- A call, and what it hands back put into its slot. -/
theorem call_does (h : R base w0 S0 S fr a w) {o : Oper} {d : Nat} (hd : o.dst = some d) (hlt : d < a.tmps.size) {f : FuncId} {vals : List Value} {avs : List AV} {r : AV} {spec : List AV → Bool × AV} (hS : SoundAt P f spec w S)
    (hrun : (execOp a.eval o).run P w = (callFunc f vals.toArray).run P w) (hspec : spec avs = (true, r)) (hargs : ArgsRd w S vals avs) :
    OpDoes P o a w fun a' w' => a'.tmps.size = a.tmps.size ∧ ∃ S' v, Grew w S w' S' ∧ ResRd (· < w.heap.size) w' S' v r ∧ a' = a.put (some d) v ∧ R base w0 S0 S' (fr.put d (r.at d)) a' w' := by
  rcases hS vals avs r hspec h.slt hargs with ⟨h1, h2⟩ | ⟨v, w', h1, S', g, hr⟩
  · refine OpDoes.enter (hrun.trans h1) (h2.mono fun e w' ⟨v, he, S', g, hr⟩ => ⟨v, he, ?_⟩)
    rw [hd]
    exact ⟨put_size _ _ _, S', v, g, hr, rfl, h.called hlt g hr⟩
  · refine OpDoes.value (hrun.trans h1) ?_
    rw [hd]
    exact ⟨put_size _ _ _, S', v, g, hr, rfl, h.called hlt g hr⟩
end
end Go.Av
