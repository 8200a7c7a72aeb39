/-
  The table of types that a reading goes by, checked by the kernel.
-/
import Derived.Test.YtcfhfjjohmdaoaaDoorAvCode
namespace Go.Av
open Go.RowKit

def zeroN (f : List Value → Option (List Value)) : Nat → List Value → Option (List Value)
  | 0, vs => some vs
  | n + 1, vs => match f vs with
    | some r => zeroN f n r
    | none => none

/-- Cells that are a shape's zero. -/
def zeroC : (s : Sh) → List Value → Option (List Value)
  | .bool, vs => match vs with
    | .bool false :: r => some r
    | _ => none
  | .byte, vs => match vs with
    | .int .u8 n :: r => if n = 0 then some r else none
    | _ => none
  | .int k, vs => match vs with
    | .int k' n :: r => if k' = k ∧ n = 0 then some r else none
    | _ => none
  | .str, vs => match vs with
    | .string b :: r => if b.data.toList = [] then some r else none
    | _ => none
  | .sl _, vs => match vs with
    | .slice none 0 0 :: r => some r
    | _ => none
  | .unit, vs => some vs
  | .pair a b, vs => match zeroC a vs with
    | some r => zeroC b r
    | none => none
  | .arr n e, vs => zeroN (zeroC e) n vs

theorem zeroN_ok {e : Sh} (hf : ∀ vs r, zeroC e vs = some r → ∃ us, vs = us ++ r ∧ ∀ w S, RdC w S e (dflt e) us) :
    ∀ (n : Nat) (vs r : List Value), zeroN (zeroC e) n vs = some r → ∃ us, vs = us ++ r ∧ ∀ w S, Chunks (RdC w S e) (List.replicate n (dflt e)) us
  | 0, vs, r, h => by
    simp only [zeroN, Option.some.injEq] at h
    exact ⟨[], by simp [h], fun _ _ => rfl⟩
  | n + 1, vs, r, h => by
    simp only [zeroN] at h
    split at h
    · rename_i r1 h1
      obtain ⟨us, e1, k1⟩ := hf _ _ h1
      obtain ⟨us2, e2, k2⟩ := zeroN_ok hf n _ _ h
      exact ⟨us ++ us2, by rw [e1, e2, List.append_assoc], fun w S => ⟨us, us2, rfl, k1 w S, k2 w S⟩⟩
    · cases h

theorem zeroC_ok : ∀ (s : Sh) (vs r : List Value), zeroC s vs = some r → ∃ us, vs = us ++ r ∧ ∀ w S, RdC w S s (dflt s) us
  | .bool, vs, r, h => by
    simp only [zeroC] at h
    split at h
    · cases h
      exact ⟨[_], rfl, fun w S => by simp [RdC, dflt]⟩
    · cases h
  | .byte, vs, r, h => by
    simp only [zeroC] at h
    split at h
    · split at h
      · rename_i hn
        subst hn
        cases h
        exact ⟨[_], rfl, fun w S => by simp [RdC, dflt]⟩
      · cases h
    · cases h
  | .int k, vs, r, h => by
    simp only [zeroC] at h
    split at h
    · split at h
      · rename_i hn
        obtain ⟨rfl, rfl⟩ := hn
        cases h
        exact ⟨[_], rfl, fun w S => by simp [RdC, dflt]⟩
      · cases h
    · cases h
  | .str, vs, r, h => by
    simp only [zeroC] at h
    split at h
    · split at h
      · rename_i hn
        cases h
        exact ⟨[_], rfl, fun w S => by simp only [RdC]; exact ⟨_, rfl, hn⟩⟩
      · cases h
    · cases h
  | .sl e, vs, r, h => by
    simp only [zeroC] at h
    split at h
    · cases h
      exact ⟨[_], rfl, fun w S => by simp only [RdC]; exact ⟨none, 0, [], by simp [dflt], by simp [dflt], rfl, fun h => absurd rfl h⟩⟩
    · cases h
  | .unit, vs, r, h => by
    simp only [zeroC, Option.some.injEq] at h
    exact ⟨[], by simp [h], fun w S => by simp [RdC]⟩
  | .pair a b, vs, r, h => by
    simp only [zeroC] at h
    split at h
    · rename_i r1 h1
      obtain ⟨us, e1, k1⟩ := zeroC_ok a _ _ h1
      obtain ⟨us2, e2, k2⟩ := zeroC_ok b _ _ h
      exact ⟨us ++ us2, by rw [e1, e2, List.append_assoc], fun w S => by simp only [RdC]; exact ⟨us, us2, rfl, k1 w S, k2 w S⟩⟩
    · cases h
  | .arr n e, vs, r, h => by
    simp only [zeroC] at h
    obtain ⟨us, e1, k1⟩ := zeroN_ok (zeroC_ok e) n vs r h
    exact ⟨us, e1, fun w S => by simp only [RdC, dflt]; exact ⟨List.length_replicate, k1 w S⟩⟩

def zeroV (s : Sh) (z : Value) : Bool :=
  match s.agg, z with
  | true, .agg cs => (match zeroC s cs.toList with | some [] => true | _ => false)
  | true, _ => false
  | false, z => (match zeroC s [z] with | some [] => true | _ => false)

theorem zeroV_ok {s : Sh} {z : Value} (h : zeroV s z = true) (w : World) (S : Stable) : RdV w S s (dflt s) z := by
  unfold zeroV at h
  unfold RdV
  split at h
  · rename_i cs hs
    rw [hs]
    split at h
    · rename_i hz
      obtain ⟨us, e, k⟩ := zeroC_ok _ _ _ hz
      rw [List.append_nil] at e
      subst e
      exact ⟨cs, rfl, k w S⟩
    · cases h
  · cases h
  · rename_i hs
    rw [hs]
    split at h
    · rename_i hz
      obtain ⟨us, e, k⟩ := zeroC_ok _ _ _ hz
      rw [List.append_nil] at e
      subst e
      exact k w S
    · cases h

/-- How many fields. -/
def Sh.nf : Sh → Nat
  | .pair _ b => b.nf + 1
  | _ => 0

theorem fld_lt : ∀ (s : Sh) (i : Nat) (u : Sh), s.fld i = some u → i < s.nf
  | .pair a b, 0, u, _ => by simp [Sh.nf]
  | .pair a b, i + 1, u, h => by
    have := fld_lt b i u (by simpa [Sh.fld] using h)
    simp only [Sh.nf]
    omega
  | .bool, i, u, h => by cases i <;> simp [Sh.fld] at h
  | .byte, i, u, h => by cases i <;> simp [Sh.fld] at h
  | .int _, i, u, h => by cases i <;> simp [Sh.fld] at h
  | .str, i, u, h => by cases i <;> simp [Sh.fld] at h
  | .sl _, i, u, h => by cases i <;> simp [Sh.fld] at h
  | .unit, i, u, h => by cases i <;> simp [Sh.fld] at h
  | .arr _ _, i, u, h => by cases i <;> simp [Sh.fld] at h

/-- The fields of a struct, one by one. -/
def fldsB (T : TypeId → TI) (s : Sh) : Nat → List Field → Bool
  | i, [] => decide (i = s.nf)
  | i, f :: r => decide (f.offset = fldOff s i) && decide ((T f.type).sh = s.fld i) && (s.fld i).isSome && fldsB T s (i + 1) r

theorem fldsB_ok {T : TypeId → TI} {s : Sh} : ∀ (fs : List Field) (i : Nat), fldsB T s i fs = true →
    i + fs.length = s.nf ∧ ∀ (j : Nat) (f : Field), fs[j]? = some f → f.offset = fldOff s (i + j) ∧ (T f.type).sh = s.fld (i + j) ∧ (s.fld (i + j)).isSome = true
  | [], i, h => by
    simp only [fldsB, decide_eq_true_eq] at h
    exact ⟨by simpa using h, fun j f hf => by simp at hf⟩
  | g :: r, i, h => by
    simp only [fldsB, Bool.and_eq_true, decide_eq_true_eq] at h
    obtain ⟨⟨⟨h1, h2⟩, h3⟩, h4⟩ := h
    obtain ⟨k1, k2⟩ := fldsB_ok r (i + 1) h4
    refine ⟨by simp only [List.length_cons]; omega, fun j f hf => ?_⟩
    cases j with
    | zero =>
      simp only [List.getElem?_cons_zero, Option.some.injEq] at hf
      subst hf
      exact ⟨h1, h2, h3⟩
    | succ j =>
      simp only [List.getElem?_cons_succ] at hf
      have := k2 j f hf
      rw [show i + 1 + j = i + (j + 1) by omega] at this
      exact this

def descB (P : Program) (T : TypeId → TI) (t : TypeId) (s : Sh) : Bool :=
  match s, P.underlying t with
  | .bool, some .bool => true
  | .byte, some (.int k) => decide (k = .u8)
  | .int k, some (.int k') => decide (k' = k) && decide (k ≠ .u8)
  | .str, some .string => true
  | .sl e, some (.slice te) => decide ((T te).sh = some e) && decide (0 < e.size) && decide (te = (T t).el)
  | .arr n e, some (.array m te) => decide (m = n) && decide ((T te).sh = some e)
  | .unit, some (.struct fs) => fldsB T .unit 0 fs.toList
  | .pair a b, some (.struct fs) => fldsB T (.pair a b) 0 fs.toList
  | _, _ => false

def tyB (P : Program) (T : TypeId → TI) (t : TypeId) : Bool :=
  match (T t).sh with
  | none => true
  | some s => descB P T t s && (match P.info? t with
    | some i => decide (i.size = s.size) && decide (i.bytes = (T t).bytes) && (match i.zero with | some z => zeroV s z | none => false)
    | none => false)

theorem struct_ok {P : Program} {E : Env} {t : TypeId} {s : Sh} {fs : Array Field} (hu : P.underlying t = some (.struct fs)) (h : fldsB E.ti s 0 fs.toList = true) :
    ∃ fs : Array Field, P.underlying t = some (.struct fs) ∧ (∀ (i : Nat) (f : Field), fs[i]? = some f → f.offset = fldOff s i ∧ (E.ti f.type).sh = s.fld i ∧ (s.fld i).isSome = true) ∧ ∀ i u, s.fld i = some u → ∃ f : Field, fs[i]? = some f := by
  obtain ⟨k1, k2⟩ := fldsB_ok _ _ h
  refine ⟨fs, hu, fun i f hf => ?_, fun i u hi => ?_⟩
  · have := k2 i f (by simpa using hf)
    simpa using this
  · have h1 := fld_lt s i u hi
    have : i < fs.size := by simp at k1; omega
    exact ⟨fs[i], by simp [this]⟩

theorem tyB_ok {P : Program} {E : Env} {t : TypeId} {s : Sh} (hs : (E.ti t).sh = some s) (h : tyB P E.ti t = true) : TyOk1 P E t s := by
  unfold tyB at h
  rw [hs] at h
  simp only [Bool.and_eq_true] at h
  obtain ⟨h1, h2⟩ := h
  have hi : ∃ i z, P.info? t = some i ∧ i.size = s.size ∧ i.bytes = (E.ti t).bytes ∧ i.zero = some z ∧ ∀ w S, RdV w S s (dflt s) z := by
    split at h2
    · rename_i i hi
      simp only [Bool.and_eq_true, decide_eq_true_eq] at h2
      obtain ⟨⟨k1, k2⟩, k3⟩ := h2
      split at k3
      · rename_i z hz
        exact ⟨i, z, hi, k1, k2, hz, fun w S => zeroV_ok k3 w S⟩
      · cases k3
    · cases h2
  clear h2
  cases s with
  | bool =>
    refine ⟨hi, ?_⟩
    unfold descB at h1
    split at h1 <;> simp_all
  | byte =>
    refine ⟨hi, ?_⟩
    unfold descB at h1
    split at h1 <;> simp_all
  | int k =>
    refine ⟨hi, ?_⟩
    unfold descB at h1
    split at h1 <;> simp_all
  | str =>
    refine ⟨hi, ?_⟩
    unfold descB at h1
    split at h1 <;> simp_all
  | sl e =>
    refine ⟨hi, ?_⟩
    unfold descB at h1
    split at h1
    all_goals first | (rename_i e1 hu; cases e1; simp only [Bool.and_eq_true, decide_eq_true_eq] at h1; exact ⟨_, hu, h1.1.1, h1.1.2, h1.2⟩) | simp_all
  | arr n e =>
    refine ⟨hi, ?_⟩
    unfold descB at h1
    split at h1 <;> simp_all
  | unit =>
    refine ⟨hi, ?_⟩
    unfold descB at h1
    split at h1 <;> first | (rename_i e1 hu; cases e1; done) | skip
    all_goals first | exact struct_ok (by assumption) h1 | simp_all
  | pair a b =>
    refine ⟨hi, ?_⟩
    unfold descB at h1
    split at h1
    all_goals first | (rename_i e1 hu; cases e1; exact struct_ok hu h1) | simp_all

/-- A table. -/
def tiOf : List (TypeId × TI) → TypeId → TI
  | [], _ => ⟨none, 0, 0⟩
  | (k, i) :: r, t => if t = k then i else tiOf r t

theorem tiOf_mem : ∀ (l : List (TypeId × TI)) (t : TypeId) (s : Sh), (tiOf l t).sh = some s → ∃ p ∈ l, p.1 = t
  | [], t, s, h => by simp [tiOf] at h
  | (k, i) :: r, t, s, h => by
    simp only [tiOf] at h
    split at h
    · rename_i e
      exact ⟨_, List.mem_cons_self, e.symm⟩
    · obtain ⟨p, hp, e⟩ := tiOf_mem r t s h
      exact ⟨p, List.mem_cons_of_mem _ hp, e⟩

theorem tyOk_of_table {P : Program} {E : Env} {l : List (TypeId × TI)} (hE : E.ti = tiOf l) (h : (l.all fun p => tyB P (tiOf l) p.1) = true) : TyOk P E := by
  intro t s hs
  rw [hE] at hs
  obtain ⟨p, hp, rfl⟩ := tiOf_mem l t s hs
  have := List.all_eq_true.1 h p hp
  exact tyB_ok (by rw [hE]; exact hs) (by rw [hE]; exact this)

end Go.Av
