/-
  The operations that make nothing and change nothing: the machine yields what the reading says, in every world that holds the same cells.
-/
import Derived.Test.YtcfhfjjohmdaoaaDoorAvNum
namespace Go.Av
open Go.RowKit

/-- What the reading knows of a type is so. -/
structure TyOk1 (P : Program) (E : Env) (t : TypeId) (s : Sh) : Prop where
  info : ∃ i z, P.info? t = some i ∧ i.size = s.size ∧ i.bytes = (E.ti t).bytes ∧ i.zero = some z ∧ ∀ w S, RdV w S s (dflt s) z
  desc : match s with
    | .bool => P.underlying t = some .bool
    | .byte => P.underlying t = some (.int .u8)
    | .int k => P.underlying t = some (.int k) ∧ k ≠ .u8
    | .str => P.underlying t = some .string
    | .sl e => ∃ te, P.underlying t = some (.slice te) ∧ (E.ti te).sh = some e ∧ 0 < e.size ∧ te = (E.ti t).el
    | .arr n e => ∃ te, P.underlying t = some (.array n te) ∧ (E.ti te).sh = some e
    | s => ∃ fs, P.underlying t = some (.struct fs) ∧ (∀ (i : Nat) (f : Field), fs[i]? = some f → f.offset = fldOff s i ∧ (E.ti f.type).sh = s.fld i ∧ (s.fld i).isSome = true) ∧ ∀ i u, s.fld i = some u → ∃ f : Field, fs[i]? = some f

def TyOk (P : Program) (E : Env) : Prop := ∀ t s, (E.ti t).sh = some s → TyOk1 P E t s

/-- A copy of what a slot holds. -/
structure Cpy (fr : Fr) (a : Act) (v : AV) (val : Value) : Prop where
  sl : ∀ s (x : Den s) l, v = .dat s x (some l) → ∃ e, s = .sl e
  cp : ∀ l e, v.lab = some (l, e) → fr l = v ∧ a.tmps.getD l undef = val
  bd : ∀ s p, v = .badr s p → ∃ u y z b, fr s = .box u y ∧ a.tmps.getD s undef = .pointer (some ⟨b, 0, none⟩) ∧ getPath u y p = some z ∧ ∃ o, pathOff u p = some o ∧ val = .pointer (some ⟨b, o, none⟩)
  nb : ∀ s (x : Den s), v ≠ .box s x

theorem Cpy.of_plain {fr : Fr} {a : Act} {v : AV} {val : Value} (h : v.plain = true) : Cpy fr a v val where
  sl := fun s x l e => by subst e; simp [AV.plain] at h
  cp := fun l e he => by
    cases v with
    | dat s x o => cases o <;> simp_all [AV.lab, AV.plain]
    | _ => simp [AV.lab] at he
  bd := fun s p e => by subst e; simp [AV.plain] at h
  nb := fun s x e => by subst e; simp [AV.plain] at h

theorem rd_cnd {w : World} {S : Stable} {v : Value} {g : Bool} {av : AV} (h : Rd w S v (.cnd g av)) (hg : g = true) : Rd w S v av := by
  cases h with
  | cnd _ _ _ _ h => exact h hg

theorem strip_plain (v : AV) : v.strip.plain = true := by cases v <;> rfl

section
variable {base : Nat → Prop} {w0 w : World} {S0 S : Stable} {fr : Fr} {a : Act} {P : Program} {E : Env}

theorem R.cpy (h : R base w0 S0 S fr a w) (t : Nat) (hb : ∀ s (x : Den s), fr t ≠ .box s x) : Cpy fr a (fr t) (a.tmps.getD t undef) where
  sl := fun s x l e => h.sls t s x l e
  cp := fun l e he => h.cp t l e he
  bd := fun s p e => h.badr t s p e
  nb := hb

theorem byte_const (n : Int) (hn : 0 ≤ n ∧ n < 256) : (.int .u8 n : Value) = .int .u8 ((UInt8.ofNat n.toNat).toNat : Nat) := by
  congr 1
  rw [UInt8.toNat_ofNat', Nat.mod_eq_of_lt (by omega)]
  omega

theorem constC_ok : ∀ (s : Sh) (vs : List Value) (x : Den s) (r : List Value), constC s vs = some (x, r) → ∃ us, vs = us ++ r ∧ ∀ w S, RdC w S s x us
  | .bool, vs, x, r, h => by
    simp only [constC] at h
    split at h
    · simp only [Option.some.injEq, Prod.mk.injEq] at h
      obtain ⟨rfl, rfl⟩ := h
      exact ⟨[_], rfl, fun w S => by simp [RdC]⟩
    · cases h
  | .byte, vs, x, r, h => by
    simp only [constC] at h
    split at h
    · split at h
      · rename_i hn
        simp only [Option.some.injEq, Prod.mk.injEq] at h
        obtain ⟨rfl, rfl⟩ := h
        exact ⟨[_], rfl, fun w S => by simp only [RdC]; rw [byte_const _ hn]⟩
      · cases h
    · cases h
  | .int k, vs, x, r, h => by
    simp only [constC] at h
    split at h
    · split at h
      · rename_i hk
        subst hk
        simp only [Option.some.injEq, Prod.mk.injEq] at h
        obtain ⟨rfl, rfl⟩ := h
        exact ⟨[_], rfl, fun w S => by simp [RdC]⟩
      · cases h
    · cases h
  | .str, vs, x, r, h => by
    simp only [constC] at h
    split at h
    · simp only [Option.some.injEq, Prod.mk.injEq] at h
      obtain ⟨rfl, rfl⟩ := h
      exact ⟨[_], rfl, fun w S => by simp [RdC]⟩
    · cases h
  | .sl e, vs, x, r, h => by
    simp only [constC] at h
    split at h
    · simp only [Option.some.injEq, Prod.mk.injEq] at h
      obtain ⟨rfl, rfl⟩ := h
      exact ⟨[_], rfl, fun w S => by simp only [RdC]; exact ⟨none, 0, [], by simp, by simp, rfl, fun h => absurd rfl h⟩⟩
    · cases h
  | .unit, vs, x, r, h => by
    simp only [constC, Option.some.injEq, Prod.mk.injEq] at h
    obtain ⟨_, rfl⟩ := h
    exact ⟨[], rfl, fun w S => by simp [RdC]⟩
  | .pair a b, vs, x, r, h => by
    simp only [constC] at h
    split at h
    · rename_i x1 r1 h1
      split at h
      · rename_i y r2 h2
        simp only [Option.some.injEq, Prod.mk.injEq] at h
        obtain ⟨rfl, rfl⟩ := h
        obtain ⟨us, e1, k1⟩ := constC_ok a _ _ _ h1
        obtain ⟨us2, e2, k2⟩ := constC_ok b _ _ _ h2
        exact ⟨us ++ us2, by rw [e1, e2, List.append_assoc], fun w S => by simp only [RdC]; exact ⟨us, us2, rfl, k1 w S, k2 w S⟩⟩
      · cases h
    · cases h
  | .arr _ _, vs, x, r, h => by simp [constC] at h

theorem ofConst_ok (v : Value) (t : TypeId) : Rd w S v (ofConst E t v) ∧ (ofConst E t v).plain = true := by
  unfold ofConst
  split
  · exact ⟨rd_bool _ _ _, rfl⟩
  · rename_i n
    split
    · rename_i hn
      refine ⟨?_, rfl⟩
      rw [byte_const n hn]
      exact rd_byte _ _ _
    · exact ⟨.bad _, rfl⟩
  · exact ⟨rd_int _ _ _ _, rfl⟩
  · exact ⟨rd_str _ _ _, rfl⟩
  · split
    · rename_i e he
      refine ⟨.dat _ _ _ _ ?_, rfl⟩
      simp only [RdV, Sh.agg, RdC]
      exact ⟨none, 0, [], by simp, by simp, rfl, fun h => absurd rfl h⟩
    · exact ⟨.bad _, rfl⟩
  · split
    · split
      · split
        · rename_i hs x hx
          obtain ⟨us, e, hr⟩ := constC_ok _ _ _ _ hx
          refine ⟨.dat _ _ _ _ ?_, rfl⟩
          unfold RdV
          rw [if_pos (by assumption)]
          refine ⟨_, rfl, ?_⟩
          rw [e, List.append_nil]
          exact hr _ _
        · exact ⟨.bad _, rfl⟩
      · exact ⟨.bad _, rfl⟩
    · exact ⟨.bad _, rfl⟩
  · exact ⟨.nilIface, rfl⟩
  · exact ⟨.bad _, rfl⟩

theorem rdo_ok (h : R base w0 S0 S fr a w) {t : TypeId} {x : Operand} {v : AV} (he : rdo E fr true t x = (true, v)) :
    Rd w S (a.eval x) v ∧ Cpy fr a v (a.eval x) := by
  cases x with
  | tmp x =>
    simp only [rdo] at he
    have hr := h.rd x
    split at he
    · rename_i g v' hf
      simp only [Bool.not_true, Bool.false_or, Prod.mk.injEq] at he
      obtain ⟨rfl, rfl⟩ := he
      rw [hf] at hr
      exact ⟨(rd_cnd hr rfl).strip, Cpy.of_plain (strip_plain _)⟩
    · rename_i s y hf
      simp only [Prod.mk.injEq, true_and] at he
      subst he
      obtain ⟨b, hb, e⟩ := h.box x s y hf
      refine ⟨.badr _ _ _, ⟨fun _ _ _ e => (by cases e), fun _ _ e => (by simp [AV.lab] at e), fun s' p e' => ?_, fun _ _ e => (by cases e)⟩⟩
      cases e'
      exact ⟨s, y, _, b, hf, e, rfl, 0, rfl, e⟩
    · rename_i hnc hnb
      simp only [Prod.mk.injEq, true_and] at he
      subst he
      exact ⟨hr, h.cpy x (fun s y e => hnb s y e)⟩
  | const v' =>
    simp only [rdo, Prod.mk.injEq, true_and] at he
    subst he
    exact ⟨(ofConst_ok v' t).1, Cpy.of_plain (ofConst_ok (w := w) (S := S) v' t).2⟩
  | func f =>
    simp only [rdo, Prod.mk.injEq, true_and] at he
    subst he
    exact ⟨.fn f #[] [] rfl (fun i c hc => by simp at hc), Cpy.of_plain rfl⟩
  | global g =>
    simp only [rdo, Prod.mk.injEq, true_and] at he
    subst he
    exact ⟨.bad _, Cpy.of_plain rfl⟩
end
end Go.Av
