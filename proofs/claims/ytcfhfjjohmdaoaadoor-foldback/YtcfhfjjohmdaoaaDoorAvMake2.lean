/-
  Structs' literals; all that makes something and takes nothing away.
-/
import Derived.Test.YtcfhfjjohmdaoaaDoorAvMake
namespace Go.Av
open Go.RowKit

theorem setFld_ok {w : World} {S : Stable} : ∀ (s : Sh) (x : Den s) (i : Nat) (u : Sh) (y : Den u) (x' : Den s) (cs vs : List Value), RdC w S s x cs → setFld s x i u y = some x' → RdC w S u y vs →
    s.fld i = some u ∧ RdC w S s x' (cs.take (fldOff s i) ++ vs ++ cs.drop (fldOff s i + u.size)) ∧ fldOff s i + u.size ≤ s.size
  | .pair a b, x, 0, u, y, x', cs, vs, h, hg, hy => by
    simp only [setFld] at hg
    split at hg
    · rename_i hu
      subst hu
      simp only [Option.some.injEq] at hg
      subst hg
      simp only [RdC] at h ⊢
      obtain ⟨v1, v2, rfl, h1, h2⟩ := h
      refine ⟨rfl, ⟨vs, v2, ?_, hy, h2⟩, by simp [fldOff, Sh.size]⟩
      have hl := RdC.length u _ _ h1
      simp only [fldOff, List.take_zero, List.nil_append, Nat.zero_add]
      rw [← hl, List.drop_left]
    · cases hg
  | .pair a b, x, i + 1, u, y, x', cs, vs, h, hg, hy => by
    simp only [setFld, Option.map_eq_some_iff] at hg
    obtain ⟨z, hz, rfl⟩ := hg
    simp only [RdC] at h ⊢
    obtain ⟨v1, v2, rfl, h1, h2⟩ := h
    obtain ⟨k1, k2, k3⟩ := setFld_ok b x.2 i u y z v2 vs h2 hz hy
    have hl := RdC.length a _ _ h1
    refine ⟨by simpa only [Sh.fld] using k1, ⟨v1, _, ?_, h1, k2⟩, by simp only [fldOff, Sh.size]; omega⟩
    simp only [fldOff]
    rw [← hl, List.take_length_add_append, Nat.add_assoc, List.drop_length_add_append]
    simp only [List.append_assoc]
  | .bool, _, _, _, _, _, _, _, _, hg, _ => by simp [setFld] at hg
  | .byte, _, _, _, _, _, _, _, _, hg, _ => by simp [setFld] at hg
  | .int _, _, _, _, _, _, _, _, _, hg, _ => by simp [setFld] at hg
  | .str, _, _, _, _, _, _, _, _, hg, _ => by simp [setFld] at hg
  | .sl _, _, _, _, _, _, _, _, _, hg, _ => by simp [setFld] at hg
  | .unit, _, _, _, _, _, _, _, _, hg, _ => by simp [setFld] at hg
  | .arr _ _, _, _, _, _, _, _, _, _, hg, _ => by simp [setFld] at hg

theorem run_mapM {P : Program} {α β : Type} (f : α → Sem β) (g : α → β) (w : World) : ∀ (l : List α), (∀ x ∈ l, (f x).run P w = .ok (g x) w) → (l.mapM f).run P w = .ok (l.map g) w
  | [], _ => by simp [Sem.run_pure]
  | x :: l, h => by
    rw [List.mapM_cons, Sem.run_bind, h x (by simp), Result.andThen_ok, Sem.run_bind, run_mapM f g w l (fun y hy => h y (by simp [hy])), Result.andThen_ok]
    rfl

section
variable {base : Nat → Prop} {w0 w : World} {S0 S : Stable} {fr : Fr} {a : Act} {P : Program} {E : Env}

theorem fillD_ok (h : R base w0 S0 S fr a w) {s : Sh} {t : TypeId} {places : Nat → Option (Nat × Nat)} (hp : ∀ i u, s.fld i = some u → places i = some (fldOff s i, u.size)) : ∀ (parts : List (Nat × Operand)) (x x' : Den s) (cells : Array Value),
    RdC w S s x cells.toList → buildD E fr true s t parts x = some (true, x') →
    ∃ cells', Instr.fill places cells (parts.map fun p => (p.1, a.eval p.2)) = some cells' ∧ RdC w S s x' cells'.toList
  | [], x, x', cells, hc, he => by
    simp only [buildD, Option.some.injEq, Prod.mk.injEq, true_and] at he
    subst he
    exact ⟨cells, rfl, hc⟩
  | (i, p) :: r, x, x', cells, hc, he => by
    simp only [buildD] at he
    cases h1 : rdo E fr true t p with
    | mk ok v =>
      rw [h1] at he
      cases v with
      | dat u y o =>
        simp only at he
        split at he
        · rename_i x1 hset
          split at he
          · rename_i ok' z h2
            simp only [Option.some.injEq, Prod.mk.injEq, Bool.and_eq_true] at he
            obtain ⟨⟨rfl, rfl⟩, rfl⟩ := he
            have hy := rd_cells (rdo_ok h h1).1
            have hyl := RdC.length _ _ _ hy
            have hlen := RdC.length _ _ _ hc
            obtain ⟨k1, k2, k3⟩ := setFld_ok s x i u y x1 _ _ hc hset hy
            have hcs : cells.size = s.size := by simpa using hlen
            have hvs : (a.eval p).cells.size = u.size := by simpa using hyl
            have hst := foldl_set (a.eval p).cells.toList 0 (fldOff s i) cells (by simp; omega)
            simp only [Nat.add_zero, hyl] at hst
            obtain ⟨cells', j1, j2⟩ := fillD_ok h hp r x1 _ (((a.eval p).cells.zipIdx.foldl (fun cs (q : Value × Nat) => cs.setIfInBounds (fldOff s i + q.2) q.1) cells)) (by
              rw [← Array.foldl_toList, Array.toList_zipIdx, hst]
              exact k2) h2
            refine ⟨cells', ?_, j2⟩
            simp only [List.map_cons, Instr.fill, hp i u k1]
            rw [if_neg (by simp only [hvs]; simp; omega)]
            exact j1
          · cases he
        · cases he
      | _ => simp at he

theorem run_build (h : R base w0 S0 S fr a w) (hT : TyOk P E) {t : TypeId} {parts : Array (Nat × Operand)} {s : Sh} {x : Den s} (hs : (E.ti t).sh = some s) (hag : s.agg = true)
    (hb : buildD E fr true s t parts.toList (dflt s) = some (true, x)) (hna : ∀ n e, s ≠ .arr n e) :
    ∃ cells, (Instr.build t (parts.map fun (i, x) => (i, a.eval x))).run P w = .ok (.agg cells) w ∧ RdC w S s x cells.toList := by
  obtain ⟨i, z, hi, hsz, _, hz, hrd⟩ := (hT t _ hs).info
  have hd := (hT t s hs).desc
  have hst : ∃ fs, P.underlying t = some (.struct fs) ∧ (∀ (i : Nat) (g : Field), fs[i]? = some g → g.offset = fldOff s i ∧ (E.ti g.type).sh = s.fld i ∧ (s.fld i).isSome = true) ∧ ∀ i u, s.fld i = some u → ∃ g : Field, fs[i]? = some g := by
    cases s with
    | arr n e => exact absurd rfl (hna n e)
    | unit => exact hd
    | pair _ _ => exact hd
    | _ => exact absurd hag (by simp [Sh.agg])
  obtain ⟨fs, hfs, hf1, hf2⟩ := hst
  have hall : ∀ f ∈ fs.toList, ∃ u, (E.ti f.type).sh = some u := fun f hf => by
    obtain ⟨i, hi, rfl⟩ := List.getElem_of_mem hf
    have hi' : fs[i]? = some fs.toList[i] := by
      simp only [Array.length_toList] at hi
      simp [hi]
    obtain ⟨_, h2, h3⟩ := hf1 i _ hi'
    rw [h2]
    exact Option.isSome_iff_exists.1 h3
  let g : Field → Nat × Nat := fun f => (f.offset, match (E.ti f.type).sh with | some u => u.size | none => 0)
  have hm : (fs.mapM (fun f => do pure (f.offset, ← Go.sizeOf f.type)) : Sem (Array (Nat × Nat))).run P w = .ok (fs.map g) w := by
    rw [Array.mapM_eq_mapM_toList]
    simp only [Sem.run_map]
    rw [run_mapM _ g w fs.toList (fun f hf => by
      obtain ⟨u, hu⟩ := hall f hf
      rw [Sem.run_bind, (hT _ _ hu).sizeOf, Result.andThen_ok]
      simp only [g, hu]
      rfl)]
    rw [Result.andThen_ok]
    congr 1
    apply Array.ext'
    simp
  have hp : ∀ i u, s.fld i = some u → (fs.map g)[i]? = some (fldOff s i, u.size) := fun i u hu => by
    obtain ⟨f, hf⟩ := hf2 i u hu
    obtain ⟨h1, h2, _⟩ := hf1 i f hf
    rw [Array.getElem?_map, hf]
    simp only [Option.map_some, g, h1, h2, hu]
  obtain ⟨cells, k1, k2⟩ := fillD_ok h (places := fun i => (fs.map g)[i]?) hp parts.toList (dflt s) x z.cells (hrd w S).cells hb
  refine ⟨cells, ?_, k2⟩
  have e2 : (Array.map (fun x : Nat × Operand => (x.fst, a.eval x.snd)) parts).toList = parts.toList.map fun p => (p.1, a.eval p.2) := by rw [Array.toList_map]
  unfold Instr.build
  simp only [Sem.run_bind, zeroValue, typeInfo, program, Sem.run, hi, hz, Sem.run_pure, Result.andThen_ok, run_underlying hfs]
  rw [hm, Result.andThen_ok, e2, k1]
  rfl
end
end Go.Av
