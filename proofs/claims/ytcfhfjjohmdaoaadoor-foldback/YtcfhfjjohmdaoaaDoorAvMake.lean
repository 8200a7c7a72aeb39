/-
  Cells that are made: zeros, and literals filled in.
-/
import Derived.Test.YtcfhfjjohmdaoaaDoorAvEff
import Derived.Laws.MakeOwn
namespace Go.Av
open Go.RowKit

theorem madeCells_succ (z : Array Value) (n : Nat) : (madeCells z ((n + 1) * z.size)).toList = (madeCells z (n * z.size)).toList ++ z.toList := by
  apply List.ext_getElem?
  intro i
  have hget : ∀ m j, (madeCells z m).toList[j]? = if j < m then some z[j % z.size]! else none := fun m j => by
    simp only [madeCells, Array.toList_map, Array.toList_range, List.getElem?_map]
    by_cases h : j < m
    · rw [if_pos h, List.getElem?_range h]; rfl
    · rw [if_neg h, List.getElem?_eq_none (by simp; omega)]; rfl
  rw [hget, List.getElem?_append]
  have hlen : (madeCells z (n * z.size)).toList.length = n * z.size := by simp [size_madeCells]
  rw [hlen, hget]
  by_cases h1 : i < n * z.size
  · rw [if_pos (by rw [Nat.add_mul]; omega), if_pos h1, if_pos h1]
  · rw [if_neg h1]
    by_cases h2 : i < (n + 1) * z.size
    · rw [if_pos h2]
      rw [Nat.add_mul, Nat.one_mul] at h2
      have hlt : i - n * z.size < z.size := by omega
      have hmod : i % z.size = i - n * z.size := by
        have : i = (i - n * z.size) + z.size * n := by rw [Nat.mul_comm z.size n]; omega
        rw [this, Nat.add_mul_mod_self_left, Nat.mod_eq_of_lt (by omega)]
        omega
      rw [hmod]
      simp [hlt]
    · rw [if_neg h2]
      rw [Nat.add_mul, Nat.one_mul] at h2
      rw [List.getElem?_eq_none (by simp; omega)]

theorem chunks_made {α : Type} {R : α → List Value → Prop} {z : Array Value} {x : α} (h : R x z.toList) : ∀ n, Chunks R (List.replicate n x) (madeCells z (n * z.size)).toList
  | 0 => by
    show _ = _
    rw [Nat.zero_mul]
    simp [madeCells]
  | n + 1 => by
    rw [madeCells_succ, List.replicate_succ']
    exact (chunks_made h n).append (Chunks.single h)

theorem foldl_set : ∀ (vs : List Value) (k off : Nat) (cells : Array Value), off + k + vs.length ≤ cells.size →
    ((vs.zipIdx k).foldl (fun cs (p : Value × Nat) => cs.setIfInBounds (off + p.2) p.1) cells).toList = cells.toList.take (off + k) ++ vs ++ cells.toList.drop (off + k + vs.length)
  | [], k, off, cells, _ => by simp
  | v :: vs, k, off, cells, h => by
    simp only [List.length_cons] at h
    simp only [List.zipIdx_cons, List.foldl_cons]
    rw [foldl_set vs (k + 1) off _ (by simp; omega)]
    have hlt : off + k < cells.toList.length := by simp; omega
    have e1 : (cells.setIfInBounds (off + k) v).toList = cells.toList.set (off + k) v := by simp
    rw [e1, List.set_eq_take_append_cons_drop, if_pos hlt]
    have hl : (List.take (off + k) cells.toList).length = off + k := by simp; omega
    rw [show off + (k + 1) = (off + k) + 1 by omega]
    rw [List.take_append, List.drop_append, hl]
    rw [List.take_of_length_le (l := List.take (off + k) cells.toList) (by omega)]
    rw [show off + k + 1 - (off + k) = 1 by omega]
    rw [List.drop_eq_nil_of_le (as := List.take (off + k) cells.toList) (by omega)]
    rw [show off + k + 1 + vs.length - (off + k) = vs.length + 1 by omega]
    simp only [List.take_succ_cons, List.take_zero, List.drop_succ_cons, List.drop_drop, List.nil_append, List.append_assoc, List.cons_append, List.length_cons]
    rw [show off + k + 1 + vs.length = off + k + (vs.length + 1) by omega]

theorem Chunks.set {α : Type} {R : α → List Value → Prop} {k : Nat} (hR : ∀ x vs, R x vs → vs.length = k) {l : List α} {cs : List Value} (h : Chunks R l cs) {i : Nat} (hi : i < l.length) {y : α} {vs : List Value} (hy : R y vs) :
    Chunks R (l.set i y) (cs.take (i * k) ++ vs ++ cs.drop (i * k + k)) := by
  rw [List.set_eq_take_append_cons_drop, if_pos hi]
  have h1 := Chunks.take hR i h (Nat.le_of_lt hi)
  have h2 := Chunks.drop hR (i + 1) h (by omega)
  rw [Nat.add_mul, Nat.one_mul] at h2
  rw [List.append_assoc]
  exact h1.append ⟨vs, _, rfl, hy, h2⟩

section
variable {base : Nat → Prop} {w0 w : World} {S0 S : Stable} {fr : Fr} {a : Act} {P : Program} {E : Env}

theorem rd_cells {s : Sh} {x : Den s} {o : Lab} {v : Value} (h : Rd w S v (.dat s x o)) : RdC w S s x v.cells.toList := by
  cases h with
  | dat _ _ _ _ h => exact h.cells

theorem fillL_ok (h : R base w0 S0 S fr a w) {e : Sh} {te : TypeId} : ∀ (parts : List (Nat × Operand)) (l l' : List (Den e)) (cells : Array Value), Chunks (RdC w S e) l cells.toList →
    buildL E fr true e te parts l = some (true, l') →
    ∃ cells', Instr.fill (fun i => some (i * e.size, e.size)) cells (parts.map fun p => (p.1, a.eval p.2)) = some cells' ∧ Chunks (RdC w S e) l' cells'.toList ∧ l'.length = l.length
  | [], l, l', cells, hc, he => by
    simp only [buildL, Option.some.injEq, Prod.mk.injEq, true_and] at he
    subst he
    exact ⟨cells, rfl, hc, rfl⟩
  | (i, p) :: r, l, l', cells, hc, he => by
    simp only [buildL] at he
    cases h1 : rdo E fr true te p with
    | mk ok v =>
      rw [h1] at he
      cases v with
      | dat u y o =>
        simp only at he
        split at he
        · rename_i hu
          obtain ⟨rfl, hi⟩ := hu
          split at he
          · rename_i ok' z h2
            simp only [Option.some.injEq, Prod.mk.injEq, Bool.and_eq_true] at he
            obtain ⟨⟨rfl, rfl⟩, rfl⟩ := he
            have hy := rd_cells (rdo_ok h h1).1
            have hyl := RdC.length _ _ _ hy
            have hlen := Chunks.length (RdC.length u) hc
            have hfit : i * u.size + u.size ≤ l.length * u.size := by
              have := Nat.mul_le_mul_right u.size (show i + 1 ≤ l.length by omega)
              rw [Nat.add_mul, Nat.one_mul] at this
              exact this
            have hcs : cells.size = l.length * u.size := by simpa using hlen
            have hvs : (a.eval p).cells.size = u.size := by simpa using hyl
            have hset := foldl_set (a.eval p).cells.toList 0 (i * u.size) cells (by simp; omega)
            simp only [Nat.add_zero, hyl] at hset
            have hch := Chunks.set (RdC.length u) hc hi hy
            obtain ⟨cells', k1, k2, k3⟩ := fillL_ok h r (l.set i y) _ (((a.eval p).cells.zipIdx.foldl (fun cs (q : Value × Nat) => cs.setIfInBounds (i * u.size + q.2) q.1) cells)) (by
              rw [← Array.foldl_toList, Array.toList_zipIdx, hset]
              exact hch) h2
            refine ⟨cells', ?_, k2, by rw [k3, List.length_set]⟩
            simp only [List.map_cons, Instr.fill]
            rw [if_neg (by simp only [hvs]; simp; omega)]
            exact k1
          · cases he
        · cases he
      | _ => simp at he

/-- 'Below' of a world that has one block more. -/
theorem below_alloc (w : World) (o : Obj) : Below w.heap.size w (w.alloc o) := (Below.refl _ _).alloc (Nat.le_refl _) o

/-- A new row of cells, stable as far as n. -/
theorem grew_alloc (hS : ∀ b o, S b o → b < w.heap.size) (o : Obj) (n : Nat) : Grew w S (w.alloc o) (fun b k => S b k ∨ (b = w.heap.size ∧ k < n)) where
  below := below_alloc w o
  old := fun b k hb => ⟨fun h => h.elim id (fun h => absurd h.1 (by omega)), .inl⟩
  lt := fun b k h => by
    have : (w.alloc o).heap.size = w.heap.size + 1 := by simp
    rcases h with h | h
    · have := hS b k h; omega
    · omega

/-- A slice over a new row: it reads so, and is its own. -/
theorem res_alloc (hS : ∀ b o, S b o → b < w.heap.size) {e : Sh} {l : List (Den e)} {cells : Array Value} {te : TypeId} {n cap : Nat} (hn : n = l.length) (hcap : n ≤ cap) (hmax : cap ≤ maxLen) (hsz : cells.size = cap * e.size)
    (hc : Chunks (RdC w S e) l (cells.toList.take (n * e.size))) (k : Nat) :
    ResRd (· < w.heap.size) (w.alloc (.cells cells te)) (fun b o => S b o ∨ (b = w.heap.size ∧ o < n * e.size)) (.slice (some ⟨w.heap.size, 0, none⟩) n cap) (.dat (.sl e) l (some (k, te))) := by
  subst hn
  have g := grew_alloc hS (.cells cells te) (l.length * e.size)
  have hk := g.keeps hS
  have hc' : Chunks (RdC (w.alloc (.cells cells te)) (fun b o => S b o ∨ (b = w.heap.size ∧ o < l.length * e.size)) e) l (cells.toList.take (l.length * e.size)) := hc.mono (RdC.keeps hk e)
  have hheap : (w.alloc (.cells cells te)).heap[w.heap.size]? = some (.cells cells te (0, 0)) := heap_alloc_new w _
  refine ⟨rd_of_sl _ rfl hcap hc' (fun _ => ⟨_, rfl, rfl, fun i v hv => ⟨.inr ⟨rfl, ?_⟩, ?_⟩⟩), fun _ _ e => (by cases e), fun _ _ e => (by cases e), fun l' te' he => ?_⟩
  · have := (List.getElem?_eq_some_iff.1 hv).1
    simp only [List.length_take] at this
    simp only [Nat.zero_add]
    omega
  · have hv' : cells.toList[i]? = some v := by
      rw [List.getElem?_take] at hv
      split at hv
      · exact hv
      · cases hv
    simp only [World.cell?, hheap, Option.isSome_none, Bool.false_eq_true, if_false, Nat.zero_add]
    simpa using hv'
  · simp only [AV.lab, Option.some.injEq, Prod.mk.injEq] at he
    obtain ⟨rfl, rfl⟩ := he
    refine ⟨e, l, rfl, cells.toList.take (l.length * e.size), ⟨?_, .inr ⟨w.heap.size, cap, cells, rfl, Nat.zero_le _, hheap, hcap, hmax, hsz, rfl⟩⟩, hc', fun b hb o => ?_, fun b hb hp => by
      simp only [Value.ownBlock, Option.some.injEq] at hb
      subst hb
      exact absurd hp (Nat.lt_irrefl _)⟩
    · have : l.length * e.size ≤ cap * e.size := Nat.mul_le_mul_right _ hcap
      rw [List.length_take]
      have h2 : cells.toList.length = cap * e.size := by simpa using hsz
      rw [h2]
      exact Nat.min_eq_left this
    · simp only [Value.ownBlock, Option.some.injEq] at hb
      subst hb
      constructor
      · intro h
        rcases h with h | h
        · have := hS _ _ h; omega
        · exact h.2
      · intro h
        exact .inr ⟨rfl, h⟩

theorem run_buildSlice (h : R base w0 S0 S fr a w) (hT : TyOk P E) {t : TypeId} {n : Nat} {parts : Array (Nat × Operand)} {e : Sh} {l : List (Den e)} (hs : (E.ti t).sh = some (.sl e))
    (hb : buildL E fr true e (E.ti t).el parts.toList (List.replicate n (dflt e)) = some (true, l)) (hle : n * e.size ≤ 65536) :
    ∃ cells, (Instr.buildSlice t n (parts.map fun (i, x) => (i, a.eval x))).run P w = .ok (.slice (some ⟨w.heap.size, 0, none⟩) n n) (w.alloc (.cells cells (E.ti t).el)) ∧
      cells.size = n * e.size ∧ Chunks (RdC w S e) l cells.toList ∧ l.length = n := by
  obtain ⟨te, hd, hte, hpos, rfl⟩ := (hT t _ hs).desc
  obtain ⟨i, z, hi, hsz, _, hz, hrd⟩ := (hT _ _ hte).info
  have hzs : z.cells.size = e.size := by have := RdC.length _ _ _ (hrd w S).cells; simpa using this
  have hch : Chunks (RdC w S e) (List.replicate n (dflt e)) (madeCells z.cells (n * e.size)).toList := by
    rw [← hzs]; exact chunks_made (hrd w S).cells n
  obtain ⟨cells, k1, k2, k3⟩ := fillL_ok h parts.toList _ _ _ hch hb
  have hlen := Chunks.length (RdC.length e) k2
  have hl : l.length = n := by rw [k3, List.length_replicate]
  refine ⟨cells, ?_, by rw [hl] at hlen; simpa using hlen, k2, hl⟩
  have e2 : (parts.map fun (i, x) => (i, a.eval x)).toList = parts.toList.map fun p => (p.1, a.eval p.2) := by
    rw [Array.toList_map]
  unfold Instr.buildSlice
  rw [Sem.run_bind, run_underlying hd, Result.andThen_ok]
  simp only
  rw [Sem.run_bind, (hT _ _ hte).sizeOf, Result.andThen_ok]
  rw [if_neg (by omega)]
  have e2' : (Array.map (fun x : Nat × Operand => (x.fst, a.eval x.snd)) parts).toList = parts.toList.map fun p => (p.1, a.eval p.2) := e2
  by_cases h0 : n * e.size = 0
  · have hm : Array.map (fun x => (#[] : Array Value)[x % (#[] : Array Value).size]!) (Array.range (n * e.size)) = madeCells z.cells (n * e.size) := by rw [h0]; simp [madeCells]
    rw [if_pos h0]
    simp only [Sem.run_bind, Sem.run_pure, Result.andThen_ok]
    rw [hm, e2', k1]
    simp [newRow]
  · rw [if_neg h0]
    simp only [Sem.run_bind, Sem.run_pure, Result.andThen_ok, zeroValue, typeInfo, program, Sem.run, hi, hz]
    rw [show Array.map (fun x => z.cells[x % z.cells.size]!) (Array.range (n * e.size)) = madeCells z.cells (n * e.size) from rfl, e2', k1]
    simp [newRow]
end
end Go.Av
