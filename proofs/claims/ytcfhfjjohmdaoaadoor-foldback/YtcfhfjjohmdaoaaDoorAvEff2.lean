/-
  All that makes something and takes nothing away.
-/
import Derived.Test.YtcfhfjjohmdaoaaDoorAvMake2
namespace Go.Av
open Go.RowKit

section
variable {base : Nat → Prop} {w0 w : World} {S0 S : Stable} {fr : Fr} {a : Act} {P : Program} {E : Env}

/-- Something has been made: it is handed back as a call's result is. -/
def Made (w : World) (S : Stable) (a : Act) (d : Option Nat) (v : AV) (a' : Act) (w' : World) : Prop :=
  ∃ S' val, Grew w S w' S' ∧ ResRd (· < w.heap.size) w' S' val v ∧ a' = a.put d val

theorem grew_refl (hS : ∀ b o, S b o → b < w.heap.size) : Grew w S w S := ⟨Below.refl _ _, fun _ _ _ => Iff.rfl, hS⟩

theorem call_made (h : R base w0 S0 S fr a w) {o : Oper} {f : FuncId} {vals : List Value} {avs : List AV} {r : AV} {spec : List AV → Bool × AV} (hS : SoundAt P f spec w S)
    (hrun : (execOp a.eval o).run P w = (callFunc f vals.toArray).run P w) (hspec : spec avs = (true, r)) (hargs : ArgsRd w S vals avs) : OpDoes P o a w (Made w S a o.dst r) := by
  rcases hS vals avs r hspec h.slt hargs with ⟨h1, h2⟩ | ⟨v, w', h1, S', g, hr⟩
  · exact OpDoes.enter (hrun.trans h1) (h2.mono fun e w' ⟨v, he, S', g, hr⟩ => ⟨v, he, S', v, g, hr, rfl⟩)
  · exact OpDoes.value (hrun.trans h1) ⟨S', v, g, hr, rfl⟩

theorem argsRd_append {vals us : List Value} {avs bvs : List AV} (h : ArgsRd w S vals avs) (k : ArgsRd w S us bvs) : ArgsRd w S (vals ++ us) (avs ++ bvs) := by
  refine ⟨by simp [h.1, k.1], fun i v av hv hav => ?_⟩
  rw [List.getElem?_append] at hv hav
  split at hv
  · rw [if_pos (by have := h.1; omega)] at hav
    exact h.2 i v av hv hav
  · rw [if_neg (by have := h.1; omega)] at hav
    rw [h.1] at hv
    exact k.2 _ v av hv hav

theorem make_made (h : R base w0 S0 S fr a w) (hT : TyOk P E) {t ty : TypeId} {n m : Operand} {e : Sh} {k1 k2 : IntKind} {l c : Int} {o1 o2 : Lab} {dst : Option Nat} {pos : String} {after : Array Edge} {guard : Option (Nat × Bool)}
    (hs : (E.ti t).sh = some (.sl e)) (h1 : rdo E fr true 0 n = (true, .dat (.int k1) l o1)) (h2 : rdo E fr true 0 m = (true, .dat (.int k2) c o2)) (hbytes : (E.ti (E.ti t).el).bytes ≤ 1024)
    (h0 : 0 ≤ l) (hlc : l ≤ c) (hroom : c ≤ ((room : Nat) : Int)) :
    OpDoes P ⟨dst, .makeSlice t n m, ty, pos, after, guard⟩ a w (Made w S a dst (.dat (.sl e) (List.replicate l.toNat (dflt e)) (some (0, (E.ti t).el)))) := by
  have hroom' : c ≤ 1073741824 := hroom
  clear hroom
  obtain ⟨te, hd, hte, hpos, rfl⟩ := (hT t _ hs).desc
  obtain ⟨i, z, hi, hsz, hby, hz, hrd⟩ := (hT _ _ hte).info
  have hzs : z.cells.size = e.size := by have := RdC.length _ _ _ (hrd w S).cells; simpa using this
  have en := dat_int (rdo_ok h h1).1
  have em := dat_int (rdo_ok h h2).1
  have hb : (i.bytes : Int) * c ≤ 281474976710656 := by
    rw [hby]
    have h3 : ((E.ti (E.ti t).el).bytes : Int) ≤ 1024 := by omega
    have h4 := Int.mul_le_mul h3 hroom' (by omega) (by omega)
    omega
  have hr := run_make (P := P) w t _ i z hd hi hz k1 k2 l c h0 hlc hb (by omega)
  rw [hsz, ← hzs] at hr
  have hch : Chunks (RdC w S e) (List.replicate l.toNat (dflt e)) ((madeCells z.cells (c.toNat * z.cells.size)).toList.take (l.toNat * e.size)) := by
    have h5 := Chunks.take (RdC.length e) l.toNat (chunks_made (hrd w S).cells c.toNat) (by simp; omega)
    rw [List.take_replicate, Nat.min_eq_left (by omega)] at h5
    exact h5
  refine OpDoes.value (run_v (w := w) (val := .slice (some ⟨w.heap.size, 0, none⟩) l.toNat c.toNat) ?_) ⟨_, _, grew_alloc h.slt _ (l.toNat * e.size), res_alloc h.slt (by simp) (by omega) (by unfold maxLen; omega) (by rw [size_madeCells, hzs]) hch 0, rfl⟩
  rw [en, em]
  exact hr

theorem eff_ok (h : R base w0 S0 S fr a w) (hT : TyOk P E) (hF : FnsOk P E w S) {o : Oper} {v : AV} (he : eff E fr true o = some (true, v)) : OpDoes P o a w (Made w S a o.dst v) := by
  obtain ⟨dst, op, ty, pos, after, guard⟩ := o
  unfold eff at he
  split at he
  · -- call
    rename_i c hop
    simp only at hop
    subst hop
    obtain ⟨callee, args, argTypes⟩ := c
    split at he
    · rename_i f hc
      simp only at hc
      subst hc
      split at he
      · cases he
      cases h1 : argsV E fr true args.toList argTypes.toList with
      | mk ok vs =>
        cases h2 : E.fns f vs with
        | mk pre r =>
          rw [h1] at he
          simp only [h2, Option.some.injEq, Prod.mk.injEq, Bool.and_eq_true, decide_eq_true_eq] at he
          obtain ⟨⟨⟨rfl, rfl⟩, hsz⟩, rfl⟩ := he
          have ha := argsV_ok h _ _ _ (by simpa using hsz) h1
          refine call_made h (hF.1 f) ?_ h2 ha
          have e1 : args.map a.eval = (args.toList.map a.eval).toArray := by apply Array.ext'; simp
          simp only [execOp, resolve, Sem.run_bind, Deferred.ofValue, Act.eval, Sem.run_pure, Result.andThen_ok, invoke, Array.append_empty, Array.empty_append, e1]
    · rename_i x hc
      simp only at hc
      subst hc
      split at he
      · rename_i okf f caps ok vs h0 h1
        cases h2 : E.fns f (vs ++ caps.map AV.strip) with
        | mk pre r =>
          simp only [h2, Option.some.injEq, Prod.mk.injEq, Bool.and_eq_true, decide_eq_true_eq] at he
          obtain ⟨⟨⟨⟨rfl, rfl⟩, rfl⟩, hsz⟩, rfl⟩ := he
          have ha := argsV_ok h _ _ _ (by simpa using hsz) h1
          have hf := (rdo_ok h h0).1
          have hf' : ∃ us : Array Value, a.eval (.tmp x) = .func (.func f) #[] us ∧ ArgsRd w S us.toList (caps.map AV.strip) := by
            generalize a.eval (.tmp x) = u at hf
            cases hf with
            | fn _ us _ hl hr =>
              refine ⟨us, rfl, by simp [hl], fun i v av hv hav => ?_⟩
              rw [List.getElem?_map, Option.map_eq_some_iff] at hav
              obtain ⟨av', hav, rfl⟩ := hav
              have hu := hr i av' hav
              have : us.getD i undef = v := by
                have hv' : us[i]? = some v := by simpa using hv
                obtain ⟨hlt, e⟩ := Array.getElem?_eq_some_iff.1 hv'
                unfold Array.getD
                rw [dif_pos hlt]
                exact e
              rw [this] at hu
              exact hu.strip
          obtain ⟨us, hu, hcap⟩ := hf'
          refine call_made h (hF.1 f) ?_ h2 (argsRd_append ha hcap)
          have e1 : args.map a.eval ++ us = (args.toList.map a.eval ++ us.toList).toArray := by apply Array.ext'; simp
          simp only [execOp, resolve, Sem.run_bind, hu, Deferred.ofValue, Sem.run_pure, Result.andThen_ok, invoke, Array.empty_append, e1]
      · cases he
    · cases he
  · -- buildSlice
    rename_i t n parts hop
    simp only at hop
    subst hop
    split at he
    · rename_i e hs
      split at he
      · rename_i ok l hb
        split at he
        · rename_i hle
          simp only [Option.some.injEq, Prod.mk.injEq] at he
          obtain ⟨rfl, rfl⟩ := he
          obtain ⟨cells, k1, k2, k3, k4⟩ := run_buildSlice h hT hs hb hle
          obtain ⟨te, hd, hte, hpos, _⟩ := (hT t _ hs).desc
          have hn : n ≤ 65536 := by
            have := Nat.mul_le_mul_left n (show 1 ≤ e.size by omega)
            omega
          have hl2 : cells.toList.length = n * e.size := by simpa using k2
          refine OpDoes.value (run_v k1) ⟨_, _, grew_alloc h.slt _ (n * e.size), res_alloc h.slt k4.symm (Nat.le_refl _) (by unfold maxLen; omega) k2 (by rw [← hl2, List.take_length]; exact k3) 0, rfl⟩
        · cases he
      · cases he
    · cases he
  · -- makeSlice
    rename_i t n m hop
    simp only at hop
    subst hop
    split at he
    · rename_i e okn k1 l o1 okm k2 c o2 hs h1 h2
      split at he
      · rename_i hbytes
        simp only [Option.some.injEq, Prod.mk.injEq, Bool.and_eq_true, decide_eq_true_eq] at he
        obtain ⟨⟨⟨⟨⟨rfl, rfl⟩, h0⟩, hlc⟩, hroom⟩, rfl⟩ := he
        obtain ⟨te, hd, hte, hpos, rfl⟩ := (hT t _ hs).desc
        obtain ⟨i, z, hi, hsz, hby, hz, hrd⟩ := (hT _ _ hte).info
        have hzs : z.cells.size = e.size := by have := RdC.length _ _ _ (hrd w S).cells; simpa using this
        have en := dat_int (rdo_ok h h1).1
        have em := dat_int (rdo_ok h h2).1
        exact make_made h hT hs h1 h2 hbytes h0 hlc hroom
      · cases he
    · cases he
  · -- build
    rename_i t parts hop
    simp only at hop
    subst hop
    split at he
    · rename_i s hs
      split at he
      · rename_i hag
        split at he
        · rename_i ok x hb
          simp only [Option.some.injEq, Prod.mk.injEq] at he
          obtain ⟨rfl, rfl⟩ := he
          obtain ⟨cells, k1, k2⟩ := run_build h hT hs hag.1 hb (fun n e hn => by subst hn; exact absurd hag.2 (by simp [Sh.isArr]))
          refine OpDoes.value (run_v k1) ⟨S, _, grew_refl h.slt, ⟨.dat _ _ _ _ ?_, fun _ _ e => (by cases e), fun _ _ e => (by cases e), fun _ _ e => (by simp [AV.lab] at e)⟩, rfl⟩
          unfold RdV
          rw [if_pos hag.1]
          exact ⟨cells, rfl, k2⟩
        · cases he
      · cases he
    · cases he
  · cases he
end
end Go.Av
