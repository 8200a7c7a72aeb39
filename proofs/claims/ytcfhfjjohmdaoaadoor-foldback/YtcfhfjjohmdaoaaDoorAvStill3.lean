/-
  The operations that make nothing and change nothing: what the reading says is what the machine yields.
-/
import Derived.Test.YtcfhfjjohmdaoaaDoorAvStill2
import Derived.Laws.BytesArg
namespace Go.Av
open Go.RowKit

section
variable {bx : Bool} {base : Nat → Prop} {w0 w : World} {S0 S : Stable} {fr : Fr} {a : Act} {P : Program} {E : Env}

/-- What an operation yields, and that it reads so. -/
def Yld (bx : Bool) (P : Program) (w : World) (S : Stable) (fr : Fr) (a : Act) (s : Sem Value) (v : AV) : Prop :=
  ∃ val, (∀ w', Like bx w S fr a w' → s.run P w' = .ok val w') ∧ Rd w S val v ∧ Cpy fr a v val

theorem Yld.plain {s : Sem Value} {v : AV} {val : Value} (h : ∀ w', Like bx w S fr a w' → s.run P w' = .ok val w') (hr : Rd w S val v) (hp : v.plain = true) : Yld bx P w S fr a s v :=
  ⟨val, h, hr, Cpy.of_plain hp⟩

theorem yld_binOp (h : R base w0 S0 S fr a w) (hT : TyOk P E) {op : BinOp} {t yt : TypeId} {x y : Operand} {vx vy v : AV}
    (hx : rdo E fr true t x = (true, vx)) (hy : rdo E fr true yt y = (true, vy)) (hb : binV (decide ((E.ti t).sh = some .bool)) op vx vy = some (true, v)) :
    Yld bx P w S fr a (do eqGuard op t x y (a.eval x) (a.eval y); binOp op t (a.eval x) (a.eval y)) v := by
  obtain ⟨val, h1, h2, h3, h4⟩ := binV_ok (P := P) t (rdo_ok h hx).1 (rdo_ok h hy).1 hb (fun e => by
    have e' := of_decide_eq_true e
    exact (hT t _ e').desc)
  refine Yld.plain (val := val) (fun w' _ => ?_) h3 h4
  have h1' := h1 w'
  rw [Sem.run_bind, h2 _ _ w'] at h1'
  rw [Sem.run_bind, h2 _ _ w']
  exact h1'

theorem yld_unOp (h : R base w0 S0 S fr a w) {op : UnOp} {t : TypeId} {x : Operand} {vx v : AV}
    (hx : rdo E fr true t x = (true, vx)) (hb : unV op vx = some v) : Yld bx P w S fr a (Op.unary op (a.eval x)) v := by
  obtain ⟨val, h1, h2, h3⟩ := unV_ok (P := P) (rdo_ok h hx).1 hb
  exact Yld.plain (fun w' _ => h1 w') h2 h3

theorem yld_index_str (h : R base w0 S0 S fr a w) {t : TypeId} {x i : Operand} {s : List UInt8} {o : Lab} {vi : AV} {n : Int} (hs : (E.ti t).sh = some .str) (hT : TyOk P E)
    (hx : rdo E fr true t x = (true, .dat .str s o)) (hi : rdo E fr true 0 i = (true, vi)) (hn : idxV vi = some n) (h0 : 0 ≤ n) (h1 : n < s.length) :
    Yld bx P w S fr a (Instr.index t (a.eval x) (a.eval i)) (.byte (s.getD n.toNat 0)) := by
  obtain ⟨b, e, hb⟩ := dat_str (rdo_ok h hx).1
  obtain ⟨k, e2⟩ := idxV_ok (rdo_ok h hi).1 hn
  have hd := (hT t _ hs).desc
  have hlt : n.toNat < b.data.toList.length := by rw [hb]; omega
  refine Yld.plain (val := .int .u8 ((b.data.toList[n.toNat]).toNat : Nat)) (fun w' _ => ?_) ?_ rfl
  · unfold Instr.index
    rw [e, e2]
    simp only [asIntOf, Sem.run_bind, Sem.run_pure, Result.andThen_ok, run_underlying hd, if_pos h0]
    have : b[n.toNat]? = some b.data.toList[n.toNat] := by
      have hlt' : n.toNat < b.size := by simpa using hlt
      rw [getElem?_pos b n.toNat hlt']
      rfl
    rw [this]
    rfl
  · have : s.getD n.toNat 0 = b.data.toList[n.toNat] := by subst hb; simp [List.getD, List.getElem?_eq_getElem hlt]
    rw [this]
    exact rd_byte _ _ _

theorem yld_indexAddr_sl (h : R base w0 S0 S fr a w) (hT : TyOk P E) {t : TypeId} {x i : Operand} {e : Sh} {l : List (Den e)} {o : Lab} {vi : AV} {n : Int} (hs : (E.ti t).sh = some (.sl e))
    (hx : rdo E fr true t x = (true, .dat (.sl e) l o)) (hi : rdo E fr true 0 i = (true, vi)) (hn : idxV vi = some n) (h0 : 0 ≤ n) (h1 : n < l.length) :
    Yld bx P w S fr a (Instr.indexAt t (a.eval x) (a.eval i)) (.adr e (l.getD n.toNat (dflt e))) := by
  obtain ⟨A, cap, cs, ev, hcap, hch, hm⟩ := rd_sl (rdo_ok h hx).1
  obtain ⟨k, e2⟩ := idxV_ok (rdo_ok h hi).1 hn
  obtain ⟨te, hd, hte, hpos, _⟩ := (hT t _ hs).desc
  have hlt : n.toNat < l.length := by omega
  have hlen := Chunks.length (RdC.length e) hch
  have hne : cs ≠ [] := by
    intro hc
    rw [hc] at hlen
    have : 0 < l.length * e.size := Nat.mul_pos (by omega) hpos
    simp at hlen
    omega
  obtain ⟨ad, rfl, hmem⟩ := hm hne
  refine Yld.plain (val := .pointer (some (ad.add (n.toNat * e.size)))) (fun w' _ => ?_) ?_ rfl
  · unfold Instr.indexAt
    rw [ev, e2]
    have hlen' : (n : Int) < (l.length : Int) := h1
    simp only [asIntOf, Sem.run_bind, Sem.run_pure, Result.andThen_ok, run_underlying hd]
    rw [if_pos ⟨h0, hlen'⟩]
    simp only [Sem.run_bind, (hT te _ hte).sizeOf, Result.andThen_ok, Sem.run_pure]
  · rw [show l.getD n.toNat (dflt e) = l[n.toNat] by simp [List.getD, List.getElem?_eq_getElem hlt]]
    exact .adr _ _ _ _ (Chunks.at (RdC.length e) n.toNat hch hlt) ⟨add_spot _ _ hmem.1, fun _ => hmem.sub _ _⟩

theorem yld_load_adr (h : R base w0 S0 S fr a w) (hT : TyOk P E) {t : TypeId} {x : Operand} {s : Sh} {y : Den s} (hs : (E.ti t).sh = some s)
    (hx : rdo E fr true 0 x = (true, .adr s y)) : Yld bx P w S fr a (Instr.loadAt t (a.eval x)) (.dat s y none) := by
  obtain ⟨ad, cs, ev, hc, hsp, hm⟩ := rd_adr (rdo_ok h hx).1
  have hall : ∀ w', Like bx w S fr a w' → ∀ (i : Nat) (v : Value), cs[i]? = some v → w'.cell? ⟨ad.block, ad.off + i, none⟩ = some v := fun w' hl i v hv => by
    have h1 := (hm (by rintro rfl; simp at hv)).2 i v hv
    rw [(hl.keeps _ _ h1.1).2]
    exact h1.2
  refine Yld.plain (val := valOf s cs) (fun w' hl => ?_) (.dat _ _ _ _ (run_loadVar_cells (hT t s hs) hc hsp (hall w (Like.refl _ _ _ _ _))).2) rfl
  rw [ev]
  exact (run_loadVar_cells (hT t s hs) hc hsp (hall w' hl)).1

theorem cell_of_cells {w' : World} {b : Nat} {c : Array Value} {T : TypeId} (hb : w'.heap[b]? = some (.cells c T (0, 0))) (o n : Nat) (i : Nat) (v : Value) (hv : ((c.toList.drop o).take n)[i]? = some v) :
    w'.cell? ⟨b, o + i, none⟩ = some v := by
  rw [List.getElem?_take] at hv
  split at hv
  · rw [List.getElem?_drop] at hv
    simp [World.cell?, hb]
    simpa using hv
  · cases hv

theorem yld_load_box (h : R base w0 S0 S fr a w) (hT : TyOk P E) {t : TypeId} {x : Operand} {b : Nat} {p : List Nat} {s u : Sh} {z : Den s} {y : Den u} (hs : (E.ti t).sh = some u)
    (hx : rdo E fr true 0 x = (true, .badr b p)) (hb : fr b = .box s z) (hp : getPath s z p = some ⟨u, y⟩) : Yld true P w S fr a (Instr.loadAt t (a.eval x)) (.dat u y none) := by
  obtain ⟨s', z', q, g, e1, e2, _, o, e4, e5⟩ := (rdo_ok h hx).2.bd b p rfl
  rw [hb] at e1
  obtain ⟨rfl, e1⟩ := AV.box.inj e1
  obtain rfl := eq_of_heq e1
  obtain ⟨g', hbox, e6⟩ := h.box b s z hb
  rw [e2] at e6
  obtain rfl : g = g' := by simpa using e6
  obtain ⟨_, _, c, T, hc, hr⟩ := hbox
  obtain ⟨j2, j3⟩ := getPath_ok p s z _ u y o hr hp e4
  have hall : ∀ w', Like true w S fr a w' → ∀ (i : Nat) (v : Value), ((c.toList.drop o).take u.size)[i]? = some v → w'.cell? ⟨g, o + i, none⟩ = some v := fun w' hl i v hv =>
    cell_of_cells (by rw [hl.box rfl b s z g hb e2]; exact hc) o u.size i v hv
  refine Yld.plain (val := valOf u ((c.toList.drop o).take u.size)) (fun w' hl => ?_) (.dat _ _ _ _ (run_loadVar_cells (hT t u hs) j2 (ad := ⟨g, o, none⟩) rfl (hall w (Like.refl _ _ _ _ _))).2) rfl
  rw [e5]
  exact (run_loadVar_cells (hT t u hs) j2 (ad := ⟨g, o, none⟩) rfl (hall w' hl)).1

theorem size_one {s : Sh} (h : s.agg = false) : s.size = 1 := by
  cases s <;> first | rfl | cases h

theorem yld_field (h : R base w0 S0 S fr a w) (hT : TyOk P E) {t : TypeId} {x : Operand} {f : Nat} {s u : Sh} {z : Den s} {o : Lab} {y : Den u} (hs : (E.ti t).sh = some s)
    (hx : rdo E fr true t x = (true, .dat s z o)) (hp : getFld s z f = some ⟨u, y⟩) : Yld bx P w S fr a (Instr.field t (a.eval x) f) (.dat u y none) := by
  have hag : s.agg = true := by cases s <;> simp_all [getFld, Sh.agg]
  obtain ⟨cs, ev, hc⟩ := rd_agg (rdo_ok h hx).1 hag
  obtain ⟨k1, k2, k3⟩ := getFld_ok s z f _ u y hc hp
  have hd := (hT t s hs).desc
  have hlen := RdC.length s z _ hc
  have : ∃ fs, P.underlying t = some (.struct fs) ∧ (∀ (i : Nat) (g : Field), fs[i]? = some g → g.offset = fldOff s i ∧ (E.ti g.type).sh = s.fld i ∧ (s.fld i).isSome = true) ∧ ∀ i u, s.fld i = some u → ∃ g : Field, fs[i]? = some g := by
    cases s <;> first | exact hd | simp [getFld] at hp
  obtain ⟨fs, hfs, hf1, hf2⟩ := this
  obtain ⟨g, hg⟩ := hf2 f u k1
  obtain ⟨hoff, hsh, _⟩ := hf1 f g hg
  rw [k1] at hsh
  obtain ⟨val, j1, j2⟩ := run_part (hT _ _ hsh) (cs := cs) (o := g.offset) (by rw [hoff]; exact k2) (by rw [hoff]; simp at hlen; omega) w
  refine Yld.plain (val := val) (fun w' _ => ?_) (.dat _ _ _ _ j2) rfl
  obtain ⟨val', j1', _⟩ := run_part (hT _ _ hsh) (cs := cs) (o := g.offset) (by rw [hoff]; exact k2) (by rw [hoff]; simp at hlen; omega) w'
  have hv : val' = val := by
    have e : ∀ w1, (part g.type cs g.offset).run P w1 = .ok (if u.agg then .agg (cs.extract g.offset (g.offset + u.size)) else cs.getD g.offset undef) w1 := by
      intro w1
      unfold part
      rw [Sem.run_bind, (hT _ _ hsh).isAgg]
      cases hu : u.agg with
      | true => simp only [Result.andThen_ok, if_true, Sem.run_bind, (hT _ _ hsh).sizeOf]; rfl
      | false =>
        have hone : u.size = 1 := size_one hu
        have hlt : g.offset < cs.size := by rw [hoff]; simp only [Array.length_toList] at hlen; omega
        have hsome : cs[g.offset]? = some (cs.getD g.offset undef) := by
          rw [Array.getElem?_eq_getElem hlt]
          unfold Array.getD
          rw [dif_pos hlt]
          rfl
        simp only [Result.andThen_ok, Bool.false_eq_true, if_false, hsome]
        rfl
    rw [e w'] at j1'
    rw [e w] at j1
    cases j1
    cases j1'
    rfl
  subst hv
  rw [ev]
  unfold Instr.field
  simp only [Sem.run_bind, run_underlying hfs, Result.andThen_ok, hg, asAgg, Sem.run_pure]
  exact j1'

theorem field_of {t : TypeId} {f : Nat} {s u : Sh} (hs : TyOk1 P E t s) (hu : s.fld f = some u) :
    ∃ fs g, P.underlying t = some (.struct fs) ∧ fs[f]? = some g ∧ g.offset = fldOff s f ∧ (E.ti g.type).sh = some u := by
  have hd := hs.desc
  have : ∃ fs, P.underlying t = some (.struct fs) ∧ (∀ (i : Nat) (g : Field), fs[i]? = some g → g.offset = fldOff s i ∧ (E.ti g.type).sh = s.fld i ∧ (s.fld i).isSome = true) ∧ ∀ i u, s.fld i = some u → ∃ g : Field, fs[i]? = some g := by
    cases s <;> first | exact hd | simp [Sh.fld] at hu
  obtain ⟨fs, hfs, hf1, hf2⟩ := this
  obtain ⟨g, hg⟩ := hf2 f u hu
  obtain ⟨hoff, hsh, _⟩ := hf1 f g hg
  exact ⟨fs, g, hfs, hg, hoff, hsh.trans hu⟩

theorem run_fieldAt {t : TypeId} {f : Nat} {s u : Sh} (hT : TyOk P E) (hs : TyOk1 P E t s) (hu : s.fld f = some u) (hz : u.size ≠ 0) (ad : Addr) (w' : World) :
    (Instr.fieldAt t (.pointer (some ad)) f).run P w' = .ok (.pointer (some (ad.add (fldOff s f)))) w' := by
  obtain ⟨fs, g, hfs, hg, hoff, hsh⟩ := field_of hs hu
  have h1 : (fieldPlace ad g).run P w' = .ok (ad.add (fldOff s f)) w' := by
    unfold fieldPlace
    rw [Sem.run_bind, (hT _ _ hsh).sizeOf, Result.andThen_ok, if_neg hz, hoff]
    rfl
  unfold Instr.fieldAt
  rw [Sem.run_bind, run_underlying hfs, Result.andThen_ok]
  simp only [hg]
  show ((Instr.sureAddr (.pointer (some ad))).bind _).run P w' = _
  simp only [Instr.sureAddr]
  show ((fieldPlace ad g).bind _).run P w' = _
  rw [Sem.run_bind', h1]
  rfl

theorem yld_fieldAddr_adr (h : R base w0 S0 S fr a w) (hT : TyOk P E) {t : TypeId} {x : Operand} {f : Nat} {s u : Sh} {z : Den s} {y : Den u} (hs : (E.ti t).sh = some s) (hz : u.size ≠ 0)
    {tx : TypeId} (hx : rdo E fr true tx x = (true, .adr s z)) (hp : getFld s z f = some ⟨u, y⟩) : Yld bx P w S fr a (Instr.fieldAt t (a.eval x) f) (.adr u y) := by
  obtain ⟨ad, cs, ev, hc, hsp, hm⟩ := rd_adr (rdo_ok h hx).1
  obtain ⟨k1, k2, k3⟩ := getFld_ok s z f _ u y hc hp
  refine Yld.plain (val := .pointer (some (ad.add (fldOff s f)))) (fun w' _ => ?_) (.adr _ _ _ _ k2 ⟨add_spot _ _ hsp, fun hne => ?_⟩) rfl
  · rw [ev]
    exact run_fieldAt hT (hT t s hs) k1 hz ad w'
  · exact (hm (by rintro rfl; simp at hne)).sub _ _

theorem getFld_fld : ∀ (s : Sh) (x : Den s) (i : Nat) (q : Sigma Den), getFld s x i = some q → s.fld i = some q.1
  | .pair a b, x, 0, q, h => by simp only [getFld, Option.some.injEq] at h; subst h; rfl
  | .pair a b, x, i + 1, q, h => getFld_fld b x.2 i q (by simpa only [getFld] using h)
  | .bool, _, _, _, h => by simp [getFld] at h
  | .byte, _, _, _, h => by simp [getFld] at h
  | .int _, _, _, _, h => by simp [getFld] at h
  | .str, _, _, _, h => by simp [getFld] at h
  | .sl _, _, _, _, h => by simp [getFld] at h
  | .unit, _, _, _, h => by simp [getFld] at h
  | .arr _ _, _, _, _, h => by simp [getFld] at h

theorem step_same (s : Sh) (x : Den s) (i : Nat) (q : Sigma Den) (v : Sh) (hx : getStep s x i = some q) (hs : s.step i = some v) : v = q.1 := by
  cases s with
  | arr n e =>
    simp only [getStep, Option.some.injEq] at hx
    subst hx
    simp only [Sh.step] at hs
    split at hs
    · exact (Option.some.inj hs).symm
    · cases hs
  | pair a b => exact Option.some.inj (hs.symm.trans (getFld_fld (.pair a b) x i q hx))
  | _ => simp [getStep] at hx

theorem pathOff_append : ∀ (p : List Nat) (s u : Sh) (z : Den s) (y : Den u) (f : Nat), getPath s z p = some ⟨u, y⟩ → ∀ o, pathOff s p = some o → ∀ v, u.step f = some v → (∃ q, getStep u y f = some q) →
    pathOff s (p ++ [f]) = some (o + stepOff u f) ∧ ∃ q, getPath s z (p ++ [f]) = some q
  | [], s, u, z, y, f, h, o, ho, v, hv, hq => by
    simp only [getPath, Option.some.injEq, Sigma.mk.injEq] at h
    obtain ⟨rfl, h⟩ := h
    obtain rfl := eq_of_heq h
    simp only [pathOff, Option.some.injEq] at ho
    subst ho
    obtain ⟨⟨u', y'⟩, hq⟩ := hq
    exact ⟨by simp [pathOff, hv], ⟨u', y'⟩, by simp [getPath, hq]⟩
  | i :: p, s, u, z, y, f, h, o, ho, v, hv, hq => by
    simp only [getPath] at h
    split at h
    · rename_i t x hx
      simp only [pathOff] at ho
      split at ho
      · rename_i t' ht'
        split at ho
        · rename_i o' ho'
          obtain rfl := step_same s z i _ t' hx ht'
          simp only [Option.some.injEq] at ho
          subst ho
          obtain ⟨k1, q, k2⟩ := pathOff_append p _ u x y f h o' ho' v hv hq
          exact ⟨by simp only [List.cons_append, pathOff, ht', k1, Nat.add_assoc], q, by simp only [List.cons_append, getPath, hx, k2]⟩
        · cases ho
      · cases ho
    · cases h

theorem getFld_step {s : Sh} {x : Den s} {i : Nat} {q : Sigma Den} (h : getFld s x i = some q) : getStep s x i = some q ∧ s.step i = some q.1 ∧ stepOff s i = fldOff s i := by
  have hf := getFld_fld s x i q h
  cases s with
  | pair a b => exact ⟨h, hf, rfl⟩
  | arr n e => simp [getFld] at h
  | _ => simp [getFld] at h

theorem yld_fieldAddr_box (h : R base w0 S0 S fr a w) (hT : TyOk P E) {t : TypeId} {x : Operand} {f : Nat} {b : Nat} {p : List Nat} {s u : Sh} {z : Den s} {y : Den u} {q : Sigma Den} (hs : (E.ti t).sh = some u) (hz : q.1.size ≠ 0)
    {tx : TypeId} (hx : rdo E fr true tx x = (true, .badr b p)) (hb : fr b = .box s z) (hp : getPath s z p = some ⟨u, y⟩) (hf : getFld u y f = some q) : Yld bx P w S fr a (Instr.fieldAt t (a.eval x) f) (.badr b (p ++ [f])) := by
  obtain ⟨s', z', q', g, e1, e2, _, o, e4, e5⟩ := (rdo_ok h hx).2.bd b p rfl
  have hu := getFld_fld u y f q hf
  rw [hb] at e1
  obtain ⟨rfl, e1⟩ := AV.box.inj e1
  obtain rfl := eq_of_heq e1
  obtain ⟨c1, c2, c3⟩ := getFld_step hf
  obtain ⟨j1, r, j2⟩ := pathOff_append p s u z y f hp o e4 q.1 c2 ⟨q, c1⟩
  rw [c3] at j1
  refine ⟨.pointer (some ⟨g, o + fldOff u f, none⟩), fun w' _ => ?_, .badr _ _ _, ⟨fun _ _ _ e => (by cases e), fun _ _ e => (by simp [AV.lab] at e), fun s1 p1 e => ?_, fun _ _ e => (by cases e)⟩⟩
  · rw [e5, run_fieldAt hT (hT t u hs) hu hz, add_eq _ _ rfl]
  · cases e
    exact ⟨s, z, r, g, hb, e2, j2, _, j1, rfl⟩

theorem boundV_ok (h : R base w0 S0 S fr a w) {d : Nat} {x : Option Operand} {n : Int} (hb : boundV d (x.map (rdo E fr true 0)) = some (true, n)) :
    (x = none ∧ n = d) ∨ ∃ y k, x = some y ∧ a.eval y = .int k n := by
  cases x with
  | none => simp [boundV] at hb; exact .inl ⟨rfl, hb.symm⟩
  | some y =>
    right
    simp only [Option.map_some, boundV] at hb
    cases hr : rdo E fr true 0 y with
    | mk ok v =>
      rw [hr] at hb
      simp only at hb
      split at hb
      · rename_i n' hn
        simp only [Option.some.injEq, Prod.mk.injEq] at hb
        obtain ⟨rfl, rfl⟩ := hb
        obtain ⟨k, e⟩ := idxV_ok (rdo_ok h hr).1 hn
        exact ⟨y, k, rfl, e⟩
      · cases hb

theorem run_sliceBounds (isS : Bool) {len cap : Nat} {lo hi : Option Operand} {l r : Int} (hl : (lo = none ∧ l = 0) ∨ ∃ y k, lo = some y ∧ a.eval y = .int k l) (hh : (hi = none ∧ r = len) ∨ ∃ y k, hi = some y ∧ a.eval y = .int k r)
    (h0 : 0 ≤ l) (h1 : l ≤ r) (h2 : r ≤ len) (hc : len ≤ cap) (w' : World) :
    (Instr.sliceBounds isS len cap (lo.map a.eval) (hi.map a.eval) none).run P w' = .ok (l.toNat, r.toNat, cap) w' := by
  have bound : ∀ (k : IntKind) (n : Int) (y : Nat) (c : BoundsCode), 0 ≤ n → n ≤ y → (Instr.sliceBound (.int k n) y c).run P w' = .ok n.toNat w' := fun k n y c a1 a2 => by
    unfold Instr.sliceBound
    simp only [asIntOf, Sem.run_bind, Sem.run_pure, Result.andThen_ok]
    rw [if_pos ⟨a1, a2⟩]
    rfl
  unfold Instr.sliceBounds
  rcases hh with ⟨rfl, rfl⟩ | ⟨y, k, rfl, e⟩
  · rcases hl with ⟨rfl, rfl⟩ | ⟨y2, k2, rfl, e2⟩
    · simp
    · simp only [Option.map_some, Option.map_none, Sem.run_bind, Sem.run_pure, Result.andThen_ok, e2]
      rw [bound k2 l len _ h0 h1]
      simp
  · rcases hl with ⟨rfl, rfl⟩ | ⟨y2, k2, rfl, e2⟩
    · simp only [Option.map_some, Option.map_none, Sem.run_bind, Sem.run_pure, Result.andThen_ok, e]
      rw [bound k r cap _ (by omega) (by omega)]
      simp
    · simp only [Option.map_some, Sem.run_bind, Sem.run_pure, Result.andThen_ok, e, e2]
      rw [bound k r cap _ (by omega) (by omega)]
      simp only [Result.andThen_ok]
      rw [bound k2 l r.toNat _ h0 (by omega)]
      simp

theorem yld_slice_sl (h : R base w0 S0 S fr a w) (hT : TyOk P E) {t : TypeId} {x : Operand} {lo hi : Option Operand} {e : Sh} {z : List (Den e)} {o : Lab} {l r : Int} (hs : (E.ti t).sh = some (.sl e))
    (hx : rdo E fr true t x = (true, .dat (.sl e) z o)) (hl : boundV 0 (lo.map (rdo E fr true 0)) = some (true, l)) (hh : boundV z.length (hi.map (rdo E fr true 0)) = some (true, r))
    (h0 : 0 ≤ l) (h1 : l ≤ r) (h2 : r ≤ z.length) : Yld bx P w S fr a (Instr.sliceAt t (a.eval x) (lo.map a.eval) (hi.map a.eval) none) (.dat (.sl e) ((z.take r.toNat).drop l.toNat) none) := by
  obtain ⟨A, cap, cs, ev, hcap, hch, hm⟩ := rd_sl (rdo_ok h hx).1
  obtain ⟨te, hd, hte, hpos, _⟩ := (hT t _ hs).desc
  have hb := fun w' => run_sliceBounds (P := P) (a := a) true (boundV_ok h hl) (boundV_ok h hh) h0 h1 h2 hcap w'
  have hlen := Chunks.length (RdC.length e) hch
  have hch' : Chunks (RdC w S e) ((z.take r.toNat).drop l.toNat) ((cs.take (r.toNat * e.size)).drop (l.toNat * e.size)) :=
    Chunks.drop (RdC.length e) _ (Chunks.take (RdC.length e) _ hch (by omega)) (by simp; omega)
  refine Yld.plain (val := .slice (if cap = l.toNat then A else A.map (·.add (l.toNat * e.size))) (r.toNat - l.toNat) (cap - l.toNat)) (fun w' _ => ?_) ?_ rfl
  · have : (Instr.slice t (a.eval x) (lo.map a.eval) (hi.map a.eval) none).run P w' = .ok (.slice (if cap = l.toNat then A else A.map (·.add (l.toNat * e.size))) (r.toNat - l.toNat) (cap - l.toNat)) w' := by
      unfold Instr.slice
      rw [Sem.run_bind, run_underlying hd, Result.andThen_ok, ev]
      simp only
      rw [Sem.run_bind, hb w', Result.andThen_ok]
      simp only
      rw [Sem.run_bind, (hT te _ hte).sizeOf, Result.andThen_ok]
      rfl
    unfold Instr.sliceAt
    rw [Sem.run_bind, run_underlying hd, Result.andThen_ok]
    exact this
  · refine rd_of_sl none (by simp; omega) (by simp; omega) hch' (fun hne => ?_)
    have hpos' : 0 < ((cs.take (r.toNat * e.size)).drop (l.toNat * e.size)).length := List.length_pos_iff.2 hne
    simp only [List.length_drop, List.length_take] at hpos'
    have hlt : l.toNat < r.toNat := by
      rcases Nat.lt_or_ge l.toNat r.toNat with hlt | hge
      · exact hlt
      · have := Nat.mul_le_mul_right e.size hge
        omega
    obtain ⟨ad, rfl, hmem⟩ := hm (by rintro rfl; simp at hpos')
    rw [if_neg (by omega)]
    refine ⟨_, rfl, ?_⟩
    rw [List.drop_take]
    exact hmem.sub _ _

theorem extract_toList (b : ByteArray) (l r : Nat) : (b.extract l r).data.toList = (b.data.toList.take r).drop l := by
  rw [ByteArray.data_extract, Array.toList_extract, List.extract_eq_take_drop, List.drop_take]

theorem yld_slice_str (h : R base w0 S0 S fr a w) (hT : TyOk P E) {t : TypeId} {x : Operand} {lo hi : Option Operand} {z : List UInt8} {o : Lab} {l r : Int} (hs : (E.ti t).sh = some .str)
    (hx : rdo E fr true t x = (true, .dat .str z o)) (hl : boundV 0 (lo.map (rdo E fr true 0)) = some (true, l)) (hh : boundV z.length (hi.map (rdo E fr true 0)) = some (true, r))
    (h0 : 0 ≤ l) (h1 : l ≤ r) (h2 : r ≤ z.length) : Yld bx P w S fr a (Instr.sliceAt t (a.eval x) (lo.map a.eval) (hi.map a.eval) none) (.dat .str ((z.take r.toNat).drop l.toNat) none) := by
  obtain ⟨b, ev, hz⟩ := dat_str (rdo_ok h hx).1
  have hd := (hT t _ hs).desc
  have hsz : b.size = z.length := by rw [← hz]; simp
  have hb := fun w' => run_sliceBounds (P := P) (a := a) false (len := z.length) (cap := z.length) (boundV_ok h hl) (boundV_ok h hh) h0 h1 h2 (Nat.le_refl _) w'
  refine Yld.plain (val := .string (b.extract l.toNat r.toNat)) (fun w' _ => ?_) ?_ rfl
  · have : (Instr.slice t (a.eval x) (lo.map a.eval) (hi.map a.eval) none).run P w' = .ok (.string (b.extract l.toNat r.toNat)) w' := by
      unfold Instr.slice
      rw [Sem.run_bind, run_underlying hd, Result.andThen_ok, ev]
      simp only [Option.isSome_none, Bool.false_eq_true, if_false]
      rw [hsz]
      show ((Instr.sliceBounds false z.length z.length (lo.map a.eval) (hi.map a.eval) none).bind _).run P w' = _
      rw [Sem.run_bind', hb w', Result.andThen_ok]
      rfl
    unfold Instr.sliceAt
    rw [Sem.run_bind, run_underlying hd, Result.andThen_ok]
    exact this
  · rw [← hz, ← extract_toList]
    exact rd_str _ _ _

theorem yld_extract (h : R base w0 S0 S fr a w) {x : Operand} {i : Nat} {vs : List AV} {v : AV} (hx : rdo E fr true 0 x = (true, .tup vs)) (hv : vs[i]? = some v) (hc : ∀ g u, v ≠ .cnd g u) :
    Yld bx P w S fr a (Instr.extract (a.eval x) i) v.strip := by
  have hr := (rdo_ok h hx).1
  generalize a.eval x = u at hr
  cases hr with
  | tup us _ hl hr =>
    have hlt : i < us.size := (hl i v hv).elim id (fun ⟨u, e⟩ => absurd e (hc _ _))
    refine Yld.plain (val := us.getD i undef) (fun w' _ => ?_) (hr i v hv).strip (strip_plain v)
    unfold Instr.extract
    simp only [Array.getElem?_eq_getElem hlt]
    unfold Array.getD
    rw [dif_pos hlt]
    rfl
theorem yld_extract_cnd (h : R base w0 S0 S fr a w) {x : Operand} {i : Nat} {vs : List AV} {v : AV} (hx : rdo E fr true 0 x = (true, .tup vs)) (hv : vs[i]? = some (.cnd true v)) :
    Yld bx P w S fr a (Instr.extract (a.eval x) i) v.strip := by
  have hr := (rdo_ok h hx).1
  generalize a.eval x = u at hr
  cases hr with
  | tup us _ hl hr =>
    have hlt : i < us.size := (hl i _ hv).elim id (fun ⟨u, e⟩ => by cases e)
    have hr' := hr i _ hv
    have hr2 : Rd w S (us.getD i undef) v := by
      generalize us.getD i undef = z at hr'
      cases hr' with
      | cnd _ _ _ h0 h1 => exact h1 rfl
    refine Yld.plain (val := us.getD i undef) (fun w' _ => ?_) hr2.strip (strip_plain v)
    unfold Instr.extract
    simp only [Array.getElem?_eq_getElem hlt]
    unfold Array.getD
    rw [dif_pos hlt]
    rfl

theorem yld_len (h : R base w0 S0 S fr a w) (hT : TyOk P E) {t ty : TypeId} {x : Operand} {vx : AV} {n : Nat} (hs : (E.ti t).sh = shOf vx)
    (hx : rdo E fr true t x = (true, vx)) (hn : lenV vx = some n) : Yld bx P w S fr a (Builtin.len_ #[t] ty #[a.eval x]) (.int .i64 n) := by
  have hr := (rdo_ok h hx).1
  refine Yld.plain (val := .int .i64 n) (fun w' _ => ?_) (rd_int _ _ _ _) rfl
  unfold lenV at hn
  split at hn
  · simp only [Option.some.injEq] at hn
    subst hn
    obtain ⟨A, cap, cs, ev, _⟩ := rd_sl hr
    obtain ⟨te, hd, _⟩ := (hT t _ hs).desc
    rw [ev]
    simp [Builtin.len_, run_underlying hd, goInt]
  · simp only [Option.some.injEq] at hn
    subst hn
    obtain ⟨b, ev, hz⟩ := dat_str hr
    have hd := (hT t _ hs).desc
    rw [ev]
    have : b.size = List.length b.data.toList := by simp
    subst hz
    simp [Builtin.len_, run_underlying hd, goInt]
  · cases hn

theorem yld_move (h : R base w0 S0 S fr a w) {t : TypeId} {x : Operand} {v : AV} (hx : rdo E fr true t x = (true, v)) : Yld bx P w S fr a (pure (a.eval x)) v :=
  ⟨_, fun _ _ => rfl, (rdo_ok h hx).1, (rdo_ok h hx).2⟩

theorem yld_pick (h : R base w0 S0 S fr a w) {c x y : Operand} {okx oky t b_x b_y : Bool} {o o1 o2 : Lab} (hc : rdo E fr true 0 c = (true, .dat .bool t o)) (hx : rdo E fr true 0 x = (okx, .dat .bool b_x o1))
    (hy : rdo E fr true 0 y = (oky, .dat .bool b_y o2)) (hok : (bif t then okx else oky) = true) :
    Yld bx P w S fr a (do pure (if ← asBool (a.eval c) then a.eval x else a.eval y)) (.bool (bif t then b_x else b_y)) := by
  have ec := dat_bool (rdo_ok h hc).1
  cases t with
  | true =>
    simp only [cond_true] at hok ⊢
    subst hok
    have ex := dat_bool (rdo_ok h hx).1
    exact Yld.plain (val := .bool b_x) (fun w' _ => by rw [ec, ex]; rfl) (rd_bool _ _ _) rfl
  | false =>
    simp only [cond_false] at hok ⊢
    subst hok
    have ey := dat_bool (rdo_ok h hy).1
    exact Yld.plain (val := .bool b_y) (fun w' _ => by rw [ec, ey]; rfl) (rd_bool _ _ _) rfl

theorem chunks_bytes {w : World} {S : Stable} : ∀ {l : List UInt8} {cs : List Value}, Chunks (RdC w S .byte) l cs → cs = l.map fun b => .int .u8 (b.toNat : Nat)
  | [], _, h => h
  | b :: l, _, ⟨v1, v2, e, h1, h2⟩ => by
    simp only [RdC] at h1
    rw [e, h1, chunks_bytes h2]
    rfl

theorem yld_convert (h : R base w0 S0 S fr a w) (hT : TyOk P E) {src dst : TypeId} {x : Operand} {vx v : AV} {s u : Sh} (hd : (E.ti dst).sh = some s) (hs : (E.ti src).sh = some u) (hu : shOf vx = some u)
    (hx : rdo E fr true 0 x = (true, vx)) (hc : convV s vx = some v) : Yld bx P w S fr a (convert src dst (a.eval x)) v := by
  have hr := (rdo_ok h hx).1
  have hdd := (hT dst _ hd).desc
  obtain ⟨ds, hds⟩ := (hT src _ hs).under
  have toInt : ∀ (k k' : IntKind) (n : Int), P.underlying dst = some (.int k) → ∀ w', (convert src dst (.int k' n)).run P w' = .ok (.int k (k.wrap n)) w' := fun k k' n hk w' => by
    unfold convert
    rw [Sem.run_bind, run_underlying hds, Result.andThen_ok, Sem.run_bind, run_underlying hk, Result.andThen_ok]
    cases ds <;> rfl
  unfold convV at hc
  split at hc
  · simp only [Option.some.injEq] at hc
    subst hc
    have e := dat_byte hr
    refine Yld.plain (fun w' _ => ?_) (rd_byte _ _ _) rfl
    rw [e, toInt .u8 _ _ hdd w']
    congr 2
    rw [IntKind.wrap_u8]
    have hb : ∀ c : UInt8, ((c.toNat : Nat) : Int) % 256 = c.toNat := fun c => by have := c.toNat_lt; omega
    exact hb _
  · simp only [Option.some.injEq] at hc
    subst hc
    have e := dat_int hr
    refine Yld.plain (fun w' _ => ?_) (rd_byte _ _ _) rfl
    rw [e, toInt .u8 _ _ hdd w']
    have h1 : ∀ n : Int, 0 ≤ IntKind.u8.wrap n ∧ IntKind.u8.wrap n < 256 := fun n => by rw [IntKind.wrap_u8]; omega
    rw [byte_const _ (h1 _)]
  · split at hc
    · cases hc
    · simp only [Option.some.injEq] at hc
      subst hc
      have e := dat_byte hr
      exact Yld.plain (fun w' _ => by rw [e]; exact toInt _ _ _ hdd.1 w') (rd_int _ _ _ _) rfl
  · split at hc
    · cases hc
    · simp only [Option.some.injEq] at hc
      subst hc
      have e := dat_int hr
      exact Yld.plain (fun w' _ => by rw [e]; exact toInt _ _ _ hdd.1 w') (rd_int _ _ _ _) rfl
  · simp only [Option.some.injEq] at hc
    subst hc
    obtain ⟨b, e, rfl⟩ := dat_str hr
    refine Yld.plain (val := .string b) (fun w' _ => ?_) (rd_str _ _ _) rfl
    rw [e]
    unfold convert
    rw [Sem.run_bind, run_underlying hds, Result.andThen_ok, Sem.run_bind, run_underlying hdd, Result.andThen_ok]
    cases ds <;> rfl
  · simp only [Option.some.injEq] at hc
    subst hc
    rename_i l o
    obtain ⟨A, cap, cs, ev, hcap, hch, hm⟩ := rd_sl hr
    simp only [shOf, Option.some.injEq] at hu
    subst hu
    obtain ⟨te, hte, hsh, _⟩ := (hT src _ hs).desc
    have hb := (hT te _ hsh).desc
    have hcs := chunks_bytes hch
    refine Yld.plain (val := .string ⟨(List.toArray l)⟩) (fun w' hl => ?_) (rd_str w S ⟨(List.toArray l)⟩) rfl
    rw [ev]
    cases l with
    | nil =>
      cases A with
      | none => exact run_convert_bytes_nil w' src te hte hb 0 cap dst hdd
      | some ad =>
        rw [run_convert_bytes_string w' src dst te _ _ cap hte hb hdd]
        simp only [List.length_nil]
        rw [run_bytesToString w' ad 0 cap [] rfl]
        rfl
    | cons b l =>
      obtain ⟨ad, rfl, hmem⟩ := hm (by rw [hcs]; simp)
      obtain ⟨bb, oo, sp⟩ := ad
      have hsp := hmem.1
      simp only at hsp
      subst hsp
      have := run_convert_bytes_arg w' src te hte hb bb oo (b :: l).length cap ((b :: l).map fun c => (c.toNat : Int)) (by simp) (fun i hi => by
        have h1 := hmem.2 i (.int .u8 ((b :: l)[i].toNat : Nat)) (by rw [hcs, List.getElem?_map, List.getElem?_eq_getElem hi]; rfl)
        rw [(hl.keeps _ _ h1.1).2, h1.2]
        simp only [List.getD, List.getElem?_map, List.getElem?_eq_getElem hi]
        rfl) dst hdd
      rw [this]
      congr 3
      unfold strOfNums
      congr 2
      rw [List.map_map]
      conv => rhs; rw [← List.map_id (b :: l)]
      apply List.map_congr_left
      intro c _
      simp
  · simp only [Option.some.injEq] at hc
    subst hc
    have e := dat_int hr
    refine Yld.plain (val := .string (Utf8.encode _)) (fun w' _ => ?_) (rd_str _ _ _) rfl
    rw [e]
    unfold convert
    rw [Sem.run_bind, run_underlying hds, Result.andThen_ok, Sem.run_bind, run_underlying hdd, Result.andThen_ok]
    cases ds <;> rfl
  · cases hc

theorem yld_index_arr (h : R base w0 S0 S fr a w) (hT : TyOk P E) {t : TypeId} {x i : Operand} {m : Nat} {e : Sh} {l : List (Den e)} {o : Lab} {vi : AV} {n : Int} (hs : (E.ti t).sh = some (.arr m e))
    (hx : rdo E fr true t x = (true, .dat (.arr m e) l o)) (hi : rdo E fr true 0 i = (true, vi)) (hn : idxV vi = some n) (h0 : 0 ≤ n) (h1 : n < m) :
    Yld bx P w S fr a (Instr.index t (a.eval x) (a.eval i)) (.dat e (l.getD n.toNat (dflt e)) none) := by
  obtain ⟨cs, ev, hc⟩ := rd_agg (rdo_ok h hx).1 rfl
  obtain ⟨k, e2⟩ := idxV_ok (rdo_ok h hi).1 hn
  obtain ⟨te, hd, hte⟩ := (hT t _ hs).desc
  simp only [RdC] at hc
  obtain ⟨hlen, hch⟩ := hc
  have hlt : n.toNat < l.length := by omega
  have hel := Chunks.at (RdC.length e) n.toNat hch hlt
  have hsz := Chunks.length (RdC.length e) hch
  have hfit : n.toNat * e.size + e.size ≤ cs.size := by
    have : (n.toNat + 1) * e.size ≤ l.length * e.size := Nat.mul_le_mul_right _ (by omega)
    rw [Nat.add_mul, Nat.one_mul, ← hsz] at this
    simpa using this
  obtain ⟨val, j1, j2⟩ := run_part (hT te _ hte) (cs := cs) (o := n.toNat * e.size) hel hfit w
  have e' : ∀ w1, (part te cs (n.toNat * e.size)).run P w1 = .ok (if e.agg then .agg (cs.extract (n.toNat * e.size) (n.toNat * e.size + e.size)) else cs.getD (n.toNat * e.size) undef) w1 := by
    intro w1
    unfold part
    rw [Sem.run_bind, (hT _ _ hte).isAgg]
    cases hu : e.agg with
    | true => simp only [Result.andThen_ok, if_true, Sem.run_bind, (hT _ _ hte).sizeOf]; rfl
    | false =>
      have hone : e.size = 1 := size_one hu
      have hlt : n.toNat * e.size < cs.size := by omega
      have hsome : cs[n.toNat * e.size]? = some (cs.getD (n.toNat * e.size) undef) := by
        rw [Array.getElem?_eq_getElem hlt]
        unfold Array.getD
        rw [dif_pos hlt]
        rfl
      simp only [Result.andThen_ok, Bool.false_eq_true, if_false, hsome]
      rfl
  rw [show l.getD n.toNat (dflt e) = l[n.toNat] by simp [List.getD, List.getElem?_eq_getElem hlt]]
  refine Yld.plain (val := val) (fun w' _ => ?_) (.dat _ _ _ _ j2) rfl
  have : (part te cs (n.toNat * e.size)).run P w' = .ok val w' := by
    rw [e' w'] 
    rw [e' w] at j1
    cases j1
    rfl
  unfold Instr.index
  rw [ev, e2]
  have h1' : (n : Int) < ((m : Nat) : Int) := h1
  simp only [asIntOf, Sem.run_bind, Sem.run_pure, Result.andThen_ok, run_underlying hd]
  rw [if_pos ⟨h0, h1'⟩]
  simp only [Sem.run_bind, (hT te _ hte).sizeOf, Result.andThen_ok]
  exact this

theorem yld_indexAddr_arr (h : R base w0 S0 S fr a w) (hT : TyOk P E) {t : TypeId} {x i : Operand} {m : Nat} {e : Sh} {l : List (Den e)} {vi : AV} {n : Int} (hs : (E.ti t).sh = some (.arr m e))
    (hx : rdo E fr true t x = (true, .adr (.arr m e) l)) (hi : rdo E fr true 0 i = (true, vi)) (hn : idxV vi = some n) (h0 : 0 ≤ n) (h1 : n < m) :
    Yld bx P w S fr a (Instr.indexAt t (a.eval x) (a.eval i)) (.adr e (l.getD n.toNat (dflt e))) := by
  obtain ⟨ad, cs, ev, hc, hsp, hm⟩ := rd_adr (rdo_ok h hx).1
  obtain ⟨k, e2⟩ := idxV_ok (rdo_ok h hi).1 hn
  obtain ⟨te, hd, hte⟩ := (hT t _ hs).desc
  simp only [RdC] at hc
  obtain ⟨hlen, hch⟩ := hc
  have hlt : n.toNat < l.length := by omega
  have hel := Chunks.at (RdC.length e) n.toNat hch hlt
  rw [show l.getD n.toNat (dflt e) = l[n.toNat] by simp [List.getD, List.getElem?_eq_getElem hlt]]
  refine Yld.plain (val := .pointer (some (ad.add (n.toNat * e.size)))) (fun w' _ => ?_) (.adr _ _ _ _ hel ⟨add_spot _ _ hsp, fun hne => (hm (by rintro rfl; simp at hne)).sub _ _⟩) rfl
  unfold Instr.indexAt
  rw [ev, e2]
  have h1' : (n : Int) < ((m : Nat) : Int) := h1
  simp only [asIntOf, Sem.run_bind, Sem.run_pure, Result.andThen_ok, run_underlying hd, Instr.sureAddr]
  rw [if_pos ⟨h0, h1'⟩]
  simp only [Sem.run_bind, (hT te _ hte).sizeOf, Result.andThen_ok, Sem.run_pure]

theorem yld_indexAddr_box (h : R base w0 S0 S fr a w) (hT : TyOk P E) {t : TypeId} {x i : Operand} {m : Nat} {e : Sh} {s : Sh} {z : Den s} {l : List (Den e)} {vi : AV} {n : Int} {b : Nat} {p : List Nat} (hs : (E.ti t).sh = some (.arr m e))
    (hx : rdo E fr true t x = (true, .badr b p)) (hb : fr b = .box s z) (hp : getPath s z p = some ⟨.arr m e, l⟩) (hi : rdo E fr true 0 i = (true, vi)) (hn : idxV vi = some n) (h0 : 0 ≤ n) (h1 : n < m) :
    Yld bx P w S fr a (Instr.indexAt t (a.eval x) (a.eval i)) (.badr b (p ++ [n.toNat])) := by
  obtain ⟨s', z', q', g, e1, e2, _, o, e4, e5⟩ := (rdo_ok h hx).2.bd b p rfl
  rw [hb] at e1
  obtain ⟨rfl, e1⟩ := AV.box.inj e1
  obtain rfl := eq_of_heq e1
  obtain ⟨k, e6⟩ := idxV_ok (rdo_ok h hi).1 hn
  obtain ⟨te, hd, hte⟩ := (hT t _ hs).desc
  obtain ⟨j1, r, j2⟩ := pathOff_append p s (.arr m e) z l n.toNat hp o e4 e (by simp only [Sh.step]; rw [if_pos (by omega)]) ⟨_, rfl⟩
  refine ⟨.pointer (some ⟨g, o + n.toNat * e.size, none⟩), fun w' _ => ?_, .badr _ _ _, ⟨fun _ _ _ e => (by cases e), fun _ _ e => (by simp [AV.lab] at e), fun s1 p1 e => ?_, fun _ _ e => (by cases e)⟩⟩
  · unfold Instr.indexAt
    rw [e5, e6]
    have h1' : (n : Int) < ((m : Nat) : Int) := h1
    simp only [asIntOf, Sem.run_bind, Sem.run_pure, Result.andThen_ok, run_underlying hd, Instr.sureAddr]
    rw [if_pos ⟨h0, h1'⟩]
    simp only [Sem.run_bind, (hT te _ hte).sizeOf, Result.andThen_ok, Sem.run_pure]
    rw [add_eq _ _ rfl]
  · cases e
    exact ⟨s, z, r, g, hb, e2, j2, _, j1, rfl⟩
end
end Go.Av
