/-
  Stores into private trees.
-/
import Derived.Test.YtcfhfjjohmdaoaaDoorAvPOps3
namespace Go.Av
open Go.RowKit Go.Lib

section
variable {base : Nat → Prop} {w0 w : World} {S0 S : Stable} {fr : Fr} {gv : Nat → Value} {a : Act} {F : Nat → Nat → Prop} {P : Program} {E : EnvP}

/-- A protected block was written of which nothing is stable. -/
theorem R.wrote {B : Nat → Prop} (h : R B w S S fr a w) {g : Nat} (hg : B g) (hns : ∀ o, ¬ S g o) {w' : World} (hw : w.grownBy w' (some g)) : R B w' S S fr a w' := by
  have hkeep : Keeps w S w' S := fun b o hs => ⟨hs, cell_of_block (hw.block b (h.slt b o hs) (fun e => by
    have := Option.some.inj e
    subst this
    exact hns o hs)) o⟩
  exact {
    below := Kept.refl _ _
    base_le := fun k hk => Nat.lt_of_lt_of_le (h.base_le k hk) hw.size
    old := fun _ _ _ => Iff.rfl
    kp := Keeps.refl _ _
    slt := fun b o hs => Nat.lt_of_lt_of_le (h.slt b o hs) hw.size
    dfr := h.dfr
    rd := fun t => (h.rd t).keeps hkeep
    cp := h.cp
    sls := h.sls
    own := fun t e x te he => (h.own t e x te he).step hkeep hw (fun b hb e2 => by
      have e' := Option.some.inj e2
      subst e'
      obtain ⟨_, _, _, _, k⟩ := h.own t e x te he
      exact k _ hb hg) (fun _ _ _ _ => Iff.rfl)
    dist := h.dist
    box := fun t s x he => by
      obtain ⟨b, k1, k2⟩ := h.box t s x he
      exact ⟨b, k1.step hkeep hw (fun e => by
        have e' := Option.some.inj e
        subst e'
        exact k1.1 hg) (fun _ _ _ _ => Iff.rfl), k2⟩
    boxd := h.boxd
    boxo := h.boxo
    badr := h.badr }

theorem turn_self {s : Nat} {p : PSh} {z : Den p.sh} {hh : Option (List PStep)} : fr.turn s p z hh s = (fr s).reroot p z hh := by unfold Fr.turn Fr.set; rw [if_pos rfl]
theorem turn_ne {s t : Nat} {p : PSh} {z : Den p.sh} {hh : Option (List PStep)} (ht : t ≠ s) : fr.turn s p z hh t = fr.sweep s t := by simp [Fr.turn, Fr.set, ht]

theorem turn_isRoot {s : Nat} {p : PSh} {z z' : Den p.sh} {hh hh' : Option (List PStep)} {v : Value} {c : Spot} (h : IsRoot (fr s) v p z hh c) : IsRoot (fr.turn s p z' hh' s) v p z' hh' c := by
  rw [turn_self]
  generalize fr s = av at h
  cases h with
  | pv _ _ _ _ hv => exact .pv p z' hh' _ hv
  | pbox _ _ _ b => exact .pbox p z' hh' b

theorem turn_or {s : Nat} {p : PSh} {z : Den p.sh} {hh : Option (List PStep)} (hr : (fr s).isRoot = true) (t : Nat) : fr.turn s p z hh t = fr t ∨ ((fr t).vague = true ∧ (fr.turn s p z hh t).vague = true) := by
  by_cases ht : t = s
  · subst ht
    rw [turn_self]
    refine .inr ⟨vague_of_root hr, ?_⟩
    unfold AV.reroot
    split <;> rfl
  · rw [turn_ne ht]; exact sweep_or fr s t

theorem valOk_cells {p : PSh} {v : Value} (h : valOk p v) (hs : p.isSl = true) : v.cells[0]? = some v := by
  have hag : p.agg = false := by cases p <;> first | rfl | cases hs
  unfold valOk at h
  rw [hag] at h
  simp only [Bool.false_eq_true, if_false] at h
  cases v <;> first | rfl | (simp [Value.oneCell'] at h)

/-- What the head of a whole tree says. -/
theorem hdr_of_core {p : PSh} {z : Den p.sh} {v : Value} {F : Nat → Prop} (hv : valOk p v) (h : PM w S p (valR v) z F) (hs : p.isSl = true) : HdrOk v F p z := by
  have hl : ∃ n, headLen p z = some n := by cases p <;> first | exact ⟨_, rfl⟩ | cases hs
  obtain ⟨n, hl⟩ := hl
  obtain ⟨u, h1, h2, _⟩ := h.hdr hl
  have h3 : v.cells[0]? = some u := h1
  rw [valOk_cells hv hs] at h3
  obtain rfl := Option.some.inj h3
  exact h2

/-- A slot's tree has turned; its blocks, and nothing else, may have been written. -/
theorem RP.turned (h : RP base w0 S0 S fr gv a w F) {s : Nat} {p : PSh} {z z' : Den p.sh} {hh hh' : Option (List PStep)} {c : Spot} (hi : IsRoot (fr s) (tv gv a s) p z hh c) {g : Nat} (hg : F s g) (hns : ∀ o, ¬ S g o) {w' : World}
    (hw : w.grownBy w' (some g)) (hR : Root w' S p z' hh' c (F s)) : RP base w0 S0 S (fr.turn s p z' hh') gv a w' F := by
  have hkeep : Keeps w S w' S := fun b o hs => ⟨hs, cell_of_block (hw.block b (h.r.slt b o hs) (fun e => by
    have := Option.some.inj e
    subst this
    exact hns o hs)) o⟩
  have hbase : ¬ base g := h.nb s g hg
  have hother : ∀ t b, t ≠ s → F t b → w'.heap[b]? = w.heap[b]? := fun t b ht hb => hw.block b (h.lt hb) (fun e => by
    have := Option.some.inj e
    subst this
    exact h.dj t s b ht hb hg)
  refine h.upd (fun t => t = s) ((h.r.repriv (turn_or hi.isRoot)).wrote (.inr ⟨s, hg⟩) hns hw) ⟨hw.os, hw.tape, hw.output, hw.size, fun k hk => hw.block k (h.base_le hk) (fun e => by
      have := Option.some.inj e
      subst this
      exact hbase hk)⟩ (fun _ _ _ => Iff.rfl) hkeep (fun _ _ _ => Iff.rfl) (fun t b ht hb => hother t b ht hb) (fun _ _ _ _ _ => Iff.rfl)
    (fun t ht => ?_) (fun t b ht hb => h.nb t b hb) (fun t t' b ht hne hb => h.dj t t' b hne hb) (fun t ht hr b hb => ?_) (fun t ht hr => ?_) (fun t s' r ht => ?_) (fun t s' r ht => ?_)
  · have e := turn_ne (fr := fr) (p := p) (z := z') (hh := hh') ht
    rw [e]
    obtain ⟨e1, e2⟩ := sweep_root fr s t
    exact ⟨e1, fun hr => ⟨e2 hr, rfl⟩⟩
  · subst ht
    have := (turn_isRoot (z' := z') (hh' := hh') hi).isRoot
    rw [hr] at this
    cases this
  · subst ht
    exact .tree _ _ p z' hh' c (turn_isRoot hi) hR
  · by_cases hts : t = s
    · subst hts
      have := (turn_isRoot (z' := z') (hh' := hh') hi).isRoot
      rw [ht] at this
      cases this
    · rw [turn_ne hts] at ht
      obtain ⟨e1, e2⟩ := sweep_adr ht
      exact .inl ⟨e2, e1, rfl⟩
  · by_cases hts : t = s
    · subst hts
      have := (turn_isRoot (z' := z') (hh' := hh') hi).isRoot
      rw [ht] at this
      cases this
    · rw [turn_ne hts] at ht
      obtain ⟨e1, e2⟩ := sweep_val ht
      exact .inl ⟨e2, e1, rfl⟩

theorem PM.plain_F {w : World} {S : Stable} : ∀ (q : PSh) (rd : Rdr) (y : Den q.sh) (F : Nat → Prop), q.plain = true → PM w S q rd y F → ∀ b, ¬ F b
  | .leaf s, rd, y, F, _, h, b => by simp only [PM] at h; exact h.1 b
  | .parr n e, rd, y, F, _, h, b => by simp only [PM] at h; exact h.1 b
  | .osl _ _, _, _, _, hp, _, _ => by cases hp
  | .psl _ _, _, _, _, hp, _, _ => by cases hp
  | .ppair a c, rd, y, F, hp, h, b => by
    simp only [PSh.plain, Bool.and_eq_true] at hp
    simp only [PM] at h
    obtain ⟨F1, F2, h1, h2, _, h4⟩ := h
    intro hb
    rcases (h4 b).1 hb with hb | hb
    · exact PM.plain_F a rd y.1 F1 hp.1 h1 b hb
    · exact PM.plain_F c _ y.2 F2 hp.2 h2 b hb

theorem PM.of_cells {w : World} {S : Stable} : ∀ (q : PSh) (rd : Rdr) (y : Den q.sh) (cs : List Value), q.plain = true → RdC w S q.sh y cs → (∀ (i : Nat) (v : Value), cs[i]? = some v → rd i = some v) → PM w S q rd y (fun _ => False)
  | .leaf s, rd, y, cs, _, h, hr => by simp only [PM]; exact ⟨fun _ h => h, cs, h, hr⟩
  | .parr n e, rd, y, cs, _, h, hr => by simp only [PM]; exact ⟨fun _ h => h, cs, h, hr⟩
  | .osl _ _, _, _, _, hp, _, _ => by cases hp
  | .psl _ _, _, _, _, hp, _, _ => by cases hp
  | .ppair a c, rd, y, cs, hp, h, hr => by
    simp only [PSh.plain, Bool.and_eq_true] at hp
    simp only [RdC] at h
    obtain ⟨c1, c2, rfl, h1, h2⟩ := h
    have hl := RdC.length _ _ _ h1
    rw [PSh.size_eq] at hl
    simp only [PM]
    refine ⟨fun _ => False, fun _ => False, PM.of_cells a rd y.1 c1 hp.1 h1 (fun i v hv => hr i v ?_), PM.of_cells c _ y.2 c2 hp.2 h2 (fun i v hv => hr _ v ?_), fun _ h => h.elim, fun _ => by simp⟩
    · rw [List.getElem?_append_left (List.getElem?_eq_some_iff.1 hv).1]; exact hv
    · rw [List.getElem?_append_right (by omega), hl]
      rw [show a.size + i - a.size = i by omega]
      exact hv

/-- Where a part's cells are, they are. -/
theorem PM.room {w : World} {S : Stable} {q : PSh} {g o : Nat} {y : Den q.sh} {F : Nat → Prop} {cur : Array Value} {T : TypeId} {fz : Nat × Nat} (h : PM w S q (blkR w g o) y F) (hg : w.heap[g]? = some (.cells cur T fz)) (hz : q.size ≠ 0) : o + q.size ≤ cur.size := by
  have key : ∀ i v, blkR w g o i = some v → o + i < cur.size := fun i v hv => by
    simp only [blkR, World.cell?, hg, Option.isSome_none, Bool.false_eq_true, if_false] at hv
    exact (Array.getElem?_eq_some_iff.1 hv).1
  have last : ∀ (q : PSh) (rd : Rdr) (y : Den q.sh) (F : Nat → Prop), PM w S q rd y F → q.size ≠ 0 → ∃ v, rd (q.size - 1) = some v := by
    intro q
    induction q with
    | leaf s =>
      intro rd y F h hz
      simp only [PM] at h
      obtain ⟨_, cs, h1, h2⟩ := h
      have hl := RdC.length _ _ _ h1
      simp only [PSh.size] at hz ⊢
      exact ⟨_, h2 (s.size - 1) cs[s.size - 1] (List.getElem?_eq_getElem (by omega))⟩
    | parr n e =>
      intro rd y F h hz
      simp only [PM] at h
      obtain ⟨_, cs, h1, h2⟩ := h
      have hl := RdC.length _ _ _ h1
      simp only [PSh.size, Sh.size] at hz hl ⊢
      exact ⟨_, h2 (n * e.size - 1) cs[n * e.size - 1] (List.getElem?_eq_getElem (by omega))⟩
    | osl te e => intro rd y F h hz; simp only [PM] at h; obtain ⟨v, h1, _⟩ := h; exact ⟨v, h1⟩
    | psl te e => intro rd y F h hz; simp only [PM] at h; obtain ⟨v, h1, _⟩ := h; exact ⟨v, h1⟩
    | ppair a b iha ihb =>
      intro rd y F h hz
      simp only [PM] at h
      obtain ⟨F1, F2, h1, h2, _⟩ := h
      simp only [PSh.size] at hz ⊢
      by_cases hb : b.size = 0
      · rw [hb] at hz ⊢
        obtain ⟨v, hv⟩ := iha rd y.1 F1 h1 (by omega)
        exact ⟨v, hv⟩
      · obtain ⟨v, hv⟩ := ihb _ y.2 F2 h2 hb
        exact ⟨v, by rw [← hv]; congr 1; omega⟩
  obtain ⟨v, hv⟩ := last q _ y F h hz
  have := key _ v hv
  omega

theorem run_storeAt {t : TypeId} {s : Sh} (hT : TyOk1 P E.toEnv t s) {g o : Nat} {v : Value} {cur : Array Value} {T : TypeId} {w : World} (hg : w.heap[g]? = some (.cells cur T (0, 0))) (hl : v.cells.size = s.size) (hr : o + s.size ≤ cur.size) (h1 : ∀ u ∈ v.cells.toList, u.oneCell' = true) :
    (Instr.storeAt t (.pointer (some ⟨g, o, none⟩)) v).run P w = .ok () (w.setRow g (cur.toList.take o ++ v.cells.toList ++ cur.toList.drop (o + s.size)).toArray) := by
  have hst := run_storeCells_at P g o T v.cells.toList 0 cur w hg (by simp only [Nat.add_zero, Array.length_toList, hl]; omega) h1
  simp only [Nat.add_zero, Array.length_toList, hl] at hst
  unfold Instr.storeAt Instr.sureAddr
  simp only
  show ((pure (⟨g, o, none⟩ : Addr) : Sem Addr).bind _).run P w = _
  rw [Sem.run_bind', Sem.run_pure, Result.andThen_ok]
  unfold storeVar
  rw [Sem.run_bind, hT.sizeOf, Result.andThen_ok, if_neg (by omega)]
  exact hst

/-- Cells written at a place: what is there then, and elsewhere. -/
theorem setRow_same {g o k : Nat} {cur : Array Value} {T : TypeId} {vs : List Value} (hg : w.heap[g]? = some (.cells cur T (0, 0))) (hl : vs.length = k) (hr : o + k ≤ cur.size) :
    SameBut w (w.setRow g (cur.toList.take o ++ vs ++ cur.toList.drop (o + k)).toArray) (.blk g o) k ∧ ∀ i v, vs[i]? = some v → blkR (w.setRow g (cur.toList.take o ++ vs ++ cur.toList.drop (o + k)).toArray) g o i = some v := by
  have hh := setRow_heap w g cur (cur.toList.take o ++ vs ++ cur.toList.drop (o + k)).toArray T (0, 0) hg
  have hsz : cur.toList.length = cur.size := Array.length_toList
  refine ⟨⟨cur, _, T, (0, 0), hg, hh, by simp; omega, fun i hi => ?_⟩, fun i v hv => ?_⟩
  · rw [List.getElem?_toArray, ← Array.getElem?_toList]
    rcases hi with hi | hi
    · rw [List.append_assoc, List.getElem?_append_left (by rw [List.length_take]; omega), List.getElem?_take_of_lt hi]
    · rw [List.getElem?_append_right (by rw [List.length_append, List.length_take]; omega), List.length_append, List.length_take, Nat.min_eq_left (by omega), List.getElem?_drop, hl]
      congr 1
      omega
  · have hlt := (List.getElem?_eq_some_iff.1 hv).1
    simp only [blkR, World.cell?, hh, Option.isSome_none, Bool.false_eq_true, if_false]
    rw [List.getElem?_toArray, List.append_assoc, List.getElem?_append_right (by rw [List.length_take]; omega), List.length_take, Nat.min_eq_left (by omega), List.getElem?_append_left (by omega)]
    rw [show o + i - o = i by omega]
    exact hv

/-- The block that a part lies in. -/
theorem Focus.at_blk {p : PSh} {z : Den p.sh} {hh : Option (List PStep)} {c : Spot} {F : Nat → Prop} {r : List PStep} {q : PSh} {y : Den q.sh} {g o : Nat} {Fq : Nat → Prop} (k : Focus w S p c z (fun b => F b ∧ c.block ≠ some b) r q y (.blk g o) Fq) (h : Root w S p z hh c F) :
    F g ∧ (∀ o, ¬ S g o) ∧ ∃ (cur : Array Value) (T : TypeId), w.heap[g]? = some (.cells cur T (0, 0)) := by
  rcases k.uns g rfl with hh | ⟨h1, h2⟩
  · obtain ⟨e1, e2, cur, T, e3, _⟩ := h.blk g hh
    exact ⟨e1, e2, cur, T, e3⟩
  · rcases k.blk g rfl with hh | hh
    · exact ⟨hh.1, h1, h2⟩
    · obtain ⟨e1, e2, cur, T, e3, _⟩ := h.blk g hh
      exact ⟨e1, e2, cur, T, e3⟩

/-- A datum stored in a tree. -/
theorem RP.sData (h : RP base w0 S0 S fr gv a w F) (hT : TyOk P E.toEnv) {o : Oper} (hdst : o.dst = none) {x y : Operand} {s : Nat} {r : List PStep} {t : TypeId} {p : PSh} {z z' : Den p.sh} {q : PSh} {y0 y1 : Den q.sh} {oy : Lab}
    (hop : o.op = .store t x y) (hp : placeV a.tmps.size fr x = some (true, s, r)) (ht : treeV fr s = some ⟨p, z, none⟩) (hg : getPP p z r = some ⟨q, y0⟩) (hty : (E.ti t).sh = some q.sh) (hpl : q.plain = true)
    (hy : rdo E.toEnv fr true t y = (true, .dat q.sh y1 oy)) (hset : setPP p z r q y1 = some z') (hz : q.size ≠ 0) :
    OpDoes P o a w (PPost base w0 S0 a.tmps.size gv w S F False (fr.turn s p z' none)) := by
  obtain ⟨u, rfl, hu, c, h1, h2, h3, _⟩ := h.placeT hp ht
  obtain ⟨g, o', Fq, k1, k2, k3⟩ := adr_part h2 (h3 rfl) hg
  rw [tv_eval gv a u hu] at k1
  have hcs := rd_cells (rdo_ok h.r hy).1
  have hcl := RdC.length _ _ _ hcs
  have hq : q.sh.size = q.size := PSh.size_eq q
  have hFg : F s g ∧ ∀ o, ¬ S g o := by
    obtain ⟨e1, e2, _⟩ := k3.at_blk h2
    exact ⟨e1, e2⟩
  obtain ⟨cur, T, hcur⟩ := (k3.at_blk h2).2.2
  have hroom := k3.part.room hcur hz
  have hrun : (execOp a.eval o).run P w = .ok .skip (w.setRow g (cur.toList.take o' ++ (a.eval y).cells.toList ++ cur.toList.drop (o' + q.size)).toArray) := by
    have e1 := run_storeAt (E := E) (hT t _ hty) hcur (o := o') (v := a.eval y) (by simpa using hcl) (by rw [hq]; exact hroom) (RdC.oneCell _ _ _ hcs)
    rw [hq] at e1
    unfold execOp
    simp only [hop]
    rw [k1, Sem.run_bind, e1]
    rfl
  obtain ⟨m1, m2⟩ := setRow_same (w := w) (o := o') hcur (vs := (a.eval y).cells.toList) (k := q.size) (by rw [hcl, hq]) hroom
  generalize hw' : w.setRow g (cur.toList.take o' ++ (a.eval y).cells.toList ++ cur.toList.drop (o' + q.size)).toArray = w' at hrun m1 m2
  have hgr : w.grownBy w' (some g) := by
    rw [← hw']
    exact ⟨rfl, rfl, rfl, by simp, fun k _ hk => setRow_other w g k _ (fun e => hk (by rw [e]))⟩
  have hkeep : Keeps w S w' S := fun b o2 hs => ⟨hs, cell_of_block (hgr.block b (h.r.slt b o2 hs) (fun e => by
    have := Option.some.inj e
    subst this
    exact hFg.2 o2 hs)) o2⟩
  have hFq := PM.plain_F q _ _ _ hpl k3.part
  obtain ⟨z2, n1, n2⟩ := k3.back w' S y1 (fun _ => False) hkeep (fun b hb hne => hgr.block b (h.lt hb.1.1) hne) m1 (fun g' hg' hne => hgr.block g' (h.lt (h2.blk g' hg').1) (fun e => hne e.symm)) (fun _ _ _ => Iff.rfl)
    (PM.of_cells q _ y1 _ hpl (RdC.keeps hkeep _ _ _ hcs) m2) (fun _ hb => hb.elim) (fun _ _ hb => hb.elim) (fun _ _ hb => hb.elim)
  rw [hset] at n1
  obtain rfl := Option.some.inj n1
  have hcore : PM w' S p (c.rdr w') z' (fun b => F s b ∧ c.block ≠ some b) := n2.congrF fun b => ⟨fun hb => hb.elim False.elim (·.1), fun hb => .inr ⟨hb, hFq b⟩⟩
  have hroot : Root w' S p z' none c (F s) := by
    refine ⟨fun g' hg' => ?_, hcore, fun v hv hsl => ?_⟩
    · obtain ⟨e1, e2, cc, T', e3, e4⟩ := h2.blk g' hg'
      refine ⟨e1, e2, ?_⟩
      by_cases hgg : g' = g
      · subst hgg
        rw [hcur] at e3
        simp only [Option.some.injEq, Obj.cells.injEq, and_true] at e3
        obtain ⟨rfl, rfl⟩ := e3
        obtain ⟨cu, cu', te, fz, f1, f2, f3, _⟩ := m1
        rw [hcur] at f1
        simp only [Option.some.injEq, Obj.cells.injEq] at f1
        obtain ⟨rfl, rfl, rfl⟩ := f1
        exact ⟨cu', _, f2, f3.trans e4⟩
      · exact ⟨cc, T', (hgr.block g' (h.lt e1) (fun e => hgg (Option.some.inj e))).trans e3, e4⟩
    · subst hv
      have hvk : valOk p v := by
        generalize fr s = av at h1
        generalize tv gv a s = vv at h1
        cases h1 with
        | pv _ _ _ _ hv => exact hv
      exact hdr_mono (hdr_of_core hvk hcore hsl) (fun b hb => hb.1)
  refine OpDoes.skip hrun ⟨by rw [hdst]; rfl, S, F, ?_, hkeep, fun hf => hf.elim⟩
  rw [hdst]
  exact h.turned h1 hFg.1 hFg.2 hgr hroot
end
end Go.Av
