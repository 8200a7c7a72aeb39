/-
  Operations on private trees that write nothing, one by one.
-/
import Derived.Test.YtcfhfjjohmdaoaaDoorAvPOps2
namespace Go.Av
open Go.RowKit Go.Lib

section
variable {base : Nat → Prop} {w0 w : World} {S0 S : Stable} {fr : Fr} {gv : Nat → Value} {a : Act} {F : Nat → Nat → Prop} {P : Program} {E : EnvP}

/-- Worlds in which the cells at an address are the same. -/
def LoadsAs (a : Act) (x : Operand) (w : World) (k : Nat) (w' : World) : Prop := ∀ g o, a.eval x = .pointer (some ⟨g, o, none⟩) → ∀ i, i < k → w'.cell? ⟨g, o + i, none⟩ = w.cell? ⟨g, o + i, none⟩

theorem hdr_len {u : Value} {F : Nat → Prop} {q : PSh} {y : Den q.sh} {n : Nat} (h : HdrOk u F q y) (hn : headLen q y = some n) : ∃ A cap, u = .slice A n cap ∧ n ≤ cap := by
  cases q with
  | psl te e =>
    simp only [headLen, Option.some.injEq] at hn
    subst hn
    rcases h with ⟨rfl, h⟩ | ⟨g, cap, rfl, h, _⟩
    · have h' : (List.length y) = 0 := by have : y = [] := h; rw [this]; rfl
      exact ⟨none, 0, by rw [h'], by omega⟩
    · exact ⟨_, cap, rfl, h⟩
  | osl te e =>
    simp only [headLen, Option.some.injEq] at hn
    subst hn
    rcases h with ⟨rfl, h⟩ | ⟨g, cap, rfl, h⟩
    · have h' : (List.length y) = 0 := by have : y = [] := h; rw [this]; rfl
      exact ⟨none, 0, by rw [h'], by omega⟩
    · exact ⟨_, cap, rfl, h⟩
  | _ => exact h.elim

theorem RP.rLen (h : RP base w0 S0 S fr gv a w F) {o : Oper} {d : Nat} (hd : d < a.tmps.size) {x : Operand} {s : Nat} {r : List PStep} {t : TypeId} {T : Tree} {q : PSh} {y : Den q.sh} {n : Nat}
    (hop : o.op = .call { callee := .builtin .len, args := #[x], argTypes := #[t] }) (hp : placeV a.tmps.size fr x = some (false, s, r)) (ht : treeV fr s = some T) (hg : getPP T.p T.x r = some ⟨q, y⟩) (hl : headLen q y = some n)
    (hT : TyOk P E.toEnv) (hty : (E.ti t).sh = some q.sh) : PYields P base w0 S0 gv a w S F o d ((fr d).isRoot = false) (fun _ => True) (fr.putP d (.int .i64 n)) := by
  obtain ⟨z, rfl, hz, p, v, hh, c, h1, h2, _, h4⟩ := h.place hp
  obtain rfl := treeV_root ht h1
  obtain ⟨q', y', c', k1, k2, k3, _⟩ := h4 rfl
  rw [k2] at hg
  simp only [Option.some.injEq, Sigma.mk.injEq] at hg
  obtain ⟨rfl, hg⟩ := hg
  obtain rfl := eq_of_heq hg
  obtain ⟨A, cap, hu, _⟩ := hdr_len k3 hl
  rw [tv_eval gv a z hz] at hu
  have hun : ∃ te, P.underlying t = some (.slice te) := by
    have := (hT t _ hty).desc
    cases q' with
    | psl te e => obtain ⟨te', h1, _⟩ := this; exact ⟨te', h1⟩
    | osl te e => obtain ⟨te', h1, _⟩ := this; exact ⟨te', h1⟩
    | _ => cases hl
  obtain ⟨te, hun⟩ := hun
  refine h.yieldsDat hd (val := .int .i64 n) trivial (fun w' _ => ?_) (rd_int _ _ _ _) rfl rfl
  unfold execOp
  simp only [hop, resolve, invoke, builtin, Sem.run_bind, Sem.run_pure, Result.andThen_ok, List.map_toArray, List.map_cons, List.map_nil, hu]
  simp [Builtin.len_, run_underlying hun, goInt]

/-- What is at an address in a tree, loaded. -/
theorem RP.rLoad (h : RP base w0 S0 S fr gv a w F) (hT : TyOk P E.toEnv) {o : Oper} {d : Nat} (hd : d < a.tmps.size) {x : Operand} {s : Nat} {r : List PStep} {t : TypeId} {p : PSh} {z : Den p.sh} {q : PSh} {y : Den q.sh}
    (hop : o.op = .load t x) (hp : placeV a.tmps.size fr x = some (true, s, r)) (ht : treeV fr s = some ⟨p, z, none⟩) (hg : getPP p z r = some ⟨q, y⟩) (hty : (E.ti t).sh = some q.sh) (hpl : q.plain = true) :
    PYields P base w0 S0 gv a w S F o d ((fr d).isRoot = false) (LoadsAs a x w q.size) (fr.putP d (.dat q.sh y none)) := by
  obtain ⟨u, rfl, hu, c, h1, h2, h3, _⟩ := h.placeT hp ht
  obtain ⟨g, o', Fq, k1, k2, k3⟩ := adr_part h2 (h3 rfl) hg
  obtain ⟨cs, j1, j2⟩ := k3.part.plain_cells q _ y Fq hpl
  rw [tv_eval gv a u hu] at k1
  have hl := RdC.length _ _ _ j1
  rw [PSh.size_eq] at hl
  have hld : ∀ w', LoadsAs a (.tmp u) w q.size w' → _ := fun w' hw => run_loadVar_cells (hT t q.sh hty) j1 (ad := ⟨g, o', none⟩) (w' := w') rfl (fun i v hv => by
    have := (List.getElem?_eq_some_iff.1 hv).1
    show w'.cell? ⟨g, o' + i, none⟩ = some v
    rw [hw g o' k1 i (by omega)]
    exact j2 i v hv)
  refine h.yieldsDat hd (val := valOf q.sh cs) (fun _ _ _ _ _ => rfl) (fun w' hw => ?_) (.dat _ _ _ _ (hld w (fun _ _ _ _ _ => rfl)).2) rfl rfl
  unfold execOp
  simp only [hop]
  refine run_v ?_
  rw [k1]
  exact (hld w' hw).1

theorem PM.hdr {w : World} {S : Stable} {q : PSh} {rd : Rdr} {y : Den q.sh} {F : Nat → Prop} {n : Nat} (h : PM w S q rd y F) (hn : headLen q y = some n) : ∃ u, rd 0 = some u ∧ HdrOk u F q y ∧ u.oneCell' = true := by
  cases q with
  | psl te e =>
    simp only [PM] at h
    obtain ⟨v, h1, h2⟩ := h
    refine ⟨v, h1, ?_, ?_⟩
    · rcases h2 with h2 | ⟨g, cap, cur, Fe, k1, k2, k3, _, _, _, _, _, _, _, k11⟩
      · exact .inl ⟨h2.1, h2.2.1⟩
      · exact .inr ⟨g, cap, k1, k3, (k11 g).2 (.inl rfl)⟩
    · rcases h2 with h2 | ⟨g, cap, cur, Fe, k1, _⟩
      · rw [h2.1]; rfl
      · rw [k1]; rfl
  | osl te e =>
    simp only [PM] at h
    obtain ⟨v, h1, ⟨xs, h2, h3⟩, h4, h5⟩ := h
    refine ⟨v, h1, ?_, ?_⟩
    · rcases h2.2 with ⟨e1, e2⟩ | ⟨g, cap, cur, e1, _, _, e3, _⟩
      · exact .inl ⟨e1, List.eq_nil_of_length_eq_zero e2⟩
      · exact .inr ⟨g, cap, e1, e3⟩
    · rcases h2.2 with ⟨e1, e2⟩ | ⟨g, cap, cur, e1, _⟩
      · rw [e1]; rfl
      · rw [e1]; rfl
  | _ => cases hn

theorem hdr_mono {u : Value} {F F' : Nat → Prop} {q : PSh} {y : Den q.sh} (h : HdrOk u F q y) (hF : ∀ b, F b → F' b) : HdrOk u F' q y := by
  cases q with
  | psl te e => rcases h with h | ⟨g, cap, h1, h2, h3⟩
                · exact .inl h
                · exact .inr ⟨g, cap, h1, h2, hF g h3⟩
  | osl te e => exact h
  | _ => exact h.elim

/-- A slice's head in a tree, loaded: a reference. -/
theorem RP.rHead (h : RP base w0 S0 S fr gv a w F) (hT : TyOk P E.toEnv) {o : Oper} {d : Nat} (hd : d < a.tmps.size) {x : Operand} {s : Nat} {r : List PStep} {t : TypeId} {p : PSh} {z : Den p.sh} {q : PSh} {y : Den q.sh} {n : Nat}
    (hop : o.op = .load t x) (hp : placeV a.tmps.size fr x = some (true, s, r)) (hne : s ≠ d) (ht : treeV fr s = some ⟨p, z, none⟩) (hg : getPP p z r = some ⟨q, y⟩) (hty : (E.ti t).sh = some q.sh) (hl : headLen q y = some n) :
    PYields P base w0 S0 gv a w S F o d ((fr d).isRoot = false) (LoadsAs a x w q.size) (fr.putP d (.pval s r)) := by
  obtain ⟨u, rfl, hu, c, h1, h2, h3, _⟩ := h.placeT hp ht
  obtain ⟨q0, g0, o0, m1, m2, m3, m4, m5⟩ := h3 rfl
  obtain ⟨g, o', Fq, k1, k2, k3⟩ := adr_part h2 (h3 rfl) hg
  rw [k2] at m2
  simp only [Option.some.injEq, Prod.mk.injEq, Spot.blk.injEq] at m2
  obtain ⟨rfl, rfl, rfl⟩ := m2
  obtain ⟨v, j1, j2, j3⟩ := k3.part.hdr hl
  rw [tv_eval gv a u hu] at k1
  have hsz : q.sh.size = 1 := by cases q <;> first | rfl | cases hl
  have hag : q.sh.agg = false := by cases q <;> first | rfl | cases hl
  have hcell : w.cell? ⟨g, o', none⟩ = some v := j1
  have hq1 : q.size = 1 := by rw [← PSh.size_eq]; exact hsz
  refine h.yields hd (val := v) (fun _ _ _ _ _ => rfl) (fun w' hw => ?_) (.pval _ _ _) rfl rfl (fun _ _ e => by cases e) (fun s' r' e => ?_)
  · have hcell' : w'.cell? ⟨g, o', none⟩ = some v := (hw g o' k1 0 (by omega)).trans hcell
    unfold execOp
    simp only [hop]
    refine run_v ?_
    rw [k1]
    unfold Instr.loadAt
    show ((pure (⟨g, o', none⟩ : Addr) : Sem Addr).bind _).run P w' = _
    rw [Sem.run_bind', Sem.run_pure, Result.andThen_ok]
    unfold loadVar
    simp only [Sem.run_bind, (hT t q.sh hty).isAgg, Result.andThen_ok, hag]
    simp [hcell']
  · cases e
    have hFq : ∀ b, Fq b → F s b := fun b hb => (k3.sub b hb).1
    exact ⟨hne, p, z, none, c, h1, q, y, .blk g o', m1, hg, hdr_mono j2 hFq, k2, hcell, m4, fun g' hg' => by cases hg'; exact m5⟩
/-- Where one more index leads to. -/
theorem locP_idx {w : World} : ∀ (p : PSh) (c : Spot) (z : Den p.sh) (r : List PStep) (te : TypeId) (e : PSh) (y : Den (PSh.psl te e).sh) (c' : Spot) (ad : Addr) (m1 m2 n : Nat), getPP p z r = some ⟨.psl te e, y⟩ → inPP p z r → locP w p c r = some (.psl te e, c') →
    c'.rdr w 0 = some (.slice (some ad) m1 m2) → n < List.length y →
    locP w p c (r ++ [.idx n]) = some (e, .blk ad.block (n * e.size)) ∧ spineP w p c (r ++ [.idx n]) = spineP w p c r ++ c'.block.toList ∧ inPP p z (r ++ [.idx n])
  | .leaf s, c, z, r, te, e, y, c', ad, m1, m2, n, hg, _, _, _, _ => by cases r <;> simp [getPP] at hg
  | .osl te' e', c, z, r, te, e, y, c', ad, m1, m2, n, hg, _, _, _, _ => by cases r <;> simp [getPP] at hg
  | .parr k e', c, z, r, te, e, y, c', ad, m1, m2, n, hg, _, _, _, _ => by
    match r, hg with
    | [], hg => simp [getPP] at hg
    | [.idx _], hg => simp [getPP] at hg
    | .fld i :: r, hg => simp [getPP] at hg
    | .idx _ :: _ :: _, hg => simp [getPP] at hg
  | .psl te' e', c, z, r, te, e, y, c', ad, m1, m2, n, hg, hin, hl, hr, hn => by
    match r, hg, hin, hl with
    | [], hg, _, hl =>
      simp only [getPP, Option.some.injEq, Sigma.mk.injEq, PSh.psl.injEq] at hg
      obtain ⟨⟨rfl, rfl⟩, hg⟩ := hg
      obtain rfl := eq_of_heq hg
      simp only [locP, Option.some.injEq, Prod.mk.injEq, true_and] at hl
      subst hl
      have hloc : ∀ (e : PSh) (c : Spot), locP w e c [] = some (e, c) ∧ spineP w e c [] = [] := fun e c => by cases e <;> exact ⟨rfl, rfl⟩
      have hin0 : ∀ (e : PSh) (x : Den e.sh), inPP e x [] := fun e x => by cases e <;> trivial
      refine ⟨?_, ?_, hn, hin0 _ _⟩
      · simp only [List.nil_append, locP, hr, (hloc _ _).1]
      · simp only [List.nil_append, spineP, hr, (hloc _ _).2]
        simp
    | .fld i :: r, hg, _, _ => simp [getPP] at hg
    | .idx m :: r, hg, hin, hl =>
      simp only [getPP] at hg
      simp only [inPP] at hin
      simp only [locP] at hl
      split at hl
      · rename_i ad' k1 k2 hr'
        obtain ⟨j1, j2, j3⟩ := locP_idx e' _ _ r te e y c' ad m1 m2 n hg hin.2 hl hr hn
        refine ⟨?_, ?_, hin.1, j3⟩
        · simp only [List.cons_append, locP, hr', j1]
        · simp only [List.cons_append, spineP, hr', j2, List.append_assoc]
      · cases hl
  | .ppair a b, c, z, r, te, e, y, c', ad, m1, m2, n, hg, hin, hl, hr, hn => by
    match r, hg, hin, hl with
    | [], hg, _, _ => simp [getPP] at hg
    | .idx i :: r, hg, _, _ => simp [getPP] at hg
    | .fld 0 :: r, hg, hin, hl =>
      simp only [getPP] at hg
      simp only [inPP] at hin
      cases c with
      | val v => simp [locP] at hl
      | blk g o =>
        simp only [locP] at hl
        obtain ⟨j1, j2, j3⟩ := locP_idx a _ _ r te e y c' ad m1 m2 n hg hin hl hr hn
        exact ⟨by simp only [List.cons_append, locP, j1], by simp only [List.cons_append, spineP, j2], j3⟩
    | .fld (i + 1) :: r, hg, hin, hl =>
      simp only [getPP] at hg
      simp only [inPP] at hin
      cases c with
      | val v => simp [locP] at hl
      | blk g o =>
        simp only [locP] at hl
        obtain ⟨j1, j2, j3⟩ := locP_idx b _ _ (.fld i :: r) te e y c' ad m1 m2 n hg hin hl hr hn
        simp only [List.cons_append] at j1 j2 j3
        exact ⟨by simp only [List.cons_append, locP, j1], by simp only [List.cons_append, spineP, j2], j3⟩

/-- An index of a private slice. -/
theorem RP.rIdx (h : RP base w0 S0 S fr gv a w F) (hT : TyOk P E.toEnv) {o : Oper} {d : Nat} (hd : d < a.tmps.size) {x i : Operand} {s : Nat} {r : List PStep} {t : TypeId} {p : PSh} {z : Den p.sh} {hh : Option (List PStep)}
    {te : TypeId} {e : PSh} {y : Den (PSh.psl te e).sh} {vi : AV} {n : Int} (hop : o.op = .indexAddr t x i) (hp : placeV a.tmps.size fr x = some (false, s, r)) (hne : s ≠ d) (ht : treeV fr s = some ⟨p, z, hh⟩) (hg : getPP p z r = some ⟨.psl te e, y⟩)
    (hty : (E.ti t).sh = some (PSh.psl te e).sh) (hi : rdo E.toEnv fr true 0 i = (true, vi)) (hn : idxV vi = some n) (h0 : 0 ≤ n) (hlt : n < List.length y) :
    PYields P base w0 S0 gv a w S F o d ((fr d).isRoot = false) (fun _ => True) (fr.putP d (.padr s (r ++ [.idx n.toNat]))) := by
  obtain ⟨u, rfl, hu, c, h1, h2, _, h4⟩ := h.placeT hp ht
  obtain ⟨q', y', c', k1, k2, k3, k4, k5, k6, k7⟩ := h4 rfl
  rw [hg] at k2
  simp only [Option.some.injEq, Sigma.mk.injEq] at k2
  obtain ⟨rfl, k2⟩ := k2
  obtain rfl := eq_of_heq k2
  have hlt' : n.toNat < List.length y := by omega
  rcases k3 with ⟨_, k3⟩ | ⟨g, cap, k3, k8, k9⟩
  · have : List.length y = 0 := by rw [show y = [] from k3]; rfl
    omega
  obtain ⟨ki, ei⟩ := idxV_ok (rdo_ok h.r hi).1 hn
  obtain ⟨te', hd1, hte, _⟩ := (hT t _ hty).desc
  obtain ⟨j1, j2, j3⟩ := locP_idx p c z r te e y c' ⟨g, 0, none⟩ _ _ n.toNat hg k1 k4 (by rw [k5, k3]) hlt'
  refine h.yields hd (val := .pointer (some ⟨g, n.toNat * e.size, none⟩)) trivial (fun w' _ => ?_) (.padr _ _ _) rfl rfl (fun s' r' e' => ?_) (fun _ _ e => by cases e)
  · unfold execOp
    simp only [hop]
    refine run_v ?_
    unfold Instr.indexAt
    rw [ei, ← tv_eval gv a u hu, k3]
    simp only [asIntOf, Sem.run_bind, Sem.run_pure, Result.andThen_ok, run_underlying hd1]
    rw [if_pos ⟨h0, hlt⟩]
    simp only [Sem.run_bind, (hT te' _ hte).sizeOf, Result.andThen_ok, Sem.run_pure]
    rw [add_eq _ _ rfl, PSh.size_eq]
    simp
  · cases e'
    refine ⟨hne, p, z, hh, c, h1, e, g, n.toNat * e.size, j3, j1, rfl, fun k hk => ?_, k9⟩
    rw [j2] at hk
    rcases List.mem_append.1 hk with hk | hk
    · exact k6 k hk
    · cases hcb : c'.block with
      | none => rw [hcb] at hk; cases hk
      | some g' => rw [hcb] at hk; simp at hk; subst hk; exact k7 _ hcb
end
end Go.Av
