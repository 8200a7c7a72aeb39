/-
  Texts' iterators, package-level variables, boxes laid open.
-/
import Derived.Test.YtcfhfjjohmdaoaaDoorAvPOps7
import Derived.Laws.RangeString
namespace Go.Av
open Go.RowKit Go.Lib

theorem run_next_at {P : Program} (w : World) (b pos : Nat) (bs : ByteArray) (ty : TypeId) (h : w.heap[b]? = some (.stringIter bs pos)) :
    (Instr.next (.pointer (some ⟨b, 0, none⟩)) true ty).run P w =
      if pos < bs.size then .ok (.tuple #[.bool true, .int .i64 pos, .int .i32 (Utf8.decode bs pos).1]) { w with heap := w.heap.setIfInBounds b (.stringIter bs (pos + (Utf8.decode bs pos).2)) }
      else .ok (.tuple #[.bool false]) w := by
  by_cases hp : pos < bs.size
  · simp only [Instr.next, getObj, setObj, Sem.run_bind, Sem.run, h, Result.andThen, hp, if_true]
    simp [goInt]
  · simp [Instr.next, getObj, Sem.run, h, hp]

theorem bytes_of {bs : ByteArray} {s : List UInt8} (h : bs.data.toList = s) : bs = ⟨s.toArray⟩ := by
  subst h
  cases bs
  simp

section
variable {base : Nat → Prop} {w0 w : World} {S0 S : Stable} {fr : Fr} {gv : Nat → Value} {a : Act} {F : Nat → Nat → Prop} {P : Program} {E : EnvP}

theorem set_or {y : Nat} {v : AV} (h1 : (fr y).vague = true) (h2 : v.vague = true) (t : Nat) : fr.set y v t = fr t ∨ ((fr t).vague = true ∧ (fr.set y v t).vague = true) := by
  unfold Fr.set
  by_cases ht : t = y
  · subst ht; rw [if_pos rfl]; exact .inr ⟨h1, h2⟩
  · rw [if_neg ht]; exact .inl rfl

/-- An iterator goes on. -/
theorem RP.iterated (h : RP base w0 S0 S fr gv a w F) {y pos : Nat} {s : List UInt8} (hy : fr y = .itr s pos) (pos' : Nat) : ∃ b, tv gv a y = .pointer (some ⟨b, 0, none⟩) ∧ w.heap[b]? = some (.stringIter ⟨s.toArray⟩ pos) ∧
    ∀ w', w' = { w with heap := w.heap.setIfInBounds b (.stringIter ⟨s.toArray⟩ pos') } → RP base w0 S0 S (fr.set y (.itr s pos')) gv a w' F ∧ Keeps w S w' S := by
  have hr := h.root y (by rw [hy]; rfl)
  rw [hy] at hr
  generalize hv : tv gv a y = v at hr
  cases hr with
  | tree _ _ p x hh c h1 h2 => cases h1
  | itr _ _ b bs h1 h2 h3 h4 =>
    obtain rfl := bytes_of h2
    refine ⟨b, rfl, h1, fun w' hw' => ?_⟩
    have hb : b < w.heap.size := (Array.getElem?_eq_some_iff.1 h1).1
    have hother : ∀ k, k ≠ b → w'.heap[k]? = w.heap[k]? := fun k hk => by
      subst hw'
      exact Array.getElem?_setIfInBounds_ne (Ne.symm hk)
    have hsize : w'.heap.size = w.heap.size := by subst hw'; simp
    have hat : w'.heap[b]? = some (.stringIter ⟨s.toArray⟩ pos') := by
      subst hw'
      simp [hb]
    have hg : w.grownBy w' (some b) := ⟨by subst hw'; rfl, by subst hw'; rfl, by subst hw'; rfl, by omega, fun k _ hk => hother k (fun e => hk (by rw [e]))⟩
    have hFb : F y b := (h3 b).2 rfl
    have hkeep : Keeps w S w' S := fun b1 o hs => ⟨hs, cell_of_block (hother b1 (fun e => by subst e; exact h4 o hs)) o⟩
    have hvy : (fr y).vague = true := by rw [hy]; rfl
    refine ⟨h.upd (fun t => t = y) ((h.r.repriv (set_or hvy rfl)).wrote (.inr ⟨y, hFb⟩) h4 hg) ⟨hg.os, hg.tape, hg.output, hg.size, fun k hk => hother k (fun e => by subst e; exact h.nb y _ hFb hk)⟩
      (fun _ _ _ => Iff.rfl) hkeep (fun _ _ _ => Iff.rfl) (fun t k ht hk => hother k (fun e => by subst e; exact h.dj t y _ ht hk hFb)) (fun _ _ _ _ _ => Iff.rfl)
      (fun t ht => ?_) (fun t k ht hk => h.nb t k hk) (fun t t' k ht hne hk => h.dj t t' k hne hk) (fun t ht hr k hk => ?_) (fun t ht hr => ?_) (fun t s' r ht => ?_) (fun t s' r ht => ?_), hkeep⟩
    · unfold Fr.set
      rw [if_neg ht]
      exact ⟨rfl, fun _ => ⟨rfl, rfl⟩⟩
    · subst ht
      unfold Fr.set at hr
      rw [if_pos rfl] at hr
      cases hr
    · subst ht
      unfold Fr.set
      rw [if_pos rfl, hv]
      exact .itr s pos' b _ hat rfl h3 h4
    · unfold Fr.set at ht
      split at ht
      · cases ht
      · rename_i hts
        refine .inl ⟨fun e => ?_, ht, rfl⟩
        obtain ⟨p, x, hh, c, k1, _⟩ := h.adr t s' r ht
        rw [e, hy] at k1
        cases k1
    · unfold Fr.set at ht
      split at ht
      · cases ht
      · rename_i hts
        refine .inl ⟨fun e => ?_, ht, rfl⟩
        obtain ⟨p, x, hh, c, k1, _⟩ := h.val t s' r ht
        rw [e, hy] at k1
        cases k1

/-- The contracts that a reading goes by are kept; what is laid is there. -/
def EnvOk (P : Program) (E : EnvP) (w : World) (S : Stable) : Prop := FnsOk P E.toEnv w S ∧ GlOk E.gl w S

theorem set_tv (d t : Nat) (v : Value) (hd : d < a.tmps.size) (ht : t ≠ d) : tv gv (a.put (some d) v) t = tv gv a t := by rw [tv_put gv a d v t hd, if_neg ht]

/-- What 'makeQ' says is what the machine does. -/
theorem makeQ_ok (hn : a.tmps.size = E.nt) (h : RP base w0 S0 S fr gv a w F) (hT : TyOk P E.toEnv) (hG : GlOk E.gl w S) {o : Oper} {d : Nat} (hdst : o.dst = some d) (hd : d < a.tmps.size) {fr' : Fr} (he : makeQ E fr o d = some (some (true, fr'))) :
    OpDoes P o a w (PPost base w0 S0 E.nt gv w S F ((fr d).isRoot = false ∧ (∀ x b, o.op ≠ .next x b)) fr') := by
  unfold makeQ at he
  split at he
  · -- range
    rename_i t x hop
    simp only [Option.some.injEq] at he
    split at he
    · rename_i ok s o1 h1
      split at he
      · rename_i hs
        simp only [Option.some.injEq, Prod.mk.injEq] at he
        obtain ⟨rfl, rfl⟩ := he
        obtain ⟨bs, ev, hbs⟩ := dat_str (rdo_ok h.r h1).1
        have hdd := (hT t _ hs).desc
        have hrun : (execOp a.eval o).run P w = .ok (.value (.pointer (some ⟨w.heap.size, 0, none⟩))) (w.iter bs 0) := by
          unfold execOp
          rw [hop]
          simp only
          rw [Sem.run_bind, ev, run_range_string w t bs hdd]
          rfl
        have hB : Below w.heap.size w (w.iter bs 0) := (Below.refl _ _).alloc (Nat.le_refl _) _
        have g : Grew w S (w.iter bs 0) S := ⟨hB, fun _ _ _ => Iff.rfl, fun b o hs => Nat.lt_of_lt_of_le (h.r.slt b o hs) hB.size⟩
        have hsz : (w.iter bs 0).heap.size = w.heap.size + 1 := by show (w.heap.push _).size = _; simp
        refine OpDoes.value hrun ?_
        rw [hdst]
        exact ⟨by rw [put_size, hn], S, _, h.newRoot hd g (Fd := fun b => b = w.heap.size) (fun b hb => by omega) rfl
          (.itr s 0 w.heap.size bs (World.iter_heap _ _ _) hbs (fun k => Iff.rfl) (fun o ho => by have := h.r.slt _ o ho; omega)), g.keeps h.r.slt,
          fun ht t b hb => ⟨g.below.block b (h.lt hb), t, .inr ⟨not_root h ht.1 hb, hb⟩⟩⟩
      · cases he
    · cases he
  · -- next
    rename_i y hop
    simp only [Option.some.injEq] at he
    split at he
    · rename_i s pos hy
      split at he
      · cases he
      · rename_i hc
        simp only [Option.some.injEq, Prod.mk.injEq, true_and] at he
        subst he
        have hne : ¬ y = d := fun e => hc (.inl e)
        have hly : y < a.tmps.size := by rw [hn]; exact Nat.lt_of_not_le (fun e => hc (.inr e))
        have hev : a.eval (.tmp y) = tv gv a y := by
          show a.tmps.getD y undef = a.tmps.getD y (gv y)
          unfold Array.getD
          rw [dif_pos hly, dif_pos hly]
        obtain ⟨b, hb, hat, hgo⟩ := h.iterated hy (bif decide (pos < s.length) then pos + (decL s pos).2 else pos)
        have hsz : (ByteArray.mk s.toArray).size = s.length := by simp [ByteArray.size]
        have hnx := run_next_at (P := P) w b pos ⟨s.toArray⟩ o.type hat
        rw [hsz] at hnx
        have hop' : ∀ val w1, (Instr.next (.pointer (some ⟨b, 0, none⟩)) true o.type).run P w = .ok val w1 → (execOp a.eval o).run P w = .ok (.value val) w1 := fun val w1 hr => by
          unfold execOp
          rw [hop]
          simp only
          rw [Sem.run_bind, hev, hb, hr]
          rfl
        have fin : ∀ val w1, (Instr.next (.pointer (some ⟨b, 0, none⟩)) true o.type).run P w = .ok val w1 → w1 = { w with heap := w.heap.setIfInBounds b (.stringIter ⟨s.toArray⟩ (bif decide (pos < s.length) then pos + (decL s pos).2 else pos)) } →
            Rd w1 S val (.tup [.bool (decide (pos < s.length)), .cnd (decide (pos < s.length)) (.int .i64 pos), .cnd (decide (pos < s.length)) (.int .i32 (decL s pos).1)]) →
            OpDoes P o a w (PPost base w0 S0 E.nt gv w S F ((fr d).isRoot = false ∧ (∀ x b, o.op ≠ .next x b)) ((fr.set y (.itr s (bif decide (pos < s.length) then pos + (decL s pos).2 else pos))).putP d
              (.tup [.bool (decide (pos < s.length)), .cnd (decide (pos < s.length)) (.int .i64 pos), .cnd (decide (pos < s.length)) (.int .i32 (decL s pos).1)]))) := fun val w1 hr hw1 hrd => by
          obtain ⟨h1, hk⟩ := hgo w1 hw1
          refine OpDoes.value (hop' val w1 hr) ?_
          rw [hdst]
          exact ⟨by rw [put_size, hn], S, _, h1.putDat hd hrd rfl rfl, hk, fun ht => absurd hop (ht.2 _ _)⟩
        by_cases hp : pos < s.length
        · rw [if_pos hp] at hnx
          refine fin _ _ hnx (by simp [hp, decL]) (.tup _ _ (fun i c hi => ?_) (fun i c hi => ?_))
          · have := (List.getElem?_eq_some_iff.1 hi).1
            exact .inl (by simpa using this)
          · have hd : decide (pos < s.length) = true := by simpa using hp
            rw [hd] at hi
            match i, hi with
            | 0, hi => simp only [List.getElem?_cons_zero, Option.some.injEq] at hi; subst hi; exact rd_bool _ _ _
            | 1, hi => simp only [List.getElem?_cons_succ, List.getElem?_cons_zero, Option.some.injEq] at hi; subst hi; exact .cnd _ _ _ (fun e => by cases e) (fun _ => rd_int _ _ _ _)
            | 2, hi => simp only [List.getElem?_cons_succ, List.getElem?_cons_zero, Option.some.injEq] at hi; subst hi; exact .cnd _ _ _ (fun e => by cases e) (fun _ => rd_int _ _ _ _)
            | n + 3, hi => simp at hi
        · rw [if_neg hp] at hnx
          have hd : decide (pos < s.length) = false := by simpa using hp
          refine fin _ _ hnx ?_ (.tup _ _ (fun i c hi => ?_) (fun i c hi => ?_))
          · simp only [hd, cond_false]
            have : w.heap.setIfInBounds b (.stringIter ⟨s.toArray⟩ pos) = w.heap := by
              obtain ⟨hlt, hv⟩ := Array.getElem?_eq_some_iff.1 hat
              refine Array.ext (by simp) (fun i h1 h2 => ?_)
              rw [Array.getElem_setIfInBounds]
              split
              · rename_i e; subst e; exact hv.symm
              · rfl
            rw [this]
          · rw [hd] at hi
            match i, hi with
            | 0, hi => exact .inl (by simp)
            | 1, hi => simp only [List.getElem?_cons_succ, List.getElem?_cons_zero, Option.some.injEq] at hi; exact .inr ⟨_, hi.symm⟩
            | 2, hi => simp only [List.getElem?_cons_succ, List.getElem?_cons_zero, Option.some.injEq] at hi; exact .inr ⟨_, hi.symm⟩
            | n + 3, hi => simp at hi
          · rw [hd] at hi
            match i, hi with
            | 0, hi => simp only [List.getElem?_cons_zero, Option.some.injEq] at hi; subst hi; exact rd_bool _ _ _
            | 1, hi => simp only [List.getElem?_cons_succ, List.getElem?_cons_zero, Option.some.injEq] at hi; subst hi; exact .cnd _ _ _ (fun _ => rfl) (fun e => by cases e)
            | 2, hi => simp only [List.getElem?_cons_succ, List.getElem?_cons_zero, Option.some.injEq] at hi; subst hi; exact .cnd _ _ _ (fun _ => rfl) (fun e => by cases e)
            | n + 3, hi => simp at hi
    · cases he
  · -- a variable
    rename_i t g hop
    simp only [Option.some.injEq] at he
    split at he
    · rename_i s x hgl
      split at he
      · rename_i hs
        simp only [Option.some.injEq, Prod.mk.injEq, true_and] at he
        subst he
        have hr := hG g s x hgl
        cases hr with
        | adr _ _ ad cs h1 h2 =>
          have hcell : ∀ (i : Nat) (v : Value), cs[i]? = some v → w.cell? ⟨g, 0 + i, none⟩ = some v := fun i v hi => (((h2.2 (by rintro rfl; simp at hi)).2 i v hi).2)
          obtain ⟨m1, m2⟩ := run_loadVar_cells (hT t s hs) h1 (ad := ⟨g, 0, none⟩) rfl hcell
          have hrun : (execOp a.eval o).run P w = .ok (.value (valOf s cs)) w := by
            unfold execOp
            rw [hop]
            simp only
            rw [Sem.run_bind]
            have : (Instr.loadAt t (a.eval (.global g))).run P w = .ok (valOf s cs) w := m1
            rw [this]
            rfl
          refine OpDoes.value hrun ?_
          rw [hdst]
          exact ⟨by rw [put_size, hn], S, _, h.putDat hd (.dat _ _ _ _ m2) rfl rfl, Keeps.refl _ _, fun ht t b hb => ⟨rfl, t, not_root h ht.1 hb, hb⟩⟩
      · cases he
    · cases he
  · -- a variable's element
    rename_i t g i hop
    simp only [Option.some.injEq] at he
    split at he
    · rename_i m e l hgl
      cases h2 : rdo E.toEnv fr true 0 i with
      | mk oki vi =>
      rw [h2] at he
      simp only at he
      split at he
      · rename_i n hnn
        split at he
        · rename_i hs
          simp only [Option.some.injEq, Prod.mk.injEq, Bool.and_eq_true, decide_eq_true_eq] at he
          obtain ⟨⟨⟨rfl, h0⟩, hlt⟩, rfl⟩ := he
          have hr := hG g _ l hgl
          obtain ⟨k, e2⟩ := idxV_ok (rdo_ok h.r h2).1 hnn
          obtain ⟨te, hdd, hte⟩ := (hT t _ hs).desc
          cases hr with
          | adr _ _ ad cs h1 hm =>
            simp only [RdC] at h1
            obtain ⟨hlen, hch⟩ := h1
            have hl : n.toNat < List.length l := by omega
            have hel := Chunks.at (RdC.length e) n.toNat hch hl
            have hrun : (execOp a.eval o).run P w = .ok (.value (.pointer (some ((⟨g, 0, none⟩ : Addr).add (n.toNat * e.size))))) w := by
              unfold execOp
              rw [hop]
              simp only
              rw [Sem.run_bind]
              have : (Instr.indexAt t (a.eval (.global g)) (a.eval i)).run P w = .ok (.pointer (some ((⟨g, 0, none⟩ : Addr).add (n.toNat * e.size)))) w := by
                show (Instr.indexAt t (.pointer (some ⟨g, 0, none⟩)) (a.eval i)).run P w = _
                unfold Instr.indexAt
                rw [e2]
                have h1' : (n : Int) < ((m : Nat) : Int) := hlt
                simp only [asIntOf, Sem.run_bind, Sem.run_pure, Result.andThen_ok, run_underlying hdd, Instr.sureAddr]
                rw [if_pos ⟨h0, h1'⟩]
                simp only [Sem.run_bind, (hT te _ hte).sizeOf, Result.andThen_ok, Sem.run_pure]
              rw [this]
              rfl
            refine OpDoes.value hrun ?_
            rw [hdst]
            refine ⟨by rw [put_size, hn], S, _, h.putDat hd (v := .adr e (List.getD l n.toNat (dflt e))) ?_ rfl rfl, Keeps.refl _ _, fun ht t b hb => ⟨rfl, t, not_root h ht.1 hb, hb⟩⟩
            rw [show List.getD l n.toNat (dflt e) = l[n.toNat] by simp [List.getD, List.getElem?_eq_getElem hl]]
            exact .adr _ _ _ _ hel ⟨add_spot _ _ rfl, fun hne => (hm.2 (by rintro rfl; simp at hne)).sub _ _⟩
        · cases he
      · cases he
    · cases he
  · cases he

/-! ### Boxes laid open -/

theorem R.openB {B : Nat → Prop} (h : R B w S S fr a w) {b : Nat} {s : Sh} {x : Den s} (hb : fr b = .box s x) : ∃ S', R B w S' S' (fr.openB b) a w ∧ Keeps w S w S' ∧ (∀ k o, B k → (S' k o ↔ S k o)) := by
  obtain ⟨g, ⟨hgB, hns, c, T, hc, hr⟩, hp⟩ := h.box b s x hb
  have hg : g < w.heap.size := (Array.getElem?_eq_some_iff.1 hc).1
  let S' : Stable := fun k o => S k o ∨ (k = g ∧ o < c.size)
  have hk : Keeps w S w S' := fun k o hs => ⟨.inl hs, rfl⟩
  have hne : ∀ k o, k ≠ g → (S' k o ↔ S k o) := fun k o hkg => ⟨fun hh => hh.elim id (fun hh => absurd hh.1 hkg), .inl⟩
  have hat : ∀ t, fr.openB b t = if t = b then .adr s x else (fr t).unref b := fun t => by
    simp only [Fr.openB, hb]
  have hoth : ∀ t, t ≠ b → (fr.openB b t = fr t ∧ ∀ p, fr t ≠ .badr b p) ∨ (fr.openB b t = .bad ∧ ∃ p, fr t = .badr b p) := fun t ht => by
    rw [hat, if_neg ht]
    generalize fr t = v
    cases v with
    | badr b' p =>
      simp only [AV.unref]
      split
      · rename_i e; subst e; exact .inr ⟨rfl, p, rfl⟩
      · rename_i e; exact .inl ⟨rfl, fun p' hh => by cases hh; exact e rfl⟩
    | _ => exact .inl ⟨rfl, fun p hh => by cases hh⟩
  have hself : fr.openB b b = .adr s x := by rw [hat, if_pos rfl]
  have hsame : ∀ t, fr.openB b t = .adr s x ∧ t = b ∨ (fr.openB b t).lab = none ∧ fr.openB b t = .bad ∨ t ≠ b ∧ fr.openB b t = fr t := fun t => by
    by_cases ht : t = b
    · subst ht; exact .inl ⟨hself, rfl⟩
    · rcases hoth t ht with ⟨e, _⟩ | ⟨e, _⟩
      · exact .inr (.inr ⟨ht, e⟩)
      · exact .inr (.inl ⟨by rw [e]; rfl, e⟩)
  have hlab : ∀ t l e, (fr.openB b t).lab = some (l, e) → t ≠ b ∧ fr.openB b t = fr t := fun t l e he => by
    rcases hsame t with ⟨e1, _⟩ | ⟨e1, _⟩ | ⟨e1, e2⟩
    · rw [e1] at he; cases he
    · rw [e1] at he; cases he
    · exact ⟨e1, e2⟩
  have hlab' : ∀ t l e, (fr t).lab = some (l, e) → fr.openB b t = fr t := fun t l e he => by
    have ht : t ≠ b := by rintro rfl; rw [hb] at he; cases he
    rcases hoth t ht with ⟨e1, _⟩ | ⟨_, p, e1⟩
    · exact e1
    · rw [e1] at he; cases he
  have hown : ∀ t l e k, (fr t).lab = some (l, e) → (a.tmps.getD t undef).ownBlock = some k → k ≠ g := fun t l e k hl hk2 e2 => by
    subst e2
    obtain ⟨k1, k2⟩ := h.cp t l e hl
    exact h.boxo b s x k l e hb hp (by rw [k1]; exact hl) (by rw [k2]; exact hk2)
  refine ⟨S', ?_, hk, fun k o hB => hne k o (fun e => by subst e; exact hgB hB)⟩
  exact {
    below := Kept.refl _ _
    base_le := h.base_le
    old := fun _ _ _ => Iff.rfl
    kp := Keeps.refl _ _
    slt := fun k o hh => hh.elim (h.slt k o) (fun hh => by rw [hh.1]; exact hg)
    dfr := h.dfr
    rd := fun t => by
      by_cases ht : t = b
      · subst ht
        rw [hself, hp]
        refine .adr s x _ c.toList (RdC.keeps hk _ _ _ hr) ⟨rfl, fun _ => ⟨rfl, fun i v hi => ⟨.inr ⟨rfl, ?_⟩, ?_⟩⟩⟩
        · have := (List.getElem?_eq_some_iff.1 hi).1
          show 0 + i < c.size
          simpa using this
        · simp only [World.cell?, hc, Option.isSome_none, Bool.false_eq_true, if_false]
          simpa using hi
      · rcases hoth t ht with ⟨e, _⟩ | ⟨e, _⟩
        · rw [e]; exact (h.rd t).keeps hk
        · rw [e]; exact .bad _
    cp := fun t l e he => by
      obtain ⟨_, e1⟩ := hlab t l e he
      rw [e1] at he
      obtain ⟨k1, k2⟩ := h.cp t l e he
      exact ⟨by rw [e1, hlab' l l e (by rw [k1]; exact he), k1], k2⟩
    sls := fun t u y l he => by
      obtain ⟨_, e1⟩ := hlab t l.1 l.2 (by rw [he]; rfl)
      exact h.sls t u y l (by rw [← e1]; exact he)
    own := fun t e y te he => by
      obtain ⟨_, e1⟩ := hlab t t te (by rw [he]; rfl)
      rw [e1] at he
      obtain ⟨xs, m1, m2, m3, m4⟩ := h.own t e y te he
      exact ⟨xs, m1, m2.mono (RdC.keeps hk e), fun k hk2 o => (hne k o (hown t t te k (by rw [he]; rfl) hk2)).trans (m3 k hk2 o), m4⟩
    dist := fun l l' e e' k h1 h2 hne2 hk2 => by
      obtain ⟨_, e1⟩ := hlab l l e h1
      obtain ⟨_, e2⟩ := hlab l' l' e' h2
      rw [e1] at h1
      rw [e2] at h2
      exact h.dist l l' e e' k h1 h2 hne2 hk2
    box := fun t u y he => by
      rcases hsame t with ⟨e1, _⟩ | ⟨_, e1⟩ | ⟨ht, e1⟩
      · rw [e1] at he; cases he
      · rw [e1] at he; cases he
      · rw [e1] at he
        obtain ⟨k, ⟨m1, m2, c2, T2, m3, m4⟩, m5⟩ := h.box t u y he
        have hkg : k ≠ g := fun e => by subst e; exact h.boxd t b u s y x k he hb ht m5 hp
        exact ⟨k, ⟨m1, fun o ho => m2 o ((hne k o hkg).1 ho), c2, T2, m3, RdC.keeps hk _ _ _ m4⟩, m5⟩
    boxd := fun t t' u u' y y' k h1 h2 hne2 hk2 => by
      have f1 : fr.openB b t = fr t := by
        rcases hsame t with ⟨e1, _⟩ | ⟨_, e1⟩ | ⟨_, e1⟩
        · rw [e1] at h1; cases h1
        · rw [e1] at h1; cases h1
        · exact e1
      have f2 : fr.openB b t' = fr t' := by
        rcases hsame t' with ⟨e1, _⟩ | ⟨_, e1⟩ | ⟨_, e1⟩
        · rw [e1] at h2; cases h2
        · rw [e1] at h2; cases h2
        · exact e1
      rw [f1] at h1
      rw [f2] at h2
      exact h.boxd t t' u u' y y' k h1 h2 hne2 hk2
    boxo := fun t u y k l e h1 hk2 h2 => by
      have f1 : fr.openB b t = fr t := by
        rcases hsame t with ⟨e1, _⟩ | ⟨_, e1⟩ | ⟨_, e1⟩
        · rw [e1] at h1; cases h1
        · rw [e1] at h1; cases h1
        · exact e1
      rw [f1] at h1
      obtain ⟨_, e2⟩ := hlab l l e h2
      rw [e2] at h2
      exact h.boxo t u y k l e h1 hk2 h2
    badr := fun t s1 p he => by
      rcases hsame t with ⟨e1, _⟩ | ⟨_, e1⟩ | ⟨ht, e1⟩
      · rw [e1] at he; cases he
      · rw [e1] at he; cases he
      · rcases hoth t ht with ⟨e2, e3⟩ | ⟨e2, _⟩
        · rw [e2] at he
          obtain ⟨u, y, z, k, m1, m2⟩ := h.badr t s1 p he
          have hs1 : s1 ≠ b := fun e => by subst e; exact e3 p he
          rcases hoth s1 hs1 with ⟨e4, _⟩ | ⟨_, p', e4⟩
          · exact ⟨u, y, z, k, by rw [e4]; exact m1, m2⟩
          · rw [e4] at m1; cases m1
        · rw [e2] at he; cases he }

theorem openB_priv (fr : Fr) (b t : Nat) : ((fr t).isPriv = true → fr.openB b t = fr t) ∧ (fr.openB b t).isPriv = (fr t).isPriv := by
  by_cases hb : ∃ s x, fr b = .box s x
  · obtain ⟨s, x, hb⟩ := hb
    have hat : fr.openB b t = if t = b then .adr s x else (fr t).unref b := by simp only [Fr.openB, hb]
    rw [hat]
    by_cases ht : t = b
    · subst ht
      rw [if_pos rfl, hb]
      exact ⟨fun e => (by cases e), rfl⟩
    · rw [if_neg ht]
      generalize fr t = v
      cases v with
      | badr b' p =>
        simp only [AV.unref]
        split
        · exact ⟨fun e => (by cases e), rfl⟩
        · exact ⟨fun _ => rfl, rfl⟩
      | _ => exact ⟨fun _ => rfl, rfl⟩
  · have : fr.openB b = fr := by
      unfold Fr.openB
      split
      · rename_i s x he; exact absurd ⟨s, x, he⟩ hb
      · rfl
    rw [this]
    exact ⟨fun _ => rfl, rfl⟩

theorem priv_of_root {v : AV} (h : v.isRoot = true) : v.isPriv = true := by unfold AV.isPriv; rw [h]; rfl

theorem openB_root (fr : Fr) (b t : Nat) : (fr.openB b t).isRoot = (fr t).isRoot := by
  obtain ⟨e1, e2⟩ := openB_priv fr b t
  cases hp : (fr t).isPriv with
  | true => rw [e1 hp]
  | false =>
    rw [hp] at e2
    have f : ∀ v : AV, v.isPriv = false → v.isRoot = false := fun v hv => by
      cases hr : v.isRoot with
      | false => rfl
      | true => rw [priv_of_root hr] at hv; cases hv
    rw [f _ hp, f _ e2]

theorem openB_of_priv (fr : Fr) (b t : Nat) {v : AV} (h : fr.openB b t = v) (hp : v.isPriv = true) : fr t = v := by
  obtain ⟨e1, e2⟩ := openB_priv fr b t
  rw [h, hp] at e2
  rw [← e1 e2.symm, h]

theorem RP.openB (h : RP base w0 S0 S fr gv a w F) (b : Nat) : ∃ S', RP base w0 S0 S' (fr.openB b) gv a w F ∧ Keeps w S w S' := by
  by_cases hb : ∃ s x, fr b = .box s x
  · obtain ⟨s, x, hb⟩ := hb
    obtain ⟨S', h1, h2, h3⟩ := h.r.openB hb
    refine ⟨S', h.upd (fun _ => False) h1 (Kept.refl _ _) (fun k o hB => h3 k o (.inl hB)) h2 (fun _ _ _ => Iff.rfl) (fun _ _ _ _ => rfl) (fun t k o _ hF => h3 k o (.inr ⟨t, hF⟩))
      (fun t _ => ⟨openB_root fr b t, fun hr => ⟨(openB_priv fr b t).1 (priv_of_root hr), rfl⟩⟩) (fun _ _ hx => hx.elim) (fun _ _ _ hx => hx.elim) (fun _ hx => hx.elim) (fun _ hx => hx.elim)
      (fun t s' r ht => .inl ⟨id, openB_of_priv fr b t ht rfl, rfl⟩) (fun t s' r ht => .inl ⟨id, openB_of_priv fr b t ht rfl, rfl⟩), h2⟩
  · have : fr.openB b = fr := by
      unfold Fr.openB
      split
      · rename_i s x he; exact absurd ⟨s, x, he⟩ hb
      · rfl
    rw [this]
    exact ⟨S, h, Keeps.refl _ _⟩

theorem RP.openL : ∀ (l : List Nat) (fr : Fr) (S : Stable), RP base w0 S0 S fr gv a w F → ∃ S', RP base w0 S0 S' (openL l fr) gv a w F ∧ Keeps w S w S'
  | [], fr, S, h => ⟨S, h, Keeps.refl _ _⟩
  | b :: l, fr, S, h => by
    obtain ⟨S1, h1, k1⟩ := h.openB b
    obtain ⟨S2, h2, k2⟩ := RP.openL l _ S1 h1
    exact ⟨S2, h2, k1.trans k2⟩
end
end Go.Av
