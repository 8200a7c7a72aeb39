/-
  Operations that take something away, or write.
-/
import Derived.Test.YtcfhfjjohmdaoaaDoorAvApp
import Derived.Lib.ConvBytes
namespace Go.Av
open Go.RowKit Go.Lib

section
variable {base : Nat → Prop} {w0 w : World} {S0 S : Stable} {fr : Fr} {a : Act} {P : Program} {E : Env}

/-- The state reads as the frame, in some world. -/
def RR (base : Nat → Prop) (w0 : World) (S0 : Stable) (n : Nat) (fr : Fr) (a : Act) (w : World) : Prop := a.tmps.size = n ∧ ∃ S, R base w0 S0 S fr a w

/-- And what was stable in a world ahead is kept. -/
def RK (base : Nat → Prop) (w0 : World) (S0 : Stable) (n : Nat) (wi : World) (Si : Stable) (fr : Fr) (a : Act) (w : World) : Prop := a.tmps.size = n ∧ ∃ S, R base w0 S0 S fr a w ∧ Keeps wi Si w S

theorem keeps_below {w' : World} (hS : ∀ b o, S b o → b < w.heap.size) (hb : Below w.heap.size w w') : Keeps w S w' S :=
  fun b o hs => ⟨hs, cell_of_block (hb.block b (hS b o hs)) o⟩

theorem put_self (a : Act) (d : Nat) (hd : d < a.tmps.size) : a.put (some d) (a.tmps.getD d undef) = a := by
  unfold Act.put
  simp only
  have : a.tmps.setIfInBounds d (a.tmps.getD d undef) = a.tmps := by
    apply Array.ext
    · simp
    · intro i h1 h2
      by_cases h : d = i
      · subst h
        simp [Array.getD, hd]
      · rw [Array.getElem_setIfInBounds_ne _ h]
  rw [this]

/-- A label that a value bears, put into the slot that it names: the slot held it. -/
theorem R.put_copy (h : R base w0 S0 S fr a w) {d : Nat} (hd : d < a.tmps.size) {val : Value} {v : AV} (hv : Rd w S val v) (hc : Cpy fr a v val) (hok : okPut d v = true) :
    R base w0 S0 S (fr.put d v) (a.put (some d) val) w := by
  have hne : ∀ te, v.lab ≠ some (d, te) := fun te he => by
    cases v with
    | dat s x o =>
      simp only [AV.lab] at he
      subst he
      simp [okPut] at hok
    | _ => simp [AV.lab] at he
  refine h.put hd hv hc.sl (fun l e he _ => hc.cp l e he) ?_ ?_ ?_ ?_ ?_ ?_ ?_
  · intro e x te he; exact absurd (by rw [he]; rfl) (hne te)
  · intro te he; exact absurd he (hne te)
  · intro s x he; exact absurd he (hc.nb s x)
  · intro s x he; exact absurd he (hc.nb s x)
  · intro s x he; exact absurd he (hc.nb s x)
  · intro te he; exact absurd he (hne te)
  · intro s p he
    refine ⟨?_, hc.bd s p he⟩
    subst he
    simpa [okPut] using hok

/-- A slice given to another slot. -/
theorem R.give (h : R base w0 S0 S fr a w) {d l : Nat} (hd : d < a.tmps.size) {e : Sh} {x : List (Den e)} {te : TypeId} (hl : fr l = .dat (.sl e) x (some (l, te))) :
    R base w0 S0 S ((fr.spend l).put d (.dat (.sl e) x (some (d, te)))) (a.put (some d) (a.tmps.getD l undef)) w := by
  have hsp := h.spend l
  have hrd := h.rd l
  rw [hl] at hrd
  refine hsp.put hd (hrd.relab (some (d, te))) ?_ ?_ ?_ ?_ ?_ ?_ ?_ ?_ ?_
  · intro s y l' he
    obtain ⟨rfl, _⟩ := AV.dat.inj he
    exact ⟨e, rfl⟩
  · intro l' e' he hne'
    simp only [AV.lab, Option.some.injEq, Prod.mk.injEq] at he
    exact absurd he.1.symm hne'
  · intro e1 y te1 he
    obtain ⟨h4, h5, h6⟩ := AV.dat.inj he
    obtain rfl : e = e1 := by simpa using h4
    obtain rfl := eq_of_heq h5
    simp only [Option.some.injEq, Prod.mk.injEq, true_and] at h6
    subst h6
    exact h.own l e x te hl
  · intro te1 _ l' e' b _ hl' hb hc
    have hcp := hsp.cp l' l' e' 
    obtain ⟨k1, k2⟩ := spent_lab hl'
    exact h.dist l l' te e' b (by rw [hl]; rfl) k1 (Ne.symm k2) hc hb
  · intro s y he; cases he
  · intro s y he; cases he
  · intro s y he; cases he
  · intro te1 _ t s y b _ hf hb hc
    exact h.boxo t s y b l te (spent_box hf) hb (by rw [hl]; rfl) hc
  · intro s p he; cases he

theorem ownsRow_zero {w : World} {n : Nat} {te : TypeId} {size : Nat} {v : Value} {k : Nat} {xs : List Value} (h : w.ownsRow n te size v k xs) : w.ownsRow 0 te size v k xs := by
  refine ⟨h.1, ?_⟩
  rcases h.2 with k | ⟨g, cap, cur, k4, _, k6⟩
  · exact .inl k
  · exact .inr ⟨g, cap, cur, k4, Nat.zero_le _, k6⟩

/-- An append to nil. -/
theorem R.appended_nil (h : R base w0 S0 S fr a w) {d : Nat} (hd : d < a.tmps.size) {e : Sh} {m : List (Den e)} {te : TypeId} {v' : Value} {w' : World} {news : List Value}
    (hnew : Chunks (RdC w S e) m news) (happ : App w w.heap.size te e.size (.slice none 0 0) 0 m.length [] news v' w') :
    ∃ S', R base w0 S0 S' (fr.put d (.dat (.sl e) ([] ++ m) (some (d, te)))) (a.put (some d) v') w' ∧ Keeps w S w' S' := by
  let S' : Stable := fun b o => S b o ∨ (v'.ownBlock = some b ∧ o < m.length * e.size)
  refine ⟨S', ?_⟩
  obtain ⟨hown, hloc⟩ := happ
  simp only [Nat.zero_add, List.nil_append] at hown ⊢
  have hb : Below w.heap.size w w' := by
    rcases hloc with ⟨_, g⟩ | ⟨_, g⟩
    · exact below_of_grown_none g
    · exact g
  have hvb' : ∀ b, v'.ownBlock = some b → w.heap.size ≤ b ∧ b < w'.heap.size := hown.lt
  have g : Grew w S w' S' := ⟨hb, fun b o hlt => ⟨fun hs => hs.elim id (fun hh => by have := (hvb' b hh.1).1; omega), .inl⟩,
    fun b o hs => hs.elim (fun k => Nat.lt_of_lt_of_le (h.slt b o k) hb.size) (fun k => (hvb' b k.1).2)⟩
  have hk := g.keeps h.slt
  have hown' : OwnRow w' S' (· < w.heap.size) te e v' m := by
    refine ⟨news, ownsRow_zero hown, hnew.mono (RdC.keeps hk e), fun b hb' o => ⟨fun hs => hs.elim (fun k => by have := h.slt b o k; have := (hvb' b hb').1; omega) (·.2), fun hs => .inr ⟨hb', hs⟩⟩, fun b hb' => Nat.not_lt_of_le (hvb' b hb').1⟩
  refine ⟨h.fresh hd g ?_ (fun _ _ e => by cases e) (fun _ _ e => by cases e) (fun l te' he => ?_), hk⟩
  · rcases hown.2 with ⟨rfl, h0⟩ | ⟨gg, cap, cur, rfl, hbg, hg, hnc, hcm, hcs, htake⟩
    · have hnil : m = [] := List.eq_nil_of_length_eq_zero h0
      rw [hnil]
      exact rd_of_sl _ rfl (Nat.le_refl _) (cs := []) rfl (fun hh => absurd rfl hh)
    · refine rd_of_sl _ rfl hnc (hnew.mono (RdC.keeps hk e)) (fun _ => ⟨_, rfl, rfl, fun i u hu => ⟨.inr ⟨rfl, ?_⟩, ?_⟩⟩)
      · have h1 := (List.getElem?_eq_some_iff.1 hu).1
        have h2 := hown.1
        show 0 + i < _
        omega
      · have c2 := hown.cells (g := gg) rfl i u hu
        rw [add_eq _ _ rfl] at c2
        exact c2
  · simp only [AV.lab, Option.some.injEq, Prod.mk.injEq] at he
    obtain ⟨rfl, rfl⟩ := he
    exact ⟨rfl, e, m, rfl, hown'⟩

theorem chunks_str (s : ByteArray) : Chunks (RdC w S .byte) s.data.toList (strCells s) := by
  unfold strCells
  generalize s.data.toList = l
  induction l with
  | nil => rfl
  | cons b l ih => exact ⟨[_], _, rfl, by simp only [RdC], ih⟩

/-- An append, whatever it takes and puts behind. -/
theorem append_does (h : R base w0 S0 S fr a w) (hT : TyOk P E) {o : Oper} {d : Nat} (hdst : o.dst = some d) (hd : d < a.tmps.size) {x y : Operand} {t u : TypeId} {lb : Option Nat} {e : Sh} {l m : List (Den e)} {vy : AV}
    (hop : o.op = .call { callee := .builtin .append, args := #[x, y], argTypes := #[t, u] })
    (hx : ownerV E fr t x = some (true, lb, ⟨e, l⟩)) (hy : rdo E fr true u y = (true, vy)) (hs : (E.ti t).sh = some (.sl e)) (hby : (E.ti (E.ti t).el).bytes ≤ 1024) (hu : (E.ti u).sh = shOf vy)
    (hm : newsV E t u e vy = some m) (hroom : l.length + m.length ≤ room) :
    OpDoes P o a w (RK base w0 S0 a.tmps.size w S ((spendO fr lb).put d (.dat (.sl e) (l ++ m) (some (d, (E.ti t).el))))) := by
  obtain ⟨te, ht, hte, hpos, rfl⟩ := (hT t _ hs).desc
  obtain ⟨i, z, hi, hsz, hbys, hz, hrd⟩ := (hT _ _ hte).info
  have hzs : z.cells.size = e.size := by have := RdC.length _ _ _ (hrd w S).cells; simpa using this
  have hroom' : l.length + m.length ≤ 1073741824 := hroom
  have h63 : l.length + m.length ≤ maxLen := by unfold maxLen; omega
  have hbytes : (l.length + m.length) * (E.ti (E.ti t).el).bytes ≤ 140737488355328 := Nat.le_trans (Nat.mul_le_mul hroom' hby) (by decide)
  have hrun : ∀ {v' : Value} {w' : World}, (Builtin.append_ #[t, u] o.type #[a.eval x, a.eval y]).run P w = .ok v' w' → (execOp a.eval o).run P w = .ok (.value v') w' := fun hr => by
    unfold execOp
    simp only [hop, resolve, invoke, builtin, Sem.run_bind, Sem.run_pure, Result.andThen_ok, List.map_toArray, List.map_cons, List.map_nil, hr]
  -- who owns the row
  have howner : ∃ fr1 lb1, R base w0 S0 S fr1 a w ∧ fr1 lb1 = .dat (.sl e) l (some (lb1, (E.ti t).el)) ∧ a.tmps.getD lb1 undef = a.eval x ∧ (fr1.spend lb1).put d (.dat (.sl e) (l ++ m) (some (d, (E.ti t).el))) = (spendO fr lb).put d (.dat (.sl e) (l ++ m) (some (d, (E.ti t).el))) ∨
      (lb = none ∧ l = [] ∧ a.eval x = .slice none 0 0) := by
    unfold ownerV at hx
    split at hx
    · split at hx
      · rename_i e' he'
        simp only [Option.some.injEq, Prod.mk.injEq, true_and, Sigma.mk.injEq] at hx
        obtain ⟨rfl, rfl, hx⟩ := hx
        have := eq_of_heq hx
        exact ⟨fr, 0, .inr ⟨rfl, this.symm, rfl⟩⟩
      · cases hx
    · split at hx
      · rename_i ok e' l' lb' te' hr
        split at hx
        · rename_i hte'
          simp only [Option.some.injEq, Prod.mk.injEq, Sigma.mk.injEq] at hx
          obtain ⟨rfl, rfl, rfl, hx⟩ := hx
          obtain rfl := eq_of_heq hx
          obtain ⟨h1, h2⟩ := (rdo_ok h hr).2.cp lb' te' rfl
          exact ⟨fr, lb', .inl ⟨h, by rw [h1, hte'], h2, rfl⟩⟩
        · cases hx
      · cases hx
  -- what is put behind
  have hnews : ∀ bs v xs, bs ≤ w.heap.size → w.ownsRow bs (E.ti t).el e.size v l.length xs → a.eval x = v → ∃ v' w' news, (execOp a.eval o).run P w = .ok (.value v') w' ∧ Chunks (RdC w S e) m news ∧ App w bs (E.ti t).el e.size v l.length m.length xs news v' w' := fun bs v xs hbs hxs hev => by
    have hry := (rdo_ok h hy).1
    unfold newsV at hm
    split at hm
    · rename_i e' m' o'
      split at hm
      · rename_i hc
        obtain ⟨rfl, rfl⟩ := hc
        simp only [Option.some.injEq] at hm
        subst hm
        obtain ⟨A, cap, cs, ey, hcap, hch, hmem⟩ := rd_sl hry
        have hcl := Chunks.length (RdC.length e') hch
        cases A with
        | none =>
          have hcs : cs = [] := by
            rcases cs with _ | ⟨c, cs⟩
            · rfl
            · obtain ⟨ad, e, _⟩ := hmem (by simp)
              cases e
          subst hcs
          have hm0 : List.length m' = 0 := by
            rcases Nat.eq_zero_or_pos (List.length m') with h0 | h0
            · exact h0
            · have := Nat.mul_pos h0 hpos
              simp at hcl
              omega
          obtain ⟨r1, r2⟩ := app_none (P := P) w bs u o.type _ i e'.size ht hi v l.length xs hxs cap
          refine ⟨v, w, [], hrun (by rw [hev, ey, hm0]; exact r1), hch, ?_⟩
          rw [hm0]
          exact r2
        | some ad =>
          obtain ⟨v', w', r1, r2⟩ := app_slice (P := P) w bs u o.type _ i z e'.size _ ht hi hz hsz hbys hzs hpos v l.length xs hxs ad (List.length m') cap cs hcl
            (fun j q hq => by
              have hne : cs ≠ [] := by rintro rfl; simp at hq
              obtain ⟨ad', e, hmm⟩ := hmem hne
              simp only [Option.some.injEq] at e
              subst e
              rw [add_eq _ _ hmm.1]
              exact (hmm.2 j q hq).2) (Chunks.oneCell (RdC.oneCell e') hch) h63 hbytes hbs
          exact ⟨v', w', cs, hrun (by rw [hev, ey]; exact r1), hch, r2⟩
      · cases hm
    · rename_i m' o'
      split at hm
      · rename_i hc
        obtain ⟨rfl, hb1⟩ := hc
        simp only [Option.some.injEq] at hm
        subst hm
        obtain ⟨b, ey, hb⟩ := dat_str hry
        have hus := (hT u .str hu).desc
        have hz' : i.zero = some (.int .u8 0) := by
          rw [hz]
          exact congrArg some (dat_byte (o := none) (Rd.dat .byte (0 : UInt8) none z (hrd w S)))
        have hsize : b.size = List.length m' := by rw [← hb]; simp
        obtain ⟨v', w', r1, r2⟩ := app_str (P := P) w bs t u o.type _ i ht hus hi hz' hsz (by rw [hbys]; exact hb1) v l.length xs hxs b (by rw [hsize]; exact h63) (by rw [hsize]; omega) hbs
        refine ⟨v', w', strCells b, hrun (by rw [hev, ey]; exact r1), by rw [← hb]; exact chunks_str b, ?_⟩
        rw [← hsize]
        exact r2
      · cases hm
    · cases hm
  obtain ⟨fr1, lb1, ⟨h1, h2, h3, h4⟩ | ⟨rfl, rfl, hev⟩⟩ := howner
  · have hown := h1.own lb1 e l _ h2
    obtain ⟨xs, hxs, hch, hst⟩ := hown
    rw [h3] at hxs
    obtain ⟨v', w', news, r1, r2, r3⟩ := hnews 0 _ xs (Nat.zero_le _) hxs rfl
    refine OpDoes.value r1 ⟨by rw [hdst, put_size], ?_⟩
    rw [hdst, ← h4]
    exact h1.appended hd h2 h3 ⟨xs, hxs, hch, by rw [← h3]; exact hst⟩ hxs hch r2 r3
  · obtain ⟨v', w', news, r1, r2, r3⟩ := hnews w.heap.size (.slice none 0 0) [] (Nat.le_refl _) (World.ownsRow_nil w _ _ _) hev
    refine OpDoes.value r1 ⟨by rw [hdst, put_size], ?_⟩
    rw [hdst]
    exact h.appended_nil hd r2 r3

theorem run_newVar (w : World) (t : TypeId) (v : Value) : (newVar t v).run P w = .ok ⟨w.heap.size, 0, none⟩ (w.alloc (.cells v.cells t)) := by
  simp [newVar, newRow]

theorem alloc_does (h : R base w0 S0 S fr a w) (hT : TyOk P E) {o : Oper} {d : Nat} (hdst : o.dst = some d) (hd : d < a.tmps.size) {t : TypeId} {s : Sh} (hop : o.op = .alloc t) (hs : (E.ti t).sh = some s) :
    OpDoes P o a w (RK base w0 S0 a.tmps.size w S (fr.put d (.box s (dflt s)))) := by
  obtain ⟨i, z, hi, hsz, _, hz, hrd⟩ := (hT t _ hs).info
  have hrun : (execOp a.eval o).run P w = .ok (.value (.pointer (some ⟨w.heap.size, 0, none⟩))) (w.alloc (.cells z.cells t)) := by
    unfold execOp
    simp only [hop]
    refine run_v ?_
    simp [Instr.alloc, zeroValue, typeInfo, hi, hz, newVar, newRow]
  refine OpDoes.value hrun ⟨by rw [hdst, put_size], ?_⟩
  rw [hdst]
  exact ⟨S, h.boxed hd (below_alloc w _) (Nat.le_refl _) (heap_alloc_new w _) (hrd w S).cells, keeps_below h.slt (below_alloc w _)⟩

theorem box_does (h : R base w0 S0 S fr a w) {o : Oper} {d : Nat} (hdst : o.dst = some d) (hd : d < a.tmps.size) {t : TypeId} {x : Operand} {s : Sh} {z : Den s} {ob : Lab} (m : Bool) (hop : o.op = .box t x)
    (hx : rdo E fr true t x = (true, .dat s z ob)) :
    OpDoes P o a w (RK base w0 S0 a.tmps.size w S (fr.put d (if m then .box s z else .adr s z))) := by
  have hc := rd_cells (rdo_ok h hx).1
  have hrun : (execOp a.eval o).run P w = .ok (.value (.pointer (some ⟨w.heap.size, 0, none⟩))) (w.alloc (.cells (a.eval x).cells t)) := by
    unfold execOp
    simp only [hop]
    refine run_v ?_
    simp [Instr.box, newVar, newRow]
  refine OpDoes.value hrun ⟨by rw [hdst, put_size], ?_⟩
  rw [hdst]
  cases m with
  | true => exact ⟨S, h.boxed hd (below_alloc w _) (Nat.le_refl _) (heap_alloc_new w _) hc, keeps_below h.slt (below_alloc w _)⟩
  | false =>
    have g := grew_alloc h.slt (.cells (a.eval x).cells t) (a.eval x).cells.size
    refine ⟨_, h.fresh hd g ?_ (fun _ _ e => by cases e) (fun _ _ e => by cases e) (fun l te he => by simp [AV.lab] at he), g.keeps h.slt⟩
    refine .adr _ _ _ _ (RdC.keeps (g.keeps h.slt) _ _ _ hc) ⟨rfl, fun _ => ⟨rfl, fun i v hv => ⟨.inr ⟨rfl, ?_⟩, ?_⟩⟩⟩
    · have := (List.getElem?_eq_some_iff.1 hv).1
      simp only [Array.length_toList] at this
      show 0 + i < _
      omega
    · have hheap : (w.alloc (.cells (a.eval x).cells t)).heap[w.heap.size]? = some (.cells (a.eval x).cells t (0, 0)) := heap_alloc_new w _
      simp only [World.cell?, hheap, Option.isSome_none, Bool.false_eq_true, if_false, Nat.zero_add]
      simpa using hv

theorem move_does (h : R base w0 S0 S fr a w) {o : Oper} {d : Nat} (hdst : o.dst = some d) (hd : d < a.tmps.size) {t : TypeId} {x : Operand} {v : AV} (hop : o.op = .assign x) (hx : rdo E fr true t x = (true, v)) (hok : okPut d v = true) :
    OpDoes P o a w (RK base w0 S0 a.tmps.size w S (fr.put d v)) := by
  have hrun : (execOp a.eval o).run P w = .ok (.value (a.eval x)) w := by
    unfold execOp
    simp only [hop]
    rfl
  refine OpDoes.value hrun ⟨by rw [hdst, put_size], S, ?_, Keeps.refl w S⟩
  rw [hdst]
  exact h.put_copy hd (rdo_ok h hx).1 (rdo_ok h hx).2 hok

theorem conv_does (h : R base w0 S0 S fr a w) (hT : TyOk P E) {o : Oper} {d : Nat} (hdst : o.dst = some d) (hd : d < a.tmps.size) {src dst : TypeId} {x : Operand} {s : List UInt8} {ob : Lab} (hop : o.op = .convert src dst x)
    (hx : rdo E fr true src x = (true, .dat .str s ob)) (hs : (E.ti dst).sh = some (.sl .byte)) (hsrc : (E.ti src).sh = some .str) :
    OpDoes P o a w (RK base w0 S0 a.tmps.size w S (fr.put d (.dat (.sl .byte) s none))) := by
  obtain ⟨b, ev, hb⟩ := dat_str (rdo_ok h hx).1
  obtain ⟨te, hd1, hte, _, rfl⟩ := (hT dst _ hs).desc
  have hel := (hT _ _ hte).desc
  have hsr := (hT src _ hsrc).desc
  have hrun : (execOp a.eval o).run P w = .ok (.value (.slice (some ⟨w.heap.size, 0, none⟩) b.size (grownCap w b.size 0 (E.ti dst).el))) (Lib.bytesWorld w (E.ti dst).el b) := by
    unfold execOp
    simp only [hop]
    refine run_v ?_
    rw [ev]
    exact Lib.run_convert_string_bytes w src dst _ b hsr hd1 hel
  have hsz : b.size = s.length := by rw [← hb]; simp
  have hbel : Below w.heap.size w (Lib.bytesWorld w (E.ti dst).el b) := ⟨rfl, rfl, rfl, by rw [Lib.bytesWorld_size]; omega, fun k hk => Lib.bytesWorld_at_old w _ b k hk⟩
  have g : Grew w S (Lib.bytesWorld w (E.ti dst).el b) (fun k j => S k j ∨ (k = w.heap.size ∧ j < b.size)) :=
    ⟨hbel, fun k j hk => ⟨fun hs => hs.elim id (fun hh => absurd hh.1 (by omega)), .inl⟩, fun k j hs => by
      rw [Lib.bytesWorld_size]
      rcases hs with hs | hs
      · have := h.slt k j hs; omega
      · omega⟩
  refine OpDoes.value hrun ⟨by rw [hdst, put_size], ?_⟩
  rw [hdst]
  refine ⟨_, h.fresh hd g ?_ (fun _ _ e => by cases e) (fun _ _ e => by cases e) (fun l te he => by simp [AV.lab] at he), g.keeps h.slt⟩
  have hch := RdC.keeps (g.keeps h.slt)
  refine rd_of_sl none hsz (by rw [← hsz]; exact grownCap_ge _ _ _ _) (cs := strCells b) ?_ (fun _ => ⟨_, rfl, rfl, fun i v hv => ⟨.inr ⟨rfl, ?_⟩, ?_⟩⟩)
  · rw [← hb]
    exact (chunks_str (w := w) (S := S) b).mono (hch .byte)
  · have := (List.getElem?_eq_some_iff.1 hv).1
    have hl : (strCells b).length = b.size := by simp [strCells]
    show 0 + i < _
    omega
  · have hlt : i < b.size := by
      have := (List.getElem?_eq_some_iff.1 hv).1
      have hl : (strCells b).length = b.size := by simp [strCells]
      omega
    rw [Nat.zero_add, Lib.bytesWorld_cell w _ b i hlt]
    unfold strCells at hv
    have hlt' : i < b.data.toList.length := by simpa using hlt
    rw [List.getElem?_map, List.getElem?_eq_getElem hlt'] at hv
    simp only [Option.map_some, Option.some.injEq] at hv
    rw [← hv]
    simp only [List.getD, List.getElem?_eq_getElem hlt', Option.getD_some]

theorem freeze_heap (w : World) (g n : Nat) (cur : Array Value) (te : TypeId) (hg : w.heap[g]? = some (.cells cur te (0, 0))) :
    (w.freeze ⟨g, n, none⟩ 1).heap.size = w.heap.size ∧ (∀ k, k ≠ g → (w.freeze ⟨g, n, none⟩ 1).heap[k]? = w.heap[k]?) ∧ (w.freeze ⟨g, n, none⟩ 1).heap[g]? = some (.cells cur te (n, n + 1)) := by
  unfold World.freeze
  rw [if_neg (by decide)]
  refine ⟨by simp, fun k hk => ?_, ?_⟩
  · rw [Array.getElem?_modify, if_neg (fun e => hk e.symm)]
  · rw [Array.getElem?_modify, if_pos rfl, hg]
    rfl

/-- A literal's row, marked as a constant text's: the conversion of a slice of octets to its own type. -/
theorem mark_does (h : R base w0 S0 S fr a w) (hT : TyOk P E) {o : Oper} {d : Nat} (hdst : o.dst = some d) (hd : d < a.tmps.size) {dst : TypeId} {x : Operand} {l : List UInt8} {lb : Nat} {te : TypeId} (hop : o.op = .convert dst dst x)
    (hx : rdo E fr true dst x = (true, .dat (.sl .byte) l (some (lb, te)))) (hs : (E.ti dst).sh = some (.sl .byte)) (hl : 0 < List.length l) :
    OpDoes P o a w (RK base w0 S0 a.tmps.size w S ((fr.spend lb).put d (.dat (.sl .byte) l none))) := by
  obtain ⟨hr, hc⟩ := rdo_ok h hx
  obtain ⟨hf, hv⟩ := hc.cp lb te rfl
  obtain ⟨xs, ⟨_, hown⟩, _, _, hpr⟩ := h.own lb .byte l te hf
  obtain ⟨e, hd1, hte, _, _⟩ := (hT dst _ hs).desc
  have hel := (hT _ _ hte).desc
  rw [hv] at hown
  rcases hown with ⟨_, h0⟩ | ⟨g, cap, cur, ev, _, hg, _⟩
  · omega
  have hsh : w.shape? g = some (te, cur.size) := by
    unfold World.shape?
    rw [hg]
  obtain ⟨f1, f2, f3⟩ := freeze_heap w g cur.size cur te hg
  have hrun : (execOp a.eval o).run P w = .ok (.value (a.eval x)) (w.freeze ⟨g, cur.size, none⟩ 1) := by
    unfold execOp
    simp only [hop]
    refine run_v ?_
    rw [ev]
    simp [convert, run_underlying hd1, run_underlying hel, markStringish, hsh]
  have hgb : w.grownBy (w.freeze ⟨g, cur.size, none⟩ 1) (some g) := by
    refine ⟨?_, ?_, ?_, by rw [f1]; exact Nat.le_refl _, fun k _ hk => f2 k (fun e => hk (by rw [e]))⟩ <;> (unfold World.freeze; rw [if_neg (by decide)])
  have hkp : Keeps w S (w.freeze ⟨g, cur.size, none⟩ 1) S := fun b o hs => ⟨hs, by
    by_cases e : b = g
    · subst e
      simp only [World.cell?, f3, hg]
    · simp only [World.cell?, f2 b e]⟩
  have hob : (a.tmps.getD lb undef).ownBlock = some g := by rw [hv, ev]; rfl
  have hb := hpr g hob
  have hlab : (fr lb).lab = some (lb, te) := by rw [hf]; rfl
  refine OpDoes.value hrun ⟨by rw [hdst, put_size], S, ?_, hkp⟩
  rw [hdst]
  have h2 := (h.spend lb).step hgb hkp (fun _ _ _ _ => Iff.rfl) (fun b o hs => by rw [f1]; exact h.slt b o hs) (fun g' e => by
    obtain rfl : g = g' := by simpa using e
    refine ⟨hb, fun l' e' hl' hc' => ?_, fun t s y ht hc' => ?_⟩
    · obtain ⟨k1, k2⟩ := spent_lab hl'
      exact h.dist lb l' te e' g hlab k1 (fun e => k2 e.symm) hob hc'
    · exact h.boxo t s y g lb te (spent_box ht) hc' hlab hob)
  exact h2.put_plain hd ((hr.keeps hkp).relab none) rfl

/-- A call of a function that takes an owned slice. -/
theorem callC_does (h : R base w0 S0 S fr a w) {o : Oper} {d : Nat} (hdst : o.dst = some d) (hd : d < a.tmps.size) {f : FuncId} {spec : List AV → Bool × AV} (hC : SoundCAt P f spec w S)
    {v0 : Value} {vals : List Value} {avs : List AV} {e : Sh} {l r : List (Den e)} {te : TypeId} {lb k : Nat} (hrun : (execOp a.eval o).run P w = (callFunc f (v0 :: vals).toArray).run P w)
    (hspec : spec (.dat (.sl e) l (some (0, te)) :: avs) = (true, .dat (.sl e) r (some (k, te)))) (hlb : fr lb = .dat (.sl e) l (some (lb, te))) (hv : a.tmps.getD lb undef = v0) (hargs : ArgsRd w S vals avs) :
    OpDoes P o a w (RK base w0 S0 a.tmps.size w S ((fr.spend lb).put d (.dat (.sl e) r (some (d, te))))) := by
  have hown : OwnRow w S base te e v0 l := by rw [← hv]; exact h.own lb e l te hlb
  have hrd : Rd w S v0 (.dat (.sl e) l none) := by
    have := h.rd lb
    rw [hv, hlb] at this
    exact this.relab none
  have hpr : ∀ b, v0.ownBlock = some b → ¬ base b := by
    obtain ⟨_, _, _, _, hp⟩ := hown
    exact hp
  have fin : ∀ v w', (∃ S', w.grownBy w' v0.ownBlock ∧ Keeps w S w' S' ∧ (∀ b o, b < w.heap.size → v0.ownBlock ≠ some b → (S' b o ↔ S b o)) ∧ (∀ b o, S' b o → b < w'.heap.size) ∧
      Rd w' S' v (.dat (.sl e) r none) ∧ OwnRow w' S' base te e v r ∧ ∀ b, v.ownBlock = some b → v0.ownBlock = some b ∨ w.heap.size ≤ b) →
      RK base w0 S0 a.tmps.size w S ((fr.spend lb).put d (.dat (.sl e) r (some (d, te)))) (a.put o.dst v) w' := by
    intro v w' ⟨S', k1, k2, k3, k4, k5, k6, k7⟩
    rw [hdst]
    exact ⟨put_size _ _ _, S', h.regained hd hlb hv hpr k1 k2 k3 k4 k6 k7 (k5.relab (some (d, te))), k2⟩
  rcases hC base v0 vals avs e l r te k hspec h.slt h.base_le hrd hown hargs with ⟨h1, h2⟩ | ⟨v, w', h1, h2⟩
  · exact OpDoes.enter (hrun.trans h1) (h2.mono fun e w' ⟨v, he, hp⟩ => ⟨v, he, fin v w' hp⟩)
  · exact OpDoes.value (hrun.trans h1) (fin v w' h2)

theorem special_ok (h : R base w0 S0 S fr a w) (hT : TyOk P E) (hF : FnsOk P E w S) {o : Oper} {d : Nat} (hdst : o.dst = some d) (hd : d < a.tmps.size) {fr' : Fr} (he : special E fr o d = some (true, fr')) :
    OpDoes P o a w (RK base w0 S0 a.tmps.size w S fr') := by
  have hasg : ∀ x, o.op = .assign x → (execOp a.eval o).run P w = .ok (.value (a.eval x)) w := fun x hop => by
    unfold execOp
    simp only [hop]
    rfl
  unfold special at he
  split at he
  · rename_i x hop
    split at he
    · split at he
      · rename_i e hs
        simp only [Option.some.injEq, Prod.mk.injEq, true_and] at he
        subst he
        refine OpDoes.value (hasg _ hop) ⟨by rw [hdst, put_size], S, ?_, Keeps.refl w S⟩
        rw [hdst]
        refine h.fresh hd (grew_refl h.slt) (rd_of_sl _ rfl (Nat.le_refl _) (cs := []) rfl (fun hh => absurd rfl hh)) (fun _ _ e => by cases e) (fun _ _ e => by cases e) (fun l te he => ?_)
        simp only [AV.lab, Option.some.injEq, Prod.mk.injEq] at he
        obtain ⟨rfl, rfl⟩ := he
        exact ⟨rfl, e, [], rfl, [], World.ownsRow_nil w _ _ _, rfl, fun b hb => by simp [Act.eval, Value.ownBlock] at hb, fun b hb => by simp [Act.eval, Value.ownBlock] at hb⟩
      · cases he
    · rename_i y
      split at he
      · rename_i s z hf
        split at he
        · cases he
        · rename_i hyd
          simp only [Option.some.injEq, Prod.mk.injEq, true_and] at he
          subst he
          refine OpDoes.value (hasg _ hop) ⟨by rw [hdst, put_size], S, ?_, Keeps.refl w S⟩
          rw [hdst]
          obtain ⟨b, hbox, hptr⟩ := h.box y s z hf
          have hylt : y < a.tmps.size := by
            rcases Nat.lt_or_ge y a.tmps.size with hlt | hge
            · exact hlt
            · unfold Array.getD at hptr
              rw [dif_neg (by omega)] at hptr
              cases hptr
          have h1 := h.put_plain (d := y) hylt (val := a.tmps.getD y undef) (v := .bad) (.bad _) rfl
          rw [put_self a y hylt] at h1
          have hother : ∀ t, (fr.put y .bad) t = .bad ∨ (t ≠ y ∧ (fr.put y .bad) t = (fr t).drop y) := fun t => by
            unfold Fr.put
            by_cases ht : t = y
            · exact .inl (by rw [if_pos ht])
            · exact .inr ⟨ht, by rw [if_neg ht]⟩
          have hevy : a.eval (.tmp y) = .pointer (some ⟨b, 0, none⟩) := hptr
          refine h1.put hd (.box _ _ _) ?_ ?_ ?_ ?_ ?_ ?_ ?_ ?_ ?_
          · intro s1 x1 l1 e1; cases e1
          · intro l1 e1 he1; simp [AV.lab] at he1
          · intro e1 x1 te1 he1; cases he1
          · intro te1 he1; simp [AV.lab] at he1
          · intro s1 x1 e1
            obtain ⟨rfl, e1⟩ := AV.box.inj e1
            obtain rfl := eq_of_heq e1
            exact ⟨b, hbox, hevy⟩
          · intro s1 x1 _ t s' x' b' _ hft hb' hc
            rw [hevy] at hb'
            obtain rfl : b = b' := by simpa using hb'
            rcases hother t with e1 | ⟨hne, e1⟩
            · rw [e1] at hft; cases hft
            · rw [e1] at hft
              exact h.boxd t y s' s x' z b (drop_box hft) hf hne hc hptr
          · intro s1 x1 _ b' l1 e1 hb' _ hl hc
            rw [hevy] at hb'
            obtain rfl : b = b' := by simpa using hb'
            rcases hother l1 with e2 | ⟨hne, e2⟩
            · rw [e2] at hl; simp [AV.lab] at hl
            · rw [e2] at hl
              exact h.boxo y s z b l1 e1 hf hptr (drop_lab hl).1 hc
          · intro te1 he1; simp [AV.lab] at he1
          · intro s1 p1 e1; cases e1
      · rename_i s z l te hf
        simp only [Option.some.injEq, Prod.mk.injEq, true_and] at he
        subst he
        obtain ⟨e, rfl⟩ := h.sls y s z _ hf
        have hcp := h.cp y l te (by rw [hf]; rfl)
        refine OpDoes.value (hasg _ hop) ⟨by rw [hdst, put_size], S, ?_, Keeps.refl w S⟩
        rw [hdst]
        have := h.give (d := d) (l := l) hd (e := e) (x := z) (te := te) (by rw [hcp.1, hf])
        rw [hcp.2] at this
        exact this
      · cases hr : rdo E fr true o.type (.tmp y) with
        | mk ok v =>
          rw [hr] at he
          simp only at he
          split at he
          · rename_i hok
            simp only [Option.some.injEq, Prod.mk.injEq] at he
            obtain ⟨rfl, rfl⟩ := he
            exact move_does h hdst hd hop hr hok
          · cases he
    · cases hr : rdo E fr true o.type x with
      | mk ok v =>
        rw [hr] at he
        simp only at he
        split at he
        · rename_i hok
          simp only [Option.some.injEq, Prod.mk.injEq] at he
          obtain ⟨rfl, rfl⟩ := he
          exact move_does h hdst hd hop hr hok
        · cases he
  · rename_i c hop
    obtain ⟨callee, args, argTypes⟩ := c
    split at he
    · rename_i x y t u hc hargs htypes
      simp only at hc hargs htypes
      subst hc
      obtain rfl : args = #[x, y] := Array.ext' hargs
      obtain rfl : argTypes = #[t, u] := Array.ext' htypes
      split at he
      · rename_i okx lb e l oky vy hx hy
        split at he
        · rename_i hs
          split at he
          · rename_i m hm
            simp only [Option.some.injEq, Prod.mk.injEq, Bool.and_eq_true, decide_eq_true_eq] at he
            obtain ⟨⟨⟨rfl, rfl⟩, hroom⟩, rfl⟩ := he
            exact append_does h hT hdst hd hop hx hy hs.1 hs.2.1 hs.2.2 hm hroom
          · cases he
        · cases he
      · cases he
    · rename_i f x xs t ts hc hargs htypes
      simp only at hc hargs htypes
      subst hc
      split at he
      · rename_i sp hsp
        split at he
        · rename_i ok e l lb te oks vs hx hv
          split at he
          · rename_i pre e' r k te' hspec
            split at he
            · rename_i hee
              subst hee
              split at he
              · rename_i hcond
                obtain ⟨rfl, hlen⟩ := hcond
                simp only [Option.some.injEq, Prod.mk.injEq, Bool.and_eq_true] at he
                obtain ⟨⟨⟨rfl, rfl⟩, rfl⟩, rfl⟩ := he
                obtain ⟨_, hcp⟩ := rdo_ok h hx
                obtain ⟨hf, hval⟩ := hcp.cp lb _ rfl
                have ha := argsV_ok h _ _ _ hlen hv
                refine callC_does h hdst hd (hF.2 f sp hsp) (v0 := a.eval x) (vals := xs.map a.eval) ?_ hspec hf hval ha
                have e1 : args.map a.eval = (a.eval x :: xs.map a.eval).toArray := by
                  apply Array.ext'
                  rw [Array.toList_map, hargs]
                  rfl
                simp only [execOp, hop, resolve, Sem.run_bind, Deferred.ofValue, Act.eval, Sem.run_pure, Result.andThen_ok, invoke, Array.append_empty, Array.empty_append, e1]
              · cases he
            · cases he
          · cases he
        · cases he
      · cases he
    · cases he
  · rename_i t hop
    split at he
    · rename_i s hs
      simp only [Option.some.injEq, Prod.mk.injEq, true_and] at he
      subst he
      exact alloc_does h hT hdst hd hop hs
    · cases he
  · rename_i t x hop
    split at he
    · rename_i ok s z ob hx
      split at he
      · simp only [Option.some.injEq, Prod.mk.injEq] at he
        obtain ⟨rfl, rfl⟩ := he
        exact box_does h hdst hd _ hop hx
      · cases he
    · cases he
  · rename_i src dst x hop
    split at he
    · rename_i ok s ob hx hs
      split at he
      · rename_i hc
        simp only [Option.some.injEq, Prod.mk.injEq, Bool.and_eq_true, decide_eq_true_eq] at he
        obtain ⟨⟨rfl, _⟩, rfl⟩ := he
        exact conv_does h hT hdst hd hop hx hs hc.1
      · cases he
    · rename_i ok l lb te hx hs
      split at he
      · rename_i hc
        subst hc
        simp only [Option.some.injEq, Prod.mk.injEq, Bool.and_eq_true, decide_eq_true_eq] at he
        obtain ⟨⟨rfl, hl⟩, rfl⟩ := he
        exact mark_does h hT hdst hd hop hx hs hl
      · cases he
    · cases he
  · cases he
end
end Go.Av
