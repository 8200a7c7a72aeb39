/-
  append: what the machine hands back, and where it lies.
-/
import Derived.Test.YtcfhfjjohmdaoaaDoorAvEff2
import Derived.Lib.AppendStr
namespace Go.Av
open Go.RowKit Go.Lib

/-- An append's result: a row that holds both; in the old row, or in a new one. -/
structure App (w : World) (base : Nat) (te : TypeId) (size : Nat) (v : Value) (n m : Nat) (xs news : List Value) (v' : Value) (w' : World) : Prop where
  own : w'.ownsRow base te size v' (n + m) (xs ++ news)
  loc : (v'.ownBlock = v.ownBlock ∧ w.grownBy w' v.ownBlock) ∨ (v'.ownBlock = some w.heap.size ∧ Below w.heap.size w w')

theorem below_of_grown_none {w w' : World} (h : w.grownBy w' none) : Below w.heap.size w w' := ⟨h.os, h.tape, h.output, h.size, fun k hk => h.block k hk (by simp)⟩
theorem below_drew_alloc (w : World) (o : Obj) : Below w.heap.size w (w.drew.alloc o) := ((Below.refl _ _).drew).alloc (Nat.le_refl _) o

section
variable {P : Program} (w : World)

theorem app_slice (base : Nat) (t ty e : TypeId) (i : TypeInfo) (z : Value) (size bytes : Nat) (ht : P.underlying t = some (.slice e)) (hi : P.info? e = some i) (hz : i.zero = some z)
    (hsize : i.size = size) (hby : i.bytes = bytes) (hzs : z.cells.size = size) (hsz : 0 < size)
    (v : Value) (n : Nat) (xs : List Value) (hown : w.ownsRow base e size v n xs)
    (a : Addr) (m c : Nat) (news : List Value) (hl : news.length = m * size) (hnews : ∀ j u, news[j]? = some u → w.cell? (a.add j) = some u) (h1 : ∀ u ∈ news, u.oneCell' = true)
    (h63 : n + m ≤ maxLen) (hbytes : (n + m) * bytes ≤ 140737488355328) (hbase : base ≤ w.heap.size) :
    ∃ v' w', (Builtin.append_ #[t, t] ty #[v, .slice (some a) m c]).run P w = .ok v' w' ∧ App w base e size v n m xs news v' w' := by
  obtain ⟨v', w', hr, h2, h3, h4, _⟩ := run_append_own_at (P := P) w base t ty e i z size bytes ht hi hz hsize hby hzs hsz v n xs hown a m c news hl hnews h1 h63 hbytes hbase
  refine ⟨v', w', hr, h2, ?_⟩
  have hsmall : n + m ≤ 9223372036854775807 := by simp only [maxLen] at h63; omega
  rcases hown.2 with ⟨rfl, rfl⟩ | ⟨g, cap, cur, rfl, hbg, hg, hnc, hcm, hcs, htake⟩
  · by_cases hm : m = 0
    · have := h4.2 ⟨rfl, hm⟩
      subst this
      exact .inl ⟨rfl, h3⟩
    · have hx := run_append_nil (P := P) w t ty e i z ht hi hz a m c news (by rw [hsize]; exact hl) hnews (by omega) (by omega) (by rw [hby]; rw [Nat.zero_add] at hbytes; omega)
      rw [hx] at hr
      simp only [Result.ok.injEq] at hr
      obtain ⟨rfl, rfl⟩ := hr
      exact .inr ⟨rfl, below_drew_alloc w _⟩
  · by_cases hroom : n + m ≤ cap
    · have hfit : n * i.size + news.length ≤ cur.size := by rw [hl, hcs, hsize, ← Nat.add_mul]; exact Nat.mul_le_mul_right _ hroom
      have hx := run_append_room (P := P) w t ty e i ht hi g n cap cur hg a m c news (by rw [hsize]; exact hl) hnews h1 hroom hfit
      rw [hx] at hr
      simp only [Result.ok.injEq] at hr
      obtain ⟨rfl, rfl⟩ := hr
      exact .inl ⟨rfl, h3⟩
    · have holds : ∀ j u, xs[j]? = some u → w.cell? ((⟨g, 0, none⟩ : Addr).add j) = some u := hown.cells (g := g) rfl
      have hx := run_append_grow (P := P) w t ty e i z ht hi hz ⟨g, 0, none⟩ n cap xs (by rw [hsize]; exact hown.1) holds a m c news (by rw [hsize]; exact hl) hnews (by omega) (by omega) (by rw [hby]; exact growslice_fits (by omega) hbytes)
      rw [hx] at hr
      simp only [Result.ok.injEq] at hr
      obtain ⟨rfl, rfl⟩ := hr
      exact .inr ⟨rfl, below_drew_alloc w _⟩

theorem app_none (base : Nat) (t ty e : TypeId) (i : TypeInfo) (size : Nat) (ht : P.underlying t = some (.slice e)) (hi : P.info? e = some i)
    (v : Value) (n : Nat) (xs : List Value) (hown : w.ownsRow base e size v n xs) (c : Nat) :
    (Builtin.append_ #[t, t] ty #[v, .slice none 0 c]).run P w = .ok v w ∧ App w base e size v n 0 xs [] v w := by
  refine ⟨?_, by simpa using hown, .inl ⟨rfl, World.grownBy.refl w _⟩⟩
  rcases hown.2 with ⟨rfl, rfl⟩ | ⟨g, cap, cur, rfl, _, _, hnc, _⟩
  · simp [Builtin.append_, run_underlying ht, sizeOf, typeInfo, hi, Builtin.lenOf, Builtin.firstCells]
  · simp [Builtin.append_, run_underlying ht, sizeOf, typeInfo, hi, Builtin.lenOf, Builtin.firstCells, hnc, storeCells]

theorem app_str (base : Nat) (t u ty e : TypeId) (i : TypeInfo) (ht : P.underlying t = some (.slice e)) (hu : P.underlying u = some .string) (hi : P.info? e = some i) (hz : i.zero = some (.int .u8 0))
    (hsize : i.size = 1) (hby : i.bytes = 1) (v : Value) (n : Nat) (xs : List Value) (hown : w.ownsRow base e 1 v n xs) (s : ByteArray)
    (h63 : n + s.size ≤ maxLen) (hbytes : n + s.size ≤ 140737488355328) (hbase : base ≤ w.heap.size) :
    ∃ v' w', (Builtin.append_ #[t, u] ty #[v, .string s]).run P w = .ok v' w' ∧ App w base e 1 v n s.size xs (strCells s) v' w' := by
  obtain ⟨v', w', hr, h2, h3, h4⟩ := run_append_own_string (P := P) w base t u ty e i ht hu hi hz hsize hby v n xs hown s h63 hbytes hbase
  refine ⟨v', w', hr, h2, ?_⟩
  have hsmall : n + s.size ≤ 9223372036854775807 := by simp only [maxLen] at h63; omega
  rcases hown.2 with ⟨rfl, rfl⟩ | ⟨g, cap, cur, rfl, hbg, hg, hnc, hcm, hcs, htake⟩
  · by_cases hm : s.size = 0
    · have := h4.2 ⟨rfl, hm⟩
      subst this
      exact .inl ⟨rfl, h3⟩
    · have hx := run_append_nil_string (P := P) w t u ty e i (.int .u8 0) ht hu hi hz s (by omega) (by omega) (by rw [hby]; omega)
      rw [hx] at hr
      simp only [Result.ok.injEq] at hr
      obtain ⟨rfl, rfl⟩ := hr
      exact .inr ⟨rfl, below_drew_alloc w _⟩
  · by_cases hroom : n + s.size ≤ cap
    · have hx := run_append_room_string (P := P) w t u ty e i ht hu hi hsize g n cap cur hg s hroom (by rw [Nat.mul_one] at hcs; omega)
      rw [hx] at hr
      simp only [Result.ok.injEq] at hr
      obtain ⟨rfl, rfl⟩ := hr
      exact .inl ⟨rfl, h3⟩
    · have holds : ∀ j u, xs[j]? = some u → w.cell? ((⟨g, 0, none⟩ : Addr).add j) = some u := hown.cells (g := g) rfl
      have hx := run_append_grow_string (P := P) w t u ty e i (.int .u8 0) ht hu hi hz ⟨g, 0, none⟩ n cap xs (by rw [hsize]; exact hown.1) holds s (by omega) (by omega) (by rw [hby]; exact growslice_fits (by omega) (by omega))
      rw [hx] at hr
      simp only [Result.ok.injEq] at hr
      obtain ⟨rfl, rfl⟩ := hr
      exact .inr ⟨rfl, below_drew_alloc w _⟩
end

section
variable {base : Nat → Prop} {w0 w : World} {S0 S : Stable} {fr : Fr} {a : Act} {P : Program} {E : Env}

/-- A row that was given away and has come back: nothing else that was there has turned. -/
theorem R.regained (h : R base w0 S0 S fr a w) {d lb : Nat} (hd : d < a.tmps.size) {e : Sh} {l r : List (Den e)} {te : TypeId} {v v' : Value} {w' : World} {S' : Stable}
    (hlb : fr lb = .dat (.sl e) l (some (lb, te))) (hv : a.tmps.getD lb undef = v) (hpr : ∀ b, v.ownBlock = some b → ¬ base b) (hgrown : w.grownBy w' v.ownBlock) (hkeep : Keeps w S w' S')
    (hS : ∀ b o, b < w.heap.size → v.ownBlock ≠ some b → (S' b o ↔ S b o)) (hlt : ∀ b o, S' b o → b < w'.heap.size)
    (hown' : OwnRow w' S' base te e v' r) (hnew' : ∀ b, v'.ownBlock = some b → v.ownBlock = some b ∨ w.heap.size ≤ b) (hrd : Rd w' S' v' (.dat (.sl e) r (some (d, te)))) :
    R base w0 S0 S' ((fr.spend lb).put d (.dat (.sl e) r (some (d, te)))) (a.put (some d) v') w' := by
  have hsp := h.spend lb
  have hothers : ∀ l' e', ((fr.spend lb) l').lab = some (l', e') → ∀ g, v.ownBlock = some g → (a.tmps.getD l' undef).ownBlock ≠ some g := fun l' e' hl' g hg => by
    obtain ⟨h1, hne⟩ := spent_lab hl'
    exact h.dist lb l' te e' g (by rw [hlb]; rfl) h1 (Ne.symm hne) (by rw [hv]; exact hg)
  have hothers' : ∀ t e1 l', ((fr.spend lb) t).lab = some (l', e1) → ∀ g, v.ownBlock = some g → (a.tmps.getD t undef).ownBlock ≠ some g := fun t e1 l' hl' g hg => by
    have h1 := hsp.cp t l' e1 hl'
    rw [← h1.2]
    exact hothers l' e1 (hsp.lab_own hl') g hg
  have hboxes : ∀ t s (x : Den s), (fr.spend lb) t = .box s x → ∀ g, v.ownBlock = some g → a.tmps.getD t undef ≠ .pointer (some ⟨g, 0, none⟩) := fun t s x hf g hg hc =>
    h.boxo t s x g lb te (spent_box hf) hc (by rw [hlb]; rfl) (by rw [hv]; exact hg)
  have hstep : R base w0 S0 S' (fr.spend lb) a w' := hsp.step hgrown hkeep hS hlt
    (fun g hg => ⟨hpr g hg, fun l' e' hl' => hothers' _ _ _ hl' g hg, fun t s x hf => hboxes t s x hf g hg⟩)
  refine hstep.put hd hrd ?_ ?_ ?_ ?_ ?_ ?_ ?_ ?_ ?_
  · intro s x l' he
    obtain ⟨rfl, _⟩ := AV.dat.inj he
    exact ⟨e, rfl⟩
  · intro l' e' he hne
    simp only [AV.lab, Option.some.injEq, Prod.mk.injEq] at he
    exact absurd he.1.symm hne
  · intro e1 x te1 he
    obtain ⟨h4, h5, h6⟩ := AV.dat.inj he
    obtain rfl : e = e1 := by simpa using h4
    obtain rfl := eq_of_heq h5
    simp only [Option.some.injEq, Prod.mk.injEq, true_and] at h6
    subst h6
    exact hown'
  · intro te1 _ l' e' b hne hl' hb hc
    rcases hnew' b hc with hb' | hge
    · exact hothers' _ _ _ hl' b hb' hb
    · have := hsp.own_lt' hl' hb
      omega
  · intro s x he; cases he
  · intro s x he; cases he
  · intro s x he; cases he
  · intro te1 _ t s x b hne hf hb hc
    rcases hnew' b hc with hb' | hge
    · exact hboxes t s x hf b hb' hb
    · have := hsp.box_lt hf hb
      omega
  · intro s p he; cases he

/-- Behind an append: the row's cells are stable as far as it goes; the slot owns it. -/
theorem R.appended (h : R base w0 S0 S fr a w) {d lb : Nat} (hd : d < a.tmps.size) {e : Sh} {l m : List (Den e)} {te : TypeId} {v v' : Value} {w' : World} {xs news : List Value}
    (hlb : fr lb = .dat (.sl e) l (some (lb, te))) (hv : a.tmps.getD lb undef = v) (hx : OwnRow w S base te e v l) (hxs : w.ownsRow 0 te e.size v l.length xs) (hch : Chunks (RdC w S e) l xs)
    (hnew : Chunks (RdC w S e) m news) (happ : App w 0 te e.size v l.length m.length xs news v' w') :
    ∃ S', R base w0 S0 S' ((fr.spend lb).put d (.dat (.sl e) (l ++ m) (some (d, te)))) (a.put (some d) v') w' ∧ Keeps w S w' S' := by
  let S' : Stable := fun b o => S b o ∨ (v'.ownBlock = some b ∧ o < (l ++ m).length * e.size)
  refine ⟨S', ?_⟩
  obtain ⟨xs', hxs', _, hst, hpr⟩ := hx
  obtain ⟨hown, hloc⟩ := happ
  have hlen : (l ++ m).length = l.length + m.length := by simp
  have hxl : xs.length = l.length * e.size := hxs.1
  have hle : l.length * e.size ≤ (l ++ m).length * e.size := Nat.mul_le_mul_right _ (by rw [hlen]; omega)
  have hvb : ∀ b, v.ownBlock = some b → ¬ base b ∧ b < w.heap.size := fun b hb => ⟨hpr b hb, (hxs.lt b hb).2⟩
  have hvb' : ∀ b, v'.ownBlock = some b → ¬ base b ∧ b < w'.heap.size := fun b hb => ⟨by
    rcases hloc with ⟨e1, _⟩ | ⟨e1, _⟩
    · exact hpr b (e1 ▸ hb)
    · intro hp
      rw [e1] at hb
      have := Option.some.inj hb
      have := h.base_le b hp
      omega, (hown.lt b hb).2⟩
  -- what was stable is kept
  have hkeep : Keeps w S w' S' := by
    intro b o hs
    refine ⟨.inl hs, ?_⟩
    have hb := h.slt b o hs
    rcases hloc with ⟨e1, g⟩ | ⟨_, g⟩
    · by_cases hbv : v.ownBlock = some b
      · have ho := (hst b hbv o).1 hs
        have hget : xs[o]? = some xs[o] := List.getElem?_eq_getElem (by omega)
        have c1 := hxs.cells hbv o _ hget
        have c2 := hown.cells (e1.trans hbv) o xs[o] (by rw [List.getElem?_append_left (by omega)]; exact hget)
        rw [add_eq _ _ rfl, Nat.zero_add] at c1 c2
        rw [c1, c2]
      · exact cell_of_block (g.block b hb (fun hc => hbv hc.symm)) o
    · exact cell_of_block (g.block b hb) o
  have hgrown : w.grownBy w' v.ownBlock := by
    rcases hloc with ⟨_, g⟩ | ⟨_, g⟩
    · exact g
    · exact grown_of_below g _
  have hS : ∀ b o, b < w.heap.size → v.ownBlock ≠ some b → (S' b o ↔ S b o) := fun b o hb hne => by
    refine ⟨fun hs => hs.elim id (fun hh => ?_), .inl⟩
    rcases hloc with ⟨e1, _⟩ | ⟨e1, _⟩
    · rw [e1] at hh; exact absurd hh.1 hne
    · rw [e1] at hh
      have := Option.some.inj hh.1
      omega
  have hown' : OwnRow w' S' base te e v' (l ++ m) := by
    refine ⟨xs ++ news, by rw [hlen]; exact hown, (hch.append hnew).mono (RdC.keeps hkeep e), fun b hb o => ?_, fun b hb => (hvb' b hb).1⟩
    constructor
    · rintro (hs | hs)
      · rcases hloc with ⟨e1, _⟩ | ⟨e1, _⟩
        · exact Nat.lt_of_lt_of_le ((hst b (e1 ▸ hb) o).1 hs) hle
        · rw [e1] at hb
          have := Option.some.inj hb
          have := h.slt b o hs
          omega
      · exact hs.2
    · exact fun hs => .inr ⟨hb, hs⟩
  have hnew' : ∀ b, v'.ownBlock = some b → v.ownBlock = some b ∨ w.heap.size ≤ b := fun b hb => by
    rcases hloc with ⟨e1, _⟩ | ⟨e1, _⟩
    · exact .inl (e1 ▸ hb)
    · exact .inr (by rw [e1] at hb; exact Nat.le_of_eq (Option.some.inj hb))
  have hrd : Rd w' S' v' (.dat (.sl e) (l ++ m) (some (d, te))) := by
    rcases hown.2 with ⟨rfl, h0⟩ | ⟨g, cap, cur, rfl, hbg, hg, hnc, hcm, hcs, htake⟩
    · have hnil : l ++ m = [] := List.eq_nil_of_length_eq_zero (by rw [hlen]; exact h0)
      rw [hnil]
      exact rd_of_sl _ rfl (Nat.le_refl _) (cs := []) rfl (fun hh => absurd rfl hh)
    · refine rd_of_sl _ hlen.symm (by rw [hlen]; exact hnc) ((hch.append hnew).mono (RdC.keeps hkeep e)) (fun _ => ⟨_, rfl, rfl, fun i u hu => ⟨.inr ⟨rfl, ?_⟩, ?_⟩⟩)
      · have h1 := (List.getElem?_eq_some_iff.1 hu).1
        have h2 := hown.1
        rw [← hlen] at h2
        show 0 + i < _
        omega
      · have c2 := hown.cells (g := g) rfl i u hu
        rw [add_eq _ _ rfl] at c2
        exact c2
  exact ⟨h.regained hd hlb hv hpr hgrown hkeep hS (fun b o hs => hs.elim (fun k => Nat.lt_of_lt_of_le (h.slt b o k) hgrown.size) (fun k => (hvb' b k.1).2)) hown' hnew' hrd, hkeep⟩
end
end Go.Av
