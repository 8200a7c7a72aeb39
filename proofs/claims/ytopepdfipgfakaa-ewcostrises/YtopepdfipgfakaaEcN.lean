/-
  Contracts of what has no body in the program, and of bytes.Clone.
-/
import Derived.Test.YtopepdfipgfakaaEcM
import Derived.Test.YtopepdfipgfakaaEcLay
import Derived.Test.YtopepdfipgfakaaAvD
import Derived.Lib.IndexEntry
import Derived.Laws.Externs
import Derived.KernelRfl
namespace Go.Av
open Go.Proofs Go.RowKit

theorem args2 {w : World} {S : Stable} {vals : List Value} {x y : AV} (h : ArgsRd w S vals [x, y]) : ∃ u v, vals = [u, v] ∧ Rd w S u x ∧ Rd w S v y := by
  match vals, h with
  | [], h => cases h.1
  | [_], h => cases h.1
  | [u, v], h => exact ⟨u, v, rfl, h.2 0 u x rfl rfl, h.2 1 v y rfl rfl⟩
  | _ :: _ :: _ :: _, h => have := h.1; simp at this
theorem args1 {w : World} {S : Stable} {vals : List Value} {x : AV} (h : ArgsRd w S vals [x]) : ∃ u, vals = [u] ∧ Rd w S u x := by
  match vals, h with
  | [], h => cases h.1
  | [u], h => exact ⟨u, rfl, h.2 0 u x rfl rfl⟩
  | _ :: _ :: _, h => have := h.1; simp at this

theorem grew_same {w : World} {S : Stable} (h : ∀ b o, S b o → b < w.heap.size) : Grew w S w S := ⟨Below.refl _ _, fun _ _ _ => Iff.rfl, h⟩

/-- A number that is handed back. -/
theorem resRd_int {n : Nat → Prop} {w : World} {S : Stable} {k : IntKind} {i : Int} : ResRd n w S (.int k i) (.int k i) := ⟨rd_int _ _ _ _, fun s x e => (by cases e), fun s p e => (by cases e), fun l te e => (by cases e)⟩

theorem internal_bytealg_IndexByteString_sound' {P : Program} {f : FuncId} {fn : Func} (hf : P.funcs[f]? = some fn) (hname : (fn.name == "runtime.NumGoroutine") = false) (hb : fn.body.isNone = true) (hn : Extern.findNext fn = none)
    (he : Extern.find fn = some Extern.BytealgIndexByte.indexByte) {w : World} {S : Stable} (hS : ∀ b o, S b o → b < w.heap.size) {vals : List Value} {a : List UInt8} {c : UInt8} {oa oc : Lab} (ha : ArgsRd w S vals [.dat .str a oa, .dat .byte c oc]) :
    Ran P f vals.toArray w fun v w' => ∃ S', Grew w S w' S' ∧ ResRd (· < w.heap.size) w' S' v (.int .i64 (Lib.indexByte a c)) := by
  obtain ⟨u, v, rfl, h1, h2⟩ := args2 ha
  obtain ⟨b, rfl, rfl⟩ := dat_str h1
  obtain rfl := dat_byte h2
  refine .inr ⟨.int .i64 (Lib.indexByte b.data.toList c), w, ?_, S, grew_same hS, resRd_int⟩
  rw [run_callFunc_extern hf hname hb hn he]
  show ((Extern.BytealgIndexByte.indexByte #[.string b, .int .u8 (c.toNat : Nat)]).run P w).andThen _ = _
  rw [Lib.run_indexByteString]
  simp [Result.andThen]

/-- A call that runs by a contract of the library's. -/
theorem ran_of_calls {P : Program} {f : FuncId} {fn : Func} {c : Code} (hf : P.funcs[f]? = some fn) (hb : fn.body = some c) (hname : (fn.name == "runtime.NumGoroutine") = false) {w : World} {S : Stable} (hS : ∀ b o, S b o → b < w.heap.size)
    {vals : Array Value} {v : Value} {r : AV} (h : Calls P f vals w fun e w' => e = .returned v ∧ Below w.heap.size w w') (hr : ∀ w', Below w.heap.size w w' → ResRd (· < w.heap.size) w' S v r) :
    Ran P f vals w fun v w' => ∃ S', Grew w S w' S' ∧ ResRd (· < w.heap.size) w' S' v r := by
  refine .inl ⟨?_, h.mono fun e w' ⟨he, hB⟩ => ⟨v, he, S, ⟨hB, fun _ _ _ => Iff.rfl, fun b o hs => Nat.lt_of_lt_of_le (hS b o hs) hB.size⟩, hr w' hB⟩⟩
  unfold callFunc
  rw [Sem.run_bind]
  have hname' : ¬ fn.name = "runtime.NumGoroutine" := by simpa using hname
  simp [program, Sem.run, hf, hname', hb]

/-- A row of octets of the call's own, handed back. -/
theorem res_row {w w' : World} {S : Stable} (hS : ∀ b o, S b o → b < w.heap.size) {p : List UInt8} {te : TypeId} {v : Value} (hB : Below w.heap.size w w')
    (ho : w'.ownsRow w.heap.size te 1 v p.length (p.map fun c => Value.int .u8 (c.toNat : Nat))) :
    ∃ S', Grew w S w' S' ∧ ResRd (· < w.heap.size) w' S' v (.dat (.sl .byte) p (some (0, te))) := by
  let S' : Stable := fun b o => S b o ∨ (v.ownBlock = some b ∧ o < p.length)
  have hch : ∀ l : List UInt8, Chunks (RdC w' S' .byte) l (l.map fun c => Value.int .u8 (c.toNat : Nat)) := fun l => by
    induction l with
    | nil => rfl
    | cons c l ih => exact ⟨[_], _, rfl, rfl, ih⟩
  have hnew : ∀ b, v.ownBlock = some b → w.heap.size ≤ b ∧ b < w'.heap.size := fun b hb => ho.lt b hb
  refine ⟨S', ⟨hB, fun b o hb => ⟨fun hh => hh.elim id (fun hh => by have := (hnew b hh.1).1; omega), .inl⟩, fun b o hh => hh.elim (fun hh => Nat.lt_of_lt_of_le (hS b o hh) hB.size) (fun hh => (hnew b hh.1).2)⟩, ?_⟩
  refine ⟨?_, fun s x e => (by cases e), fun s q e => (by cases e), fun l te' e => ?_⟩
  · rcases ho.2 with ⟨rfl, h0⟩ | ⟨g, cap, cur, rfl, h1, h2, h3, h4, h5, h6⟩
    · have : p = [] := List.eq_nil_of_length_eq_zero h0
      subst this
      exact .dat _ _ _ _ ⟨none, 0, [], rfl, Nat.le_refl _, rfl, fun h => absurd rfl h⟩
    · refine .dat _ _ _ _ ⟨some ⟨g, 0, none⟩, cap, _, rfl, h3, hch p, fun _ => ⟨⟨g, 0, none⟩, rfl, rfl, fun i u hu => ⟨.inr ⟨rfl, ?_⟩, ?_⟩⟩⟩
      · have := (List.getElem?_eq_some_iff.1 hu).1
        rw [List.length_map] at this
        show 0 + i < p.length
        omega
      · have hi := (List.getElem?_eq_some_iff.1 hu).1
        rw [List.length_map] at hi
        rw [← h6, Nat.mul_one, List.getElem?_take_of_lt hi, Array.getElem?_toList] at hu
        simp only [World.cell?, h2, Option.isSome_none, Bool.false_eq_true, if_false]
        rw [show 0 + i = i by omega]
        exact hu
  · simp only [AV.lab, Option.some.injEq, Prod.mk.injEq] at e
    obtain ⟨rfl, rfl⟩ := e
    refine ⟨.byte, p, rfl, _, ⟨ho.1, ?_⟩, hch p, fun b hb o => ?_, fun b hb => by have := (hnew b hb).1; omega⟩
    · rcases ho.2 with h | ⟨g, cap, cur, rfl, h1, h2⟩
      · exact .inl h
      · exact .inr ⟨g, cap, cur, rfl, Nat.zero_le _, h2⟩
    · constructor
      · rintro (hh | hh)
        · have := hS b o hh
          have := (hnew b hb).1
          omega
        · simpa [Sh.size] using hh.2
      · intro hh
        exact .inr ⟨hb, by simpa [Sh.size] using hh⟩

theorem bytes_Clone_sound' {w : World} {S : Stable} (hS : ∀ b o, S b o → b < w.heap.size) {vals : List Value} {p : List UInt8} {o : Lab} (ha : ArgsRd w S vals [.dat (.sl .byte) p o]) (hp : p.length ≤ 1048576) :
    Ran Try.prog 77 vals.toArray w fun v w' => ∃ S', Grew w S w' S' ∧ ResRd (· < w.heap.size) w' S' v (.dat (.sl .byte) p (some (0, 5))) := by
  obtain ⟨u, rfl, h1⟩ := args1 ha
  obtain ⟨A, cap, cs, ev, hcap, hch, hm⟩ := rd_sl h1
  have hcs := chunks_bytes hch
  subst ev
  have hent : (callFunc 77 #[.slice A (List.length p) cap]).run Try.prog w = .ok (.enter 77 #[.slice A (List.length p) cap]) w := enters_of (c := Try.f77.body.getD .skip) Try.func77 (by kernel_rfl) (by kernel_rfl) _ _
  cases A with
  | none =>
    have hp0 : p = [] := by
      cases p with
      | nil => rfl
      | cons c r => obtain ⟨ad, e, _⟩ := hm (by rw [hcs]; simp); cases e
    subst hp0
    refine .inl ⟨hent, (Any.bytes_Clone_nil Try.laysSlK4 _ cap w).mono ?_⟩
    rintro e w' ⟨rfl, rfl⟩
    exact ⟨_, rfl, res_row hS (Below.refl _ _) ⟨rfl, .inl ⟨rfl, rfl⟩⟩⟩
  | some ad =>
    have hcell : ∀ i, i < List.length p → w.cell? (ad.add i) = some (.int .u8 ((p.map fun c => (c.toNat : Int)).getD i 0)) := fun i hi => by
      obtain ⟨ad', e, hmem⟩ := hm (by rw [hcs]; rintro e; have := congrArg List.length e; rw [List.length_map] at this; simp only [List.length_nil] at this; omega)
      cases e
      rw [add_eq ad i hmem.1]
      have := (hmem.2 i (.int .u8 (p[i].toNat : Nat)) (by rw [hcs, List.getElem?_map, List.getElem?_eq_getElem hi]; rfl)).2
      rw [this]
      simp [List.getD, List.getElem?_map, List.getElem?_eq_getElem hi]
    refine .inl ⟨hent, (Any.bytes_Clone_at Try.laysSlK4 ad (List.length p) cap (p.map fun c => (c.toNat : Int)) w (by simp) (by omega) hcell).mono ?_⟩
    rintro e w' ⟨v', rfl, ho, _, hB⟩
    refine ⟨v', rfl, res_row hS hB ?_⟩
    rw [List.map_map] at ho
    exact ho

end Go.Av
