import Derived.Test.YtejhjmmdachijaaDoorQpM
import Derived.Test.YtejhjmmdachijaaDoorQpLay
import Derived.Test.YtejhjmmdachijaaDoorQpNil
import Derived.Test.YtejhjmmdachijaaDoorAvE
import Derived.Lib.IndexEntry
import Derived.Laws.Externs
import Derived.KernelRfl
import Derived.WalkSmall
namespace Go.Av
set_option linter.unusedVariables false
set_option linter.unusedSimpArgs false
open Go.Proofs Go.RowKit
def TabsOk (w : World) (S : Stable) : Prop :=
  (∀ c, c < 256 → S 1 c ∧ w.cell? ⟨1, c, none⟩ = some (.int .u8 (Lib.firstT c))) ∧
  (∀ i, i < 16 → (S 2 (2 * i) ∧ w.cell? ⟨2, 2 * i, none⟩ = some (.int .u8 (Lib.accLo i))) ∧ (S 2 (2 * i + 1) ∧ w.cell? ⟨2, 2 * i + 1, none⟩ = some (.int .u8 (Lib.accHi i))))
theorem TabsOk.keeps {w w' : World} {S S' : Stable} (h : TabsOk w S) (hk : Keeps w S w' S') : TabsOk w' S' :=
  ⟨fun c hc => ⟨(hk _ _ (h.1 c hc).1).1, (hk _ _ (h.1 c hc).1).2.trans (h.1 c hc).2⟩,
   fun i hi => ⟨⟨(hk _ _ (h.2 i hi).1.1).1, (hk _ _ (h.2 i hi).1.1).2.trans (h.2 i hi).1.2⟩, (hk _ _ (h.2 i hi).2.1).1, (hk _ _ (h.2 i hi).2.1).2.trans (h.2 i hi).2.2⟩⟩
theorem TabsOk.tabs {w : World} {S : Stable} (h : TabsOk w S) : Lib.Utf8Tabs 1 2 w := ⟨fun c hc => (h.1 c hc).2, fun i hi => ⟨(h.2 i hi).1.2, (h.2 i hi).2.2⟩⟩
def glm (m0 : Int) : Nat → Option (Sigma Den) := fun g => if g = 0 then some ⟨.int .i64, m0⟩ else none
def Gm (m0 : Int) (w : World) (S : Stable) : Prop := TabsOk w S ∧ GlOk (glm m0) w S
def G (w : World) (S : Stable) : Prop := ∃ m0, Gm m0 w S
theorem Gm_stays (m0 : Int) : Stays (Gm m0) := fun _ _ _ _ hk h => ⟨h.1.keeps hk, h.2.keeps hk⟩
theorem G_stays : Stays G := fun w S w' S' hk ⟨m, h⟩ => ⟨m, Gm_stays m w S w' S' hk h⟩
theorem G_of (m0 : Int) {w : World} {S : Stable} (h : Gm m0 w S) : G w S := ⟨m0, h⟩
theorem G_to {w : World} {S : Stable} (h : G w S) : ∃ m0, Gm m0 w S := h
theorem gl_none (w : World) (S : Stable) (_ : G w S) : GlOk (fun _ => none) w S := fun g s x h => by cases h
theorem args2 {w : World} {S : Stable} {vals : List Value} {x y : AV} (h : ArgsRd w S vals [x, y]) : ∃ u v, vals = [u, v] ∧ Rd w S u x ∧ Rd w S v y := by
  match vals, h with
  | [], h => cases h.1
  | [_], h => cases h.1
  | [u, v], h => exact ⟨u, v, rfl, h.2 0 u x rfl rfl, h.2 1 v y rfl rfl⟩
  | _ :: _ :: _ :: _, h => have := h.1; simp at this
theorem args1 {w : World} {S : Stable} {vals : List Value} {x : AV} (h : ArgsRd w S vals [x]) : ∃ u, vals = [u] ∧ Rd w S u x := by
  match vals, h with
  | [], h => cases h.1
  | [u], h => exact ⟨u, rfl, h.2 0 u x rfl rfl⟩
  | _ :: _ :: _, h => have := h.1; simp at this
theorem grew_same {w : World} {S : Stable} (h : ∀ b o, S b o → b < w.heap.size) : Grew w S w S := ⟨Below.refl _ _, fun _ _ _ => Iff.rfl, h⟩
theorem resRd_int {n : Nat → Prop} {w : World} {S : Stable} {k : IntKind} {i : Int} : ResRd n w S (.int k i) (.int k i) := ⟨rd_int _ _ _ _, fun s x e => (by cases e), fun s p e => (by cases e), fun l te e => (by cases e)⟩
theorem z82_sound' {P : Program} {f : FuncId} {fn : Func} (hf : P.funcs[f]? = some fn) (hname : (fn.name == "runtime.NumGoroutine") = false) (hb : fn.body.isNone = true) (hn : Extern.findNext fn = none)
    (he : Extern.find fn = some Extern.BytealgIndexByte.indexByte) {w : World} {S : Stable} (hS : ∀ b o, S b o → b < w.heap.size) {vals : List Value} {a : List UInt8} {c : UInt8} {oa oc : Lab} (ha : ArgsRd w S vals [.dat .str a oa, .dat .byte c oc]) :
    Ran P f vals.toArray w fun v w' => ∃ S', Grew w S w' S' ∧ ResRd (· < w.heap.size) w' S' v (.int .i64 (Lib.indexByte a c)) := by
  obtain ⟨u, v, rfl, h1, h2⟩ := args2 ha
  obtain ⟨b, rfl, rfl⟩ := dat_str h1
  obtain rfl := dat_byte h2
  refine .inr ⟨.int .i64 (Lib.indexByte b.data.toList c), w, ?_, S, grew_same hS, resRd_int⟩
  rw [run_callFunc_extern hf hname hb hn he]
  show ((Extern.BytealgIndexByte.indexByte #[.string b, .int .u8 (c.toNat : Nat)]).run P w).andThen _ = _
  rw [Lib.run_indexByteString]
  simp [Result.andThen]
theorem z87_sound' {P : Program} {f : FuncId} {fn : Func} (hf : P.funcs[f]? = some fn) (hname : (fn.name == "runtime.NumGoroutine") = false) (hb : fn.body.isNone = true) (hn : Extern.findNext fn = none)
    (he : Extern.find fn = some Extern.BytealgIndex.index) {g : Nat} {m : Int} (hg : P.globals.findIdx? (·.name == "internal/bytealg.MaxLen") = some g) {w : World} {S : Stable} (hm : w.cell? ⟨g, 0, none⟩ = some (.int .i64 m))
    (hS : ∀ b o, S b o → b < w.heap.size) {vals : List Value} {a b : List UInt8} {oa oc : Lab} (ha : ArgsRd w S vals [.dat .str a oa, .dat .str b oc]) (h2 : 2 ≤ b.length) (h3 : (b.length : Int) ≤ m) (h4 : a.length ≤ 1048576) :
    Ran P f vals.toArray w fun v w' => ∃ S', Grew w S w' S' ∧ ResRd (· < w.heap.size) w' S' v (.int .i64 (Lib.index a b)) := by
  obtain ⟨u, v, rfl, h1, h5⟩ := args2 ha
  obtain ⟨x, rfl, rfl⟩ := dat_str h1
  obtain ⟨y, rfl, rfl⟩ := dat_str h5
  refine .inr ⟨.int .i64 (Lib.index x.data.toList y.data.toList), w, ?_, S, grew_same hS, resRd_int⟩
  rw [run_callFunc_extern hf hname hb hn he]
  show ((Extern.BytealgIndex.index #[.string x, .string y]).run P w).andThen _ = _
  rw [Lib.run_indexString x y w g m hg hm (by rw [Lib.size_eq]; exact h2) (by rw [Lib.size_eq]; exact h3) (by rw [Lib.size_eq]; omega)]
  simp [Result.andThen]
theorem ran_of_calls {P : Program} {f : FuncId} {fn : Func} {c : Code} (hf : P.funcs[f]? = some fn) (hb : fn.body = some c) (hname : (fn.name == "runtime.NumGoroutine") = false) {w : World} {S : Stable} (hS : ∀ b o, S b o → b < w.heap.size)
    {vals : Array Value} {v : Value} {r : AV} (h : Calls P f vals w fun e w' => e = .returned v ∧ Below w.heap.size w w') (hr : ∀ w', Below w.heap.size w w' → ResRd (· < w.heap.size) w' S v r) :
    Ran P f vals w fun v w' => ∃ S', Grew w S w' S' ∧ ResRd (· < w.heap.size) w' S' v r := by
  refine .inl ⟨?_, h.mono fun e w' ⟨he, hB⟩ => ⟨v, he, S, ⟨hB, fun _ _ _ => Iff.rfl, fun b o hs => Nat.lt_of_lt_of_le (hS b o hs) hB.size⟩, hr w' hB⟩⟩
  unfold callFunc
  rw [Sem.run_bind]
  have hname' : ¬ fn.name = "runtime.NumGoroutine" := by simpa using hname
  simp [program, Sem.run, hf, hname', hb]
theorem z86_sound' {w : World} {S : Stable} (hG : TabsOk w S) (hS : ∀ b o, S b o → b < w.heap.size) {vals : List Value} {p : List UInt8} {o : Lab} (ha : ArgsRd w S vals [.dat (.sl .byte) p o]) (hp : 0 < p.length) :
    Ran Tryd.prog 86 vals.toArray w fun v w' => ∃ S', Grew w S w' S' ∧ ResRd (· < w.heap.size) w' S' v (.tup [.dat (.int .i32) (z86 p).1 none, .dat (.int .i64) (z86 p).2 none]) := by
  obtain ⟨u, rfl, h1⟩ := args1 ha
  obtain ⟨A, cap, cs, ev, hcap, hch, hm⟩ := rd_sl h1
  have hcs := chunks_bytes hch
  obtain ⟨ad, rfl, hmem⟩ := hm (by rintro rfl; have e := congrArg List.length hcs; rw [List.length_map] at e; simp only [List.length_nil] at e; omega)
  obtain ⟨bb, oo, sp⟩ := ad
  have hsp := hmem.1
  simp only at hsp
  subst hsp
  subst ev
  let s : ByteArray := ⟨(List.toArray p)⟩
  have hsz : s.size = List.length p := by simp [s, ByteArray.size]
  have hcell : ∀ j, j < s.size → w.cell? ⟨bb, oo + j, none⟩ = some (.int .u8 (s.get! j).toNat) := fun j hj => by
    have hj' : j < List.length p := by omega
    have := (hmem.2 j (.int .u8 (p[j].toNat : Nat)) (by rw [hcs, List.getElem?_map, List.getElem?_eq_getElem hj']; rfl)).2
    rw [this]
    congr 3
    simp [s, ByteArray.get!, hj']
  have hc := Any7.utf8_DecodeRune Tryd.lays7_32 s bb oo cap w hG.tabs hcell
  rw [hsz] at hc
  have hd : Lib.decodeGo s = Lib.decodeL p := by
    unfold Lib.decodeGo
    rw [if_neg (by omega)]
    rfl
  rw [hd] at hc
  refine ran_of_calls (fn := Tryd.f86) (c := Tryd.f86.body.getD .skip) Tryd.func86 (by kernel_rfl) (by kernel_rfl) hS hc (fun w' _ => ⟨.tup _ _ (fun i c hi => .inl ?_) (fun i c hi => ?_), fun s x e => (by cases e), fun s p e => (by cases e), fun l te e => (by cases e)⟩)
  · have := (List.getElem?_eq_some_iff.1 hi).1
    simpa using this
  · match i, hi with
    | 0, hi => simp only [List.getElem?_cons_zero, Option.some.injEq] at hi; subst hi; exact rd_int _ _ _ _
    | 1, hi => simp only [List.getElem?_cons_succ, List.getElem?_cons_zero, Option.some.injEq] at hi; subst hi; exact rd_int _ _ _ _
    | n + 2, hi => simp at hi
end Go.Av
