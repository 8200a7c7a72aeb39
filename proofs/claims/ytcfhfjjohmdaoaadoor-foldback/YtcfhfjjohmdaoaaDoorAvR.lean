/-
  What it means that a state of the machine reads as a frame of values; how it is kept.
-/
import Derived.Test.YtcfhfjjohmdaoaaDoorAvStep
namespace Go.Av
open Go.RowKit

/-- A value of the machine reads as an 'AV'. -/
inductive Rd (w : World) (S : Stable) : Value → AV → Prop
  | bad (v : Value) : Rd w S v .bad
  | dat (s : Sh) (x : Den s) (o : Lab) (v : Value) (h : RdV w S s x v) : Rd w S v (.dat s x o)
  | tup (vs : Array Value) (avs : List AV) (hl : ∀ (i : Nat) (c : AV), avs[i]? = some c → i < vs.size ∨ ∃ v, c = .cnd false v)
      (hr : ∀ (i : Nat) (c : AV), avs[i]? = some c → Rd w S (vs.getD i undef) c) : Rd w S (.tuple vs) (.tup avs)
  | adr (s : Sh) (x : Den s) (ad : Addr) (cs : List Value) (h : RdC w S s x cs) (hm : ad.spot = none ∧ (cs ≠ [] → MemAt w S ad cs)) : Rd w S (.pointer (some ad)) (.adr s x)
  | box (v : Value) (s : Sh) (x : Den s) : Rd w S v (.box s x)
  | badr (v : Value) (s : Nat) (p : List Nat) : Rd w S v (.badr s p)
  | fn (f : FuncId) (caps : Array Value) (avs : List AV) (hl : caps.size = avs.length)
      (hr : ∀ (i : Nat) (c : AV), avs[i]? = some c → Rd w S (caps.getD i undef) c) : Rd w S (.func (.func f) #[] caps) (.fn f avs)
  | nilIface : Rd w S .nilIface .nilIface
  | iface (t : TypeId) (v : Value) (av : AV) (h : Rd w S v av) : Rd w S (.iface t v) (.iface t av)
  | cnd (v : Value) (g : Bool) (av : AV) (h0 : g = false → v = undef) (h : g = true → Rd w S v av) : Rd w S v (.cnd g av)
  | pv (v : Value) (p : PSh) (x : Den p.sh) (h : Option (List PStep)) : Rd w S v (.pv p x h)
  | pbox (v : Value) (p : PSh) (x : Den p.sh) (h : Option (List PStep)) : Rd w S v (.pbox p x h)
  | padr (v : Value) (s : Nat) (path : List PStep) : Rd w S v (.padr s path)
  | pval (v : Value) (s : Nat) (path : List PStep) : Rd w S v (.pval s path)
  | itr (v : Value) (s : List UInt8) (pos : Nat) : Rd w S v (.itr s pos)

theorem Rd.keeps {w w' : World} {S S' : Stable} {v : Value} {av : AV} (h : Rd w S v av) (hk : Keeps w S w' S') : Rd w' S' v av := by
  induction h with
  | bad v => exact .bad v
  | dat s x o v h => exact .dat s x o v (h.keeps hk)
  | tup vs avs hl _ ih => exact .tup vs avs hl ih
  | adr s x ad cs h hm => exact .adr s x ad cs (RdC.keeps hk s x cs h) ⟨hm.1, fun h0 => (hm.2 h0).keeps hk⟩
  | box v s x => exact .box v s x
  | badr v s p => exact .badr v s p
  | fn f caps avs hl _ ih => exact .fn f caps avs hl ih
  | nilIface => exact .nilIface
  | iface t v av _ ih => exact .iface t v av ih
  | cnd v g av h0 _ ih => exact .cnd v g av h0 ih
  | pv v p x h => exact .pv v p x h
  | pbox v p x h => exact .pbox v p x h
  | padr v s p => exact .padr v s p
  | pval v s p => exact .pval v s p
  | itr v s p => exact .itr v s p

theorem Rd.relab {w : World} {S : Stable} {v : Value} {av : AV} (h : Rd w S v av) (o : Lab) : Rd w S v (av.relab o) := by
  cases h with
  | dat s x o' v h => exact .dat s x o v h
  | bad v => exact .bad v
  | tup vs avs hl hr => exact .tup vs avs hl hr
  | adr s x ad cs h hm => exact .adr s x ad cs h hm
  | box v s x => exact .box v s x
  | badr v s p => exact .badr v s p
  | fn f caps avs hl hr => exact .fn f caps avs hl hr
  | nilIface => exact .nilIface
  | iface t v av h => exact .iface t v av h
  | cnd v g av h0 h => exact .cnd v g av h0 h
  | pv v p x h => exact .pv v p x h
  | pbox v p x h => exact .pbox v p x h
  | padr v s p => exact .padr v s p
  | pval v s p => exact .pval v s p
  | itr v s p => exact .itr v s p

theorem Rd.strip {w : World} {S : Stable} {v : Value} {av : AV} (h : Rd w S v av) : Rd w S v av.strip := by
  cases av <;> first | exact .bad v | exact h | exact h.relab none

/-! ### Frames -/

theorem Rd.drop {w : World} {S : Stable} {v : Value} {av : AV} (h : Rd w S v av) (d : Nat) : Rd w S v (av.drop d) := by
  cases av with
  | dat s x o => exact h.relab _
  | badr s p =>
    show Rd w S v (if s = d then .bad else .badr s p)
    split
    · exact .bad v
    · exact h
  | _ => exact h
theorem Rd.spent {w : World} {S : Stable} {v : Value} {av : AV} (h : Rd w S v av) (d : Nat) : Rd w S v (av.spent d) := by
  cases av with
  | dat s x o => exact h.relab _
  | _ => exact h

/-- A world in which the protected blocks are as they were. -/
structure Kept (Pr : Nat → Prop) (w w' : World) : Prop where
  os : w'.os = w.os
  tape : w'.tape = w.tape
  output : w'.output = w.output
  size : w.heap.size ≤ w'.heap.size
  block : ∀ k, Pr k → w'.heap[k]? = w.heap[k]?

theorem Kept.refl (Pr : Nat → Prop) (w : World) : Kept Pr w w := ⟨rfl, rfl, rfl, Nat.le_refl _, fun _ _ => rfl⟩

theorem Kept.grown {Pr : Nat → Prop} {a w w' : World} {row : Option Nat} (h : Kept Pr a w) (hg : w.grownBy w' row) (hB : ∀ k, Pr k → k < w.heap.size) (hr : ∀ k, row = some k → ¬ Pr k) : Kept Pr a w' :=
  ⟨hg.os.trans h.os, hg.tape.trans h.tape, hg.output.trans h.output, Nat.le_trans h.size hg.size, fun k hk => (hg.block k (hB k hk) (fun e => hr k e.symm hk)).trans (h.block k hk)⟩

/-- A row of its own: appended to by nobody else; just its cells are stable. -/
def OwnRow (w : World) (S : Stable) (base : Nat → Prop) (te : TypeId) (e : Sh) (v : Value) (l : List (Den e)) : Prop :=
  ∃ xs : List Value, w.ownsRow 0 te e.size v l.length xs ∧ Chunks (RdC w S e) l xs ∧ (∀ b, v.ownBlock = some b → ∀ o, (S b o ↔ o < l.length * e.size)) ∧ ∀ b, v.ownBlock = some b → ¬ base b

/-- A box of its own. -/
def BoxAt (w : World) (S : Stable) (base : Nat → Prop) (b : Nat) (s : Sh) (x : Den s) : Prop :=
  ¬ base b ∧ (∀ o, ¬ S b o) ∧ ∃ (c : Array Value) (T : TypeId), w.heap[b]? = some (.cells c T (0, 0)) ∧ RdC w S s x c.toList

/-- THE STATE OF THE MACHINE READS AS THE FRAME. -/
structure R (base : Nat → Prop) (w0 : World) (S0 : Stable) (S : Stable) (fr : Fr) (a : Act) (w : World) : Prop where
  below : Kept base w0 w
  base_le : ∀ k, base k → k < w.heap.size
  old : ∀ b o, base b → (S b o ↔ S0 b o)
  kp : Keeps w0 S0 w S
  slt : ∀ b o, S b o → b < w.heap.size
  dfr : a.defers = []
  rd : ∀ t, Rd w S (a.tmps.getD t undef) (fr t)
  cp : ∀ t l e, (fr t).lab = some (l, e) → fr l = fr t ∧ a.tmps.getD l undef = a.tmps.getD t undef
  sls : ∀ t s (x : Den s) l, fr t = .dat s x (some l) → ∃ e, s = .sl e
  own : ∀ t e (x : List (Den e)) te, fr t = .dat (.sl e) x (some (t, te)) → OwnRow w S base te e (a.tmps.getD t undef) x
  dist : ∀ l l' e e' b, (fr l).lab = some (l, e) → (fr l').lab = some (l', e') → l ≠ l' → (a.tmps.getD l undef).ownBlock = some b → (a.tmps.getD l' undef).ownBlock ≠ some b
  box : ∀ t s (x : Den s), fr t = .box s x → ∃ b, BoxAt w S base b s x ∧ a.tmps.getD t undef = .pointer (some ⟨b, 0, none⟩)
  boxd : ∀ t t' s s' (x : Den s) (x' : Den s') b, fr t = .box s x → fr t' = .box s' x' → t ≠ t' → a.tmps.getD t undef = .pointer (some ⟨b, 0, none⟩) → a.tmps.getD t' undef ≠ .pointer (some ⟨b, 0, none⟩)
  boxo : ∀ t s (x : Den s) b l e, fr t = .box s x → a.tmps.getD t undef = .pointer (some ⟨b, 0, none⟩) → (fr l).lab = some (l, e) → (a.tmps.getD l undef).ownBlock ≠ some b
  badr : ∀ t s p, fr t = .badr s p → ∃ u y z b, fr s = .box u y ∧ a.tmps.getD s undef = .pointer (some ⟨b, 0, none⟩) ∧ getPath u y p = some z ∧ ∃ o, pathOff u p = some o ∧ a.tmps.getD t undef = .pointer (some ⟨b, o, none⟩)

end Go.Av
