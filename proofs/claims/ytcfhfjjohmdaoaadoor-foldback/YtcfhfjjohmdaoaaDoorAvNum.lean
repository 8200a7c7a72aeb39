/-
  Numbers, texts and conversions: what the machine computes reads as what the reading says.
-/
import Derived.Test.YtcfhfjjohmdaoaaDoorAvKeep
import Derived.Laws.BitsLemmas
import Derived.Laws.Concat
namespace Go.Av
open Go.RowKit

theorem u8_add (a b : UInt8) : IntKind.u8.wrap ((a.toNat : Int) + b.toNat) = ((a + b).toNat : Int) := by
  rw [IntKind.wrap_u8, UInt8.toNat_add]; omega
theorem u8_sub (a b : UInt8) : IntKind.u8.wrap ((a.toNat : Int) - b.toNat) = ((a - b).toNat : Int) := by
  rw [IntKind.wrap_u8, UInt8.toNat_sub]; have := a.toNat_lt; have := b.toNat_lt; omega
theorem u8_mul (a b : UInt8) : IntKind.u8.wrap ((a.toNat : Int) * b.toNat) = ((a * b).toNat : Int) := by
  rw [IntKind.wrap_u8, UInt8.toNat_mul, ← Int.natCast_mul]; omega
theorem u8_div (a b : UInt8) : IntKind.u8.wrap ((a.toNat : Int).tdiv b.toNat) = ((a / b).toNat : Int) := by
  rw [IntKind.wrap_u8, UInt8.toNat_div]
  have h1 : (a.toNat : Int).tdiv b.toNat = ((a.toNat / b.toNat : Nat) : Int) := by rw [Int.ofNat_tdiv]
  rw [h1]
  have h2 : a.toNat / b.toNat ≤ a.toNat := Nat.div_le_self _ _
  have h3 := a.toNat_lt
  generalize a.toNat / b.toNat = q at *
  omega
theorem u8_mod (a b : UInt8) : (a.toNat : Int).tmod b.toNat = ((a % b).toNat : Int) := by
  rw [UInt8.toNat_mod, Int.ofNat_tmod]
theorem u8_ofInt (a : UInt8) : (BitVec.ofInt 8 (a.toNat : Int)) = a.toBitVec := by
  rw [BitVec.ofInt_natCast]
  apply BitVec.eq_of_toNat_eq
  simp
theorem u8_bits (a b : UInt8) (op : BinOp) (r : UInt8)
    (h : (match op with | .and => a.toBitVec &&& b.toBitVec | .or => a.toBitVec ||| b.toBitVec | .xor => a.toBitVec ^^^ b.toBitVec | .andNot => a.toBitVec &&& ~~~b.toBitVec | _ => 0) = r.toBitVec)
    (hop : op = .and ∨ op = .or ∨ op = .xor ∨ op = .andNot) :
    bits op .u8 (a.toNat : Int) b.toNat = (r.toNat : Int) := by
  have hr : (r.toBitVec.toNat : Int) = (r.toNat : Int) := rfl
  have hw : IntKind.u8.wrap (r.toNat : Int) = (r.toNat : Int) := by rw [IntKind.wrap_u8]; have := r.toNat_lt; omega
  have key : ∀ x : BitVec 8, x = r.toBitVec → IntKind.u8.wrap (x.toNat : Int) = (r.toNat : Int) := fun x hx => by rw [hx, hr, hw]
  have ea : BitVec.ofInt IntKind.u8.bits (a.toNat : Int) = a.toBitVec := u8_ofInt a
  have eb : BitVec.ofInt IntKind.u8.bits (b.toNat : Int) = b.toBitVec := u8_ofInt b
  rcases hop with rfl | rfl | rfl | rfl
  all_goals
    unfold bits
    rw [ea, eb]
    exact key _ h

/-- A run of an operation that yields a value and leaves the world. -/
abbrev YV (P : Program) (s : Sem Value) (val : Value) : Prop := ∀ w, s.run P w = .ok val w

theorem dat_int {w : World} {S : Stable} {k : IntKind} {n : Int} {o : Lab} {v : Value} (h : Rd w S v (.dat (.int k) n o)) : v = .int k n := by
  cases h with
  | dat _ _ _ _ h => simpa [RdV, Sh.agg, RdC] using h
theorem dat_byte {w : World} {S : Stable} {n : UInt8} {o : Lab} {v : Value} (h : Rd w S v (.dat .byte n o)) : v = .int .u8 (n.toNat : Nat) := by
  cases h with
  | dat _ _ _ _ h => simpa [RdV, Sh.agg, RdC] using h
theorem dat_bool {w : World} {S : Stable} {b : Bool} {o : Lab} {v : Value} (h : Rd w S v (.dat .bool b o)) : v = .bool b := by
  cases h with
  | dat _ _ _ _ h => simpa [RdV, Sh.agg, RdC] using h
theorem dat_str {w : World} {S : Stable} {s : List UInt8} {o : Lab} {v : Value} (h : Rd w S v (.dat .str s o)) : ∃ b : ByteArray, v = .string b ∧ b.data.toList = s := by
  cases h with
  | dat _ _ _ _ h => simpa [RdV, Sh.agg, RdC] using h
theorem rd_int (w : World) (S : Stable) (k : IntKind) (n : Int) : Rd w S (.int k n) (.int k n) := .dat _ _ _ _ (by simp [RdV, Sh.agg, RdC])
theorem rd_byte (w : World) (S : Stable) (n : UInt8) : Rd w S (.int .u8 (n.toNat : Nat)) (.byte n) := .dat _ _ _ _ (by simp [RdV, Sh.agg, RdC])
theorem rd_bool (w : World) (S : Stable) (b : Bool) : Rd w S (.bool b) (.bool b) := .dat _ _ _ _ (by simp [RdV, Sh.agg, RdC])
theorem rd_str (w : World) (S : Stable) (b : ByteArray) : Rd w S (.string b) (.str b.data.toList) := .dat _ _ _ _ (by simp [RdV, Sh.agg, RdC])

section
variable {P : Program} {w : World} {S : Stable}

theorem byteOp_ok {op : BinOp} {a b : UInt8} {v : AV} (t : TypeId) (hs : isShift op = false) (h : byteOp op a b = some (true, v)) :
    ∃ val, YV P (binOp op t (.int .u8 (a.toNat : Nat)) (.int .u8 (b.toNat : Nat))) val ∧ Rd w S val v ∧ v.plain = true := by
  have hlt : ∀ x y : UInt8, ((x.toNat : Int) < y.toNat) ↔ x < y := fun x y => by rw [UInt8.lt_iff_toNat_lt]; omega
  have hle : ∀ x y : UInt8, ((x.toNat : Int) ≤ y.toNat) ↔ x ≤ y := fun x y => by rw [UInt8.le_iff_toNat_le]; omega
  have heq : ∀ x y : UInt8, ((x.toNat : Int) == y.toNat) = (x == y) := fun x y => by
    rw [Bool.eq_iff_iff, beq_iff_eq, beq_iff_eq, ← UInt8.toNat_inj]; omega
  have hnz : (b != 0) = true → ¬ ((b.toNat : Int) = 0) := fun hb hc => by
    have : b = 0 := by rw [← UInt8.toNat_inj]; simpa using hc
    simp [this] at hb
  cases op <;> simp only [byteOp, isShift, Option.some.injEq, Prod.mk.injEq, reduceCtorEq, true_and] at h hs
  case add => subst h; exact ⟨_, fun w => by simp [binOp, Op.intArith, u8_add], rd_byte _ _ _, rfl⟩
  case sub => subst h; exact ⟨_, fun w => by simp [binOp, Op.intArith, u8_sub], rd_byte _ _ _, rfl⟩
  case mul => subst h; exact ⟨_, fun w => by simp [binOp, Op.intArith, u8_mul], rd_byte _ _ _, rfl⟩
  case quo => obtain ⟨h0, rfl⟩ := h; exact ⟨_, fun w => by simp only [binOp, ne_eq, not_true_eq_false, if_false, Op.intDiv, if_neg (hnz h0), u8_div]; rfl, rd_byte _ _ _, rfl⟩
  case rem => obtain ⟨h0, rfl⟩ := h; exact ⟨_, fun w => by simp only [binOp, ne_eq, not_true_eq_false, if_false, Op.intDiv, if_neg (hnz h0), u8_mod]; rfl, rd_byte _ _ _, rfl⟩
  case and => subst h; exact ⟨_, fun w => by simp only [binOp, ne_eq, not_true_eq_false, if_false, intBits_and, u8_bits a b .and (a &&& b) rfl (by simp)]; rfl, rd_byte _ _ _, rfl⟩
  case or => subst h; exact ⟨_, fun w => by simp only [binOp, ne_eq, not_true_eq_false, if_false, intBits_or, u8_bits a b .or (a ||| b) rfl (by simp)]; rfl, rd_byte _ _ _, rfl⟩
  case xor => subst h; exact ⟨_, fun w => by simp only [binOp, ne_eq, not_true_eq_false, if_false, intBits_xor, u8_bits a b .xor (a ^^^ b) rfl (by simp)]; rfl, rd_byte _ _ _, rfl⟩
  case andNot => subst h; exact ⟨_, fun w => by simp only [binOp, ne_eq, not_true_eq_false, if_false, intBits_andNot, u8_bits a b .andNot (a &&& ~~~b) rfl (by simp)]; rfl, rd_byte _ _ _, rfl⟩
  case eql => subst h; exact ⟨_, fun w => by simp only [binOp, ne_eq, not_true_eq_false, if_false, Op.intCmp, heq]; rfl, rd_bool _ _ _, rfl⟩
  case neq => subst h; exact ⟨_, fun w => by simp only [binOp, ne_eq, not_true_eq_false, if_false, Op.intCmp, bne, heq]; rfl, rd_bool _ _ _, rfl⟩
  case lss => subst h; exact ⟨_, fun w => by simp only [binOp, ne_eq, not_true_eq_false, if_false, Op.intCmp, hlt]; rfl, rd_bool _ _ _, rfl⟩
  case leq => subst h; exact ⟨_, fun w => by simp only [binOp, ne_eq, not_true_eq_false, if_false, Op.intCmp, hle]; rfl, rd_bool _ _ _, rfl⟩
  case gtr => subst h; exact ⟨_, fun w => by simp only [binOp, ne_eq, not_true_eq_false, if_false, Op.intCmp, gt_iff_lt, hlt]; rfl, rd_bool _ _ _, rfl⟩
  case geq => subst h; exact ⟨_, fun w => by simp only [binOp, ne_eq, not_true_eq_false, if_false, Op.intCmp, ge_iff_le, hle]; rfl, rd_bool _ _ _, rfl⟩

theorem intOp_ok {op : BinOp} {k : IntKind} {a b : Int} {v : AV} (t : TypeId) (h : intOp op k a b = some (true, v)) :
    ∃ val, YV P (binOp op t (.int k a) (.int k b)) val ∧ Rd w S val v ∧ v.plain = true := by
  have hnz : (b != 0) = true → ¬ (b = 0) := fun hb hc => by simp [hc] at hb
  cases op <;> simp only [intOp, Option.some.injEq, Prod.mk.injEq, reduceCtorEq, true_and] at h
  case add => subst h; exact ⟨_, fun w => by simp [binOp, Op.intArith], rd_int _ _ _ _, rfl⟩
  case sub => subst h; exact ⟨_, fun w => by simp [binOp, Op.intArith], rd_int _ _ _ _, rfl⟩
  case mul => subst h; exact ⟨_, fun w => by simp [binOp, Op.intArith], rd_int _ _ _ _, rfl⟩
  case quo => obtain ⟨h0, rfl⟩ := h; exact ⟨_, fun w => by simp only [binOp, ne_eq, not_true_eq_false, if_false, Op.intDiv, if_neg (hnz h0)]; rfl, rd_int _ _ _ _, rfl⟩
  case rem => obtain ⟨h0, rfl⟩ := h; exact ⟨_, fun w => by simp only [binOp, ne_eq, not_true_eq_false, if_false, Op.intDiv, if_neg (hnz h0)]; rfl, rd_int _ _ _ _, rfl⟩
  case and => subst h; exact ⟨_, fun w => by simp only [binOp, ne_eq, not_true_eq_false, if_false, intBits_and]; rfl, rd_int _ _ _ _, rfl⟩
  case or => subst h; exact ⟨_, fun w => by simp only [binOp, ne_eq, not_true_eq_false, if_false, intBits_or]; rfl, rd_int _ _ _ _, rfl⟩
  case xor => subst h; exact ⟨_, fun w => by simp only [binOp, ne_eq, not_true_eq_false, if_false, intBits_xor]; rfl, rd_int _ _ _ _, rfl⟩
  case andNot => subst h; exact ⟨_, fun w => by simp only [binOp, ne_eq, not_true_eq_false, if_false, intBits_andNot]; rfl, rd_int _ _ _ _, rfl⟩
  case eql => subst h; exact ⟨_, fun w => by simp only [binOp, ne_eq, not_true_eq_false, if_false, Op.intCmp]; rfl, rd_bool _ _ _, rfl⟩
  case neq => subst h; exact ⟨_, fun w => by simp only [binOp, ne_eq, not_true_eq_false, if_false, Op.intCmp]; rfl, rd_bool _ _ _, rfl⟩
  case lss => subst h; exact ⟨_, fun w => by simp only [binOp, ne_eq, not_true_eq_false, if_false, Op.intCmp]; rfl, rd_bool _ _ _, rfl⟩
  case leq => subst h; exact ⟨_, fun w => by simp only [binOp, ne_eq, not_true_eq_false, if_false, Op.intCmp]; rfl, rd_bool _ _ _, rfl⟩
  case gtr => subst h; exact ⟨_, fun w => by simp only [binOp, ne_eq, not_true_eq_false, if_false, Op.intCmp]; rfl, rd_bool _ _ _, rfl⟩
  case geq => subst h; exact ⟨_, fun w => by simp only [binOp, ne_eq, not_true_eq_false, if_false, Op.intCmp]; rfl, rd_bool _ _ _, rfl⟩

theorem shiftOp_ok {op : BinOp} {k yk : IntKind} {a b : Int} {v : AV} (t : TypeId) (h : shiftOp op k a b = some (true, v)) :
    ∃ val, YV P (binOp op t (.int k a) (.int yk b)) val ∧ Rd w S val v ∧ v.plain = true := by
  cases op <;> simp only [shiftOp, Option.some.injEq, Prod.mk.injEq, reduceCtorEq, decide_eq_true_eq] at h
  case shl => obtain ⟨h0, rfl⟩ := h; exact ⟨_, fun w => by simp only [binOp, Op.shift, if_neg (show ¬ b < 0 by omega)]; rfl, rd_int _ _ _ _, rfl⟩
  case shr => obtain ⟨h0, rfl⟩ := h; exact ⟨_, fun w => by simp only [binOp, Op.shift, if_neg (show ¬ b < 0 by omega)]; rfl, rd_int _ _ _ _, rfl⟩

theorem byteShift_ok {op : BinOp} {yk : IntKind} {a : UInt8} {b : Int} {v : AV} (t : TypeId) (h : byteShift op a b = some (true, v)) :
    ∃ val, YV P (binOp op t (.int .u8 (a.toNat : Nat)) (.int yk b)) val ∧ Rd w S val v ∧ v.plain = true := by
  cases op <;> simp only [byteShift, Option.some.injEq, Prod.mk.injEq, reduceCtorEq, decide_eq_true_eq] at h
  case shl =>
    obtain ⟨h0, rfl⟩ := h
    refine ⟨_, fun w => ?_, rd_byte _ _ _, rfl⟩
    have e : IntKind.u8.wrap ((a.toNat : Int) * 2 ^ (min b.toNat 8)) = ((UInt8.ofNat (a.toNat * 2 ^ (min b.toNat 8))).toNat : Int) := by
      rw [IntKind.wrap_u8, UInt8.toNat_ofNat']
      have : ((a.toNat : Int) * 2 ^ (min b.toNat 8)) = ((a.toNat * 2 ^ (min b.toNat 8) : Nat) : Int) := by rw [Int.natCast_mul, Int.natCast_pow]; rfl
      rw [this]
      omega
    simp only [binOp, Op.shift, if_neg (show ¬ b < 0 by omega), IntKind.bits, e]
    rfl
  case shr =>
    obtain ⟨h0, rfl⟩ := h
    refine ⟨_, fun w => ?_, rd_byte _ _ _, rfl⟩
    have e : (a.toNat : Int).fdiv (2 ^ (min b.toNat 8)) = ((UInt8.ofNat (a.toNat / 2 ^ (min b.toNat 8))).toNat : Int) := by
      rw [UInt8.toNat_ofNat']
      have h1 : a.toNat / 2 ^ (min b.toNat 8) ≤ a.toNat := Nat.div_le_self _ _
      have h2 := a.toNat_lt
      have h3 : ((2 : Int) ^ (min b.toNat 8)) = ((2 ^ (min b.toNat 8) : Nat) : Int) := by rw [Int.natCast_pow]; rfl
      rw [h3, Int.fdiv_eq_ediv_of_nonneg _ (Int.natCast_nonneg _), ← Int.natCast_ediv, Nat.mod_eq_of_lt (by omega)]
    simp only [binOp, Op.shift, if_neg (show ¬ b < 0 by omega), IntKind.bits, e]
    rfl

theorem ba_toList (b : ByteArray) : b.toList = b.data.toList := by
  obtain ⟨⟨l⟩⟩ := b
  exact ByteArray.toList_mk l

theorem binV_ok {tb : Bool} {op : BinOp} {x y : AV} {vx vy : Value} {v : AV} (t : TypeId) (hx : Rd w S vx x) (hy : Rd w S vy y) (h : binV tb op x y = some (true, v)) (htb : tb = true → P.underlying t = some .bool) :
    ∃ val, YV P (do eqGuard op t (.const .nilFunc) (.const .nilFunc) vx vy; binOp op t vx vy) val ∧ (∀ (p q : Operand) w', (eqGuard op t p q vx vy).run P w' = .ok () w') ∧ Rd w S val v ∧ v.plain = true := by
  have guard : ∀ (p q : Operand) (a b : Value), (∀ c, a ≠ .agg c) → a ≠ .nilIface → ∀ w', (eqGuard op t p q a b).run P w' = .ok () w' := by
    intro p q a b h1 h2 w'
    unfold eqGuard
    cases op <;> simp <;> cases a <;> simp_all
  have close : ∀ (a b : Value), (∀ c, a ≠ .agg c) → a ≠ .nilIface → (∃ val, YV P (binOp op t a b) val ∧ Rd w S val v ∧ v.plain = true) →
      ∃ val, YV P (do eqGuard op t (.const .nilFunc) (.const .nilFunc) a b; binOp op t a b) val ∧ (∀ (p q : Operand) w', (eqGuard op t p q a b).run P w' = .ok () w') ∧ Rd w S val v ∧ v.plain = true := by
    intro a b h1 h2 ⟨val, e1, e2, e3⟩
    refine ⟨val, fun w' => ?_, fun p q w' => guard p q a b h1 h2 w', e2, e3⟩
    rw [Sem.run_bind, guard _ _ a b h1 h2 w']
    exact e1 w'
  unfold binV at h
  split at h
  · obtain rfl := dat_byte hx
    obtain rfl := dat_byte hy
    split at h
    · exact close _ _ (by simp) (by simp) (byteShift_ok t h)
    · rename_i hs
      exact close _ _ (by simp) (by simp) (byteOp_ok t (by revert hs; cases isShift op <;> simp) h)
  · obtain rfl := dat_int hx
    obtain rfl := dat_int hy
    split at h
    · cases h
    · split at h
      · exact close _ _ (by simp) (by simp) (shiftOp_ok t h)
      · split at h
        · rename_i e
          subst e
          exact close _ _ (by simp) (by simp) (intOp_ok t h)
        · cases h
  · obtain rfl := dat_byte hx
    obtain rfl := dat_int hy
    split at h
    · exact close _ _ (by simp) (by simp) (byteShift_ok t h)
    · cases h
  · obtain rfl := dat_int hx
    obtain rfl := dat_byte hy
    split at h
    · cases h
    · split at h
      · exact close _ _ (by simp) (by simp) (shiftOp_ok t h)
      · cases h
  · obtain rfl := dat_bool hx
    obtain rfl := dat_bool hy
    split at h
    · cases h
    · rename_i ht
      have ht' := htb (by simpa using ht)
      split at h
      · simp only [Option.some.injEq, Prod.mk.injEq, true_and] at h
        subst h
        exact close _ _ (by simp) (by simp) ⟨_, fun w' => run_eql_bool w' t _ _ ht', rd_bool _ _ _, rfl⟩
      · simp only [Option.some.injEq, Prod.mk.injEq, true_and] at h
        subst h
        exact close _ _ (by simp) (by simp) ⟨_, fun w' => run_neq_bool w' t _ _ ht', rd_bool _ _ _, rfl⟩
      · cases h
  · obtain ⟨bx, rfl, rfl⟩ := dat_str hx
    obtain ⟨b_y, rfl, rfl⟩ := dat_str hy
    unfold strOp at h
    split at h
    · simp only [Option.some.injEq, Prod.mk.injEq, decide_eq_true_eq] at h
      obtain ⟨hl, rfl⟩ := h
      have hr := rd_str w S (bx ++ b_y)
      rw [show (bx ++ b_y).data.toList = bx.data.toList ++ b_y.data.toList from by simp [ByteArray.data_append]] at hr
      have hl' : bx.size + b_y.size ≤ 9223372036854775807 := by
        have e1 : bx.size = List.length bx.data.toList := by simp
        have e2 : b_y.size = List.length b_y.data.toList := by simp
        omega
      exact close _ _ (by simp) (by simp) ⟨_, fun w' => by rw [binOp_string_add]; exact run_string_add_sum (P := P) (w := w') bx b_y hl', hr, rfl⟩
    · simp only [Option.some.injEq, Prod.mk.injEq, true_and] at h
      subst h
      exact close _ _ (by simp) (by simp) ⟨_, fun w' => by simp only [binOp_string_eql, ba_toList]; rfl, rd_bool _ _ _, rfl⟩
    · simp only [Option.some.injEq, Prod.mk.injEq, true_and] at h
      subst h
      exact close _ _ (by simp) (by simp) ⟨_, fun w' => by simp only [binOp_string_neq, ba_toList]; rfl, rd_bool _ _ _, rfl⟩
    · cases h
  · cases h

theorem unV_ok {op : UnOp} {x : AV} {vx : Value} {v : AV} (hx : Rd w S vx x) (h : unV op x = some v) :
    ∃ val, YV P (Op.unary op vx) val ∧ Rd w S val v ∧ v.plain = true := by
  unfold unV at h
  split at h
  · obtain rfl := dat_bool hx
    simp only [Option.some.injEq] at h
    subst h
    exact ⟨_, fun w' => rfl, rd_bool _ _ _, rfl⟩
  · obtain rfl := dat_int hx
    split at h
    · cases h
    · simp only [Option.some.injEq] at h
      subst h
      exact ⟨_, fun w' => rfl, rd_int _ _ _ _, rfl⟩
  · cases h
end
end Go.Av
