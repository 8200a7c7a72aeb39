/-
  The operations that make nothing and change nothing: all of them.
-/
import Derived.Test.YtcfhfjjohmdaoaaDoorAvStill3
namespace Go.Av
open Go.RowKit

section
variable {base : Nat → Prop} {w0 w : World} {S0 S : Stable} {fr : Fr} {a : Act} {P : Program} {E : Env}

theorem and3 {x y z : Bool} (h : (x && y && z) = true) : x = true ∧ y = true ∧ z = true := by cases x <;> cases y <;> cases z <;> simp_all

/-- WHAT THE READING SAYS OF SUCH AN OPERATION IS WHAT THE MACHINE YIELDS. -/
theorem still_ok (h : R base w0 S0 S fr a w) (hT : TyOk P E) {o : Oper} {v : AV} (he : still E fr true o = some (true, v)) {bx : Bool} (hbx : bx = true ∨ takeable E fr true o = true) :
    ∃ val, (∀ w', Like bx w S fr a w' → (execOp a.eval o).run P w' = .ok (.value val) w') ∧ Rd w S val v ∧ Cpy fr a v val := by
  have fin : ∀ {s : Sem Value}, Yld bx P w S fr a s v → execOp a.eval o = (do pure (.value (← s))) → ∃ val, (∀ w', Like bx w S fr a w' → (execOp a.eval o).run P w' = .ok (.value val) w') ∧ Rd w S val v ∧ Cpy fr a v val := by
    intro s ⟨val, h1, h2, h3⟩ e
    exact ⟨val, fun w' hl => by rw [e]; exact run_v (h1 w' hl), h2, h3⟩
  obtain ⟨dst, op, ty, pos, after, guard⟩ := o
  unfold still at he
  split at he
  · -- move
    rename_i x hop
    simp only at hop
    subst hop
    simp only [Option.some.injEq] at he
    exact fin (yld_move h he) rfl
  · -- pick
    rename_i c x y hop
    simp only at hop
    subst hop
    have go : ∀ (t : Bool) (o1 : Lab) (z : Operand) (b_z : Bool) (o2 : Lab), rdo E fr true 0 c = (true, .dat .bool t o1) → (if t then x else y) = z → rdo E fr true 0 z = (true, .dat .bool b_z o2) →
        ∃ val, (∀ w', Like bx w S fr a w' → ((do pure (Next.value (if ← asBool (a.eval c) then a.eval x else a.eval y)) : Sem Next)).run P w' = .ok (.value val) w') ∧ Rd w S val (.bool b_z) ∧ Cpy fr a (.bool b_z) val := by
      intro t o1 z b_z o2 h1 hz h2
      refine ⟨a.eval z, fun w' _ => ?_, ?_, Cpy.of_plain rfl⟩
      · rw [Sem.run_bind, dat_bool (rdo_ok h h1).1]
        simp only [asBool, Sem.run_pure, Result.andThen_ok]
        subst hz
        cases t <;> rfl
      · rw [dat_bool (rdo_ok h h2).1]
        exact rd_bool _ _ _
    split at he
    · rename_i okc t o1 h1
      split at he
      · split at he
        · rename_i oka b_x o2 h2
          simp only [Option.some.injEq, Prod.mk.injEq, Bool.and_eq_true] at he
          obtain ⟨⟨rfl, rfl⟩, rfl⟩ := he
          exact go true o1 x b_x o2 h1 rfl h2
        · cases he
      · split at he
        · rename_i okb b_y o2 h2
          simp only [Option.some.injEq, Prod.mk.injEq, Bool.and_eq_true] at he
          obtain ⟨⟨rfl, rfl⟩, rfl⟩ := he
          exact go false o1 y b_y o2 h1 rfl h2
        · cases he
    · cases he
  · -- binOp
    rename_i op t x y yt hop
    simp only at hop
    subst hop
    split at he
    rename_i okx vx oky vy h1 h2
    split at he
    · rename_i ok v' hb
      simp only [Option.some.injEq, Prod.mk.injEq] at he
      obtain ⟨hok, rfl⟩ := he
      obtain ⟨rfl, rfl, rfl⟩ := and3 hok
      exact fin (yld_binOp h hT h1 h2 hb) rfl
    · cases he
  · -- unOp
    rename_i op t x hop
    simp only at hop
    subst hop
    split at he
    rename_i okx vx h1
    split at he
    · rename_i v' hb
      simp only [Option.some.injEq, Prod.mk.injEq] at he
      obtain ⟨rfl, rfl⟩ := he
      exact fin (yld_unOp h h1 hb) rfl
    · cases he
  · -- convert
    rename_i src dst' x hop
    simp only at hop
    subst hop
    split at he
    · rename_i okx vx s u h1 hd hs
      split at he
      · rename_i v' hb
        split at he
        · cases he
        · rename_i hu
          simp only [Option.some.injEq, Prod.mk.injEq] at he
          obtain ⟨rfl, rfl⟩ := he
          exact fin (yld_convert h hT hd hs (by simpa using hu) h1 hb) rfl
      · cases he
    · cases he
  · -- index
    rename_i t x i hop
    simp only at hop
    subst hop
    split at he
    · rename_i okx s o1 oki vi h1 h2
      split at he
      · rename_i n hn
        split at he
        · cases he
        · rename_i hs
          simp only [Option.some.injEq, Prod.mk.injEq, Bool.and_eq_true, decide_eq_true_eq] at he
          obtain ⟨⟨⟨⟨rfl, rfl⟩, h0⟩, hlt⟩, rfl⟩ := he
          exact fin (yld_index_str h (by simpa using hs) hT h1 h2 hn h0 hlt) rfl
      · cases he
    · rename_i okx m e l o1 oki vi h1 h2
      split at he
      · rename_i n hn
        split at he
        · rename_i hs
          simp only [Option.some.injEq, Prod.mk.injEq, Bool.and_eq_true, decide_eq_true_eq] at he
          obtain ⟨⟨⟨⟨rfl, rfl⟩, h0⟩, hlt⟩, rfl⟩ := he
          exact fin (yld_index_arr h hT hs h1 h2 hn h0 hlt) rfl
        · cases he
      · cases he
    · cases he
  · -- indexAddr
    rename_i t x i hop
    simp only at hop
    subst hop
    split at he
    · rename_i okx e l o1 oki vi h1 h2
      split at he
      · rename_i n hn
        split at he
        · rename_i hs
          simp only [Option.some.injEq, Prod.mk.injEq, Bool.and_eq_true, decide_eq_true_eq] at he
          obtain ⟨⟨⟨⟨rfl, rfl⟩, h0⟩, hlt⟩, rfl⟩ := he
          exact fin (yld_indexAddr_sl h hT hs h1 h2 hn h0 hlt) rfl
        · cases he
      · cases he
    · rename_i okx m e l oki vi h1 h2
      split at he
      · rename_i n hn
        split at he
        · rename_i hs
          simp only [Option.some.injEq, Prod.mk.injEq, Bool.and_eq_true, decide_eq_true_eq] at he
          obtain ⟨⟨⟨⟨rfl, rfl⟩, h0⟩, hlt⟩, rfl⟩ := he
          exact fin (yld_indexAddr_arr h hT hs h1 h2 hn h0 hlt) rfl
        · cases he
      · cases he
    · rename_i okx b p oki vi h1 h2
      split at he
      · rename_i s z hb
        split at he
        · rename_i m e l hp
          split at he
          · rename_i n hn
            split at he
            · rename_i hs
              simp only [Option.some.injEq, Prod.mk.injEq, Bool.and_eq_true, decide_eq_true_eq] at he
              obtain ⟨⟨⟨⟨rfl, rfl⟩, h0⟩, hlt⟩, rfl⟩ := he
              exact fin (yld_indexAddr_box h hT hs h1 hb hp h2 hn h0 hlt) rfl
            · cases he
          · cases he
        · cases he
      · cases he
    · cases he
  · -- nilCheck
    rename_i x hop
    simp only at hop
    subst hop
    split at he
    · rename_i okx s z h1
      simp only [Option.some.injEq, Prod.mk.injEq] at he
      obtain ⟨rfl, rfl⟩ := he
      obtain ⟨ad, cs, ev, hc⟩ := rd_adr (rdo_ok h h1).1
      exact ⟨a.eval x, fun w' _ => by simp only [execOp, ev]; rfl, (rdo_ok h h1).1, (rdo_ok h h1).2⟩
    · rename_i okx b p h1
      simp only [Option.some.injEq, Prod.mk.injEq] at he
      obtain ⟨rfl, rfl⟩ := he
      obtain ⟨s', z', q, g, e1, e2, _, o, e4, e5⟩ := (rdo_ok h h1).2.bd b p rfl
      exact ⟨a.eval x, fun w' _ => by simp only [execOp, e5]; rfl, (rdo_ok h h1).1, (rdo_ok h h1).2⟩
    · cases he
  · -- load
    rename_i t x hop
    simp only at hop
    subst hop
    split at he
    · rename_i okx s y h1
      split at he
      · rename_i hs
        simp only [Option.some.injEq, Prod.mk.injEq] at he
        obtain ⟨rfl, rfl⟩ := he
        exact fin (yld_load_adr h hT hs h1) rfl
      · cases he
    · rename_i okx b p h1
      split at he
      · rename_i s z hb
        split at he
        · rename_i u y hp
          split at he
          · rename_i hs
            simp only [Option.some.injEq, Prod.mk.injEq] at he
            obtain ⟨rfl, rfl⟩ := he
            rcases hbx with rfl | hbx
            · exact fin (yld_load_box h hT hs h1 hb hp) rfl
            · simp [takeable, h1] at hbx
          · cases he
        · cases he
      · cases he
    · cases he
  · -- field
    rename_i t x f hop
    simp only at hop
    subst hop
    split at he
    · rename_i okx s z o1 h1
      split at he
      · rename_i u y hp
        split at he
        · rename_i hs
          simp only [Option.some.injEq, Prod.mk.injEq] at he
          obtain ⟨rfl, rfl⟩ := he
          exact fin (yld_field h hT hs h1 hp) rfl
        · cases he
      · cases he
    · cases he
  · -- fieldAddr
    rename_i t x f hop
    simp only at hop
    subst hop
    split at he
    · rename_i okx s z h1
      split at he
      · rename_i u y hp
        split at he
        · rename_i hs
          simp only [Option.some.injEq, Prod.mk.injEq] at he
          obtain ⟨rfl, rfl⟩ := he
          exact fin (yld_fieldAddr_adr h hT hs.1 hs.2 h1 hp) rfl
        · cases he
      · cases he
    · rename_i okx b p h1
      split at he
      · rename_i s z hb
        split at he
        · rename_i u y hp
          split at he
          · rename_i q1 q2 hf
            split at he
            · rename_i hs
              simp only [Option.some.injEq, Prod.mk.injEq] at he
              obtain ⟨rfl, rfl⟩ := he
              exact fin (yld_fieldAddr_box h hT hs.1 hs.2 h1 hb hp hf) rfl
            · cases he
          · cases he
        · cases he
      · cases he
    · cases he
  · -- slice
    rename_i t x lo hi mx hop
    simp only at hop
    subst hop
    split at he
    · cases he
    rename_i hmx
    obtain rfl : mx = none := by cases mx <;> simp_all
    split at he
    rename_i okx vx h1
    split at he
    · rename_i len hlen
      split at he
      · rename_i okl l okh r hl hr
        split at he
        · rename_i v' hv
          split at he
          · cases he
          · rename_i hs
            simp only [Option.some.injEq, Prod.mk.injEq, Bool.and_eq_true, decide_eq_true_eq] at he
            obtain ⟨⟨⟨⟨⟨⟨rfl, rfl⟩, rfl⟩, h0⟩, hle⟩, hlt⟩, rfl⟩ := he
            have hs' : (E.ti t).sh = shOf vx := by simpa using hs
            unfold sliceV at hv
            split at hv
            · simp only [Option.some.injEq] at hv
              simp only [lenV, Option.some.injEq] at hlen
              subst hv
              subst hlen
              exact fin (yld_slice_sl h hT hs' h1 hl hr h0 hle hlt) rfl
            · simp only [Option.some.injEq] at hv
              simp only [lenV, Option.some.injEq] at hlen
              subst hv
              subst hlen
              exact fin (yld_slice_str h hT hs' h1 hl hr h0 hle hlt) rfl
            · cases hv
        · cases he
      · cases he
    · cases he
  · -- extract
    rename_i x i hop
    simp only at hop
    subst hop
    split at he
    · rename_i okx vs h1
      split at he
      · rename_i g v' hv
        simp only [Option.some.injEq, Prod.mk.injEq, Bool.and_eq_true] at he
        obtain ⟨⟨rfl, rfl⟩, rfl⟩ := he
        exact fin (yld_extract_cnd h h1 hv) rfl
      · rename_i v' hnc hv
        simp only [Option.some.injEq, Prod.mk.injEq] at he
        obtain ⟨rfl, rfl⟩ := he
        exact fin (yld_extract h h1 hv (fun g u e => hnc g u e)) rfl
      · cases he
    · cases he
  · -- len
    rename_i c hop
    simp only at hop
    subst hop
    obtain ⟨callee, args, argTypes⟩ := c
    split at he
    · rename_i x t hc hargs htypes
      simp only at hc hargs htypes
      subst hc
      obtain rfl : args = #[x] := Array.ext' hargs
      obtain rfl : argTypes = #[t] := Array.ext' htypes
      split at he
      rename_i okx vx h1
      split at he
      · rename_i n hn
        split at he
        · cases he
        · rename_i hs
          simp only [Option.some.injEq, Prod.mk.injEq] at he
          obtain ⟨rfl, rfl⟩ := he
          obtain ⟨val, k1, k2, k3⟩ := yld_len (bx := bx) (P := P) (ty := ty) h hT (by simpa using hs) h1 hn
          refine ⟨val, fun w' hl => ?_, k2, k3⟩
          have := k1 w' hl
          simp only [execOp, resolve, invoke, builtin, Sem.run_bind, Sem.run_pure, Result.andThen_ok, List.map_toArray, List.map_cons, List.map_nil, this]
      · cases he
    · rename_i x y hc hargs
      simp only at hc hargs
      subst hc
      obtain rfl : args = #[x, y] := Array.ext' hargs
      split at he
      · rename_i okx k n ox oky k' m oy h1 h2
        split at he
        · rename_i hk
          subst hk
          simp only [Option.some.injEq, Prod.mk.injEq, Bool.and_eq_true] at he
          obtain ⟨⟨rfl, rfl⟩, rfl⟩ := he
          refine ⟨_, fun w' _ => ?_, rd_int w S k (bif decide (m < n) then m else n), Cpy.of_plain rfl⟩
          have := run_min_int2 (P := P) (w := w') argTypes ty k k n m
          simp only [execOp, resolve, invoke, builtin, Sem.run_bind, Sem.run_pure, Result.andThen_ok, List.map_toArray, List.map_cons, List.map_nil, dat_int (rdo_ok h h1).1, dat_int (rdo_ok h h2).1, this]
          by_cases hmn : m < n <;> simp [hmn]
        · cases he
      · cases he
    · rename_i x y hc hargs
      simp only at hc hargs
      subst hc
      obtain rfl : args = #[x, y] := Array.ext' hargs
      split at he
      · rename_i okx k n ox oky k' m oy h1 h2
        split at he
        · rename_i hk
          subst hk
          simp only [Option.some.injEq, Prod.mk.injEq, Bool.and_eq_true] at he
          obtain ⟨⟨rfl, rfl⟩, rfl⟩ := he
          refine ⟨_, fun w' _ => ?_, rd_int w S k (bif decide (m > n) then m else n), Cpy.of_plain rfl⟩
          have := run_max_int2 (P := P) (w := w') argTypes ty k k n m
          simp only [execOp, resolve, invoke, builtin, Sem.run_bind, Sem.run_pure, Result.andThen_ok, List.map_toArray, List.map_cons, List.map_nil, dat_int (rdo_ok h h1).1, dat_int (rdo_ok h h2).1, this]
          by_cases hmn : m > n <;> simp [hmn]
        · cases he
      · cases he
    · cases he
  · cases he
end
end Go.Av
