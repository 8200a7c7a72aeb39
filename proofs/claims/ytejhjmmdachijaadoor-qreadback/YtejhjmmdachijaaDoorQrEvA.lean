import Derived.Test.YtejhjmmdachijaaDoorQrP6
import Derived.Test.YtejhjmmdachijaaDoorQpN
import Derived.Test.YtejhjmmdachijaaDoorProg
import Derived.KernelRfl
namespace Go.Av
set_option linter.unusedSimpArgs false
open Go.Proofs
set_option maxRecDepth 100000
set_option linter.unusedVariables false
def tis : List (TypeId × TI) := [(2, ⟨some (.int .i64), 8, 0⟩),
  (3, ⟨some (.int .i64), 8, 0⟩),
  (4, ⟨some .bool, 1, 0⟩),
  (5, ⟨some .byte, 1, 0⟩),
  (6, ⟨some .byte, 1, 0⟩),
  (7, ⟨some (.pair (.int .i64) (.pair (.int .i64) (.pair .bool (.pair .byte .unit)))), 24, 0⟩),
  (8, ⟨some (.pair (.int .i64) (.pair (.int .i64) (.pair .bool (.pair .byte .unit)))), 24, 0⟩),
  (9, ⟨some .str, 16, 0⟩),
  (10, ⟨some .str, 16, 0⟩),
  (11, ⟨some .str, 16, 0⟩),
  (12, ⟨some (.int .u64), 8, 0⟩),
  (13, ⟨some (.pair .str (.pair (.int .u64) .unit)), 24, 0⟩),
  (14, ⟨some (.pair .str (.pair (.int .u64) .unit)), 24, 0⟩),
  (21, ⟨some (.int .i32), 4, 0⟩),
  (22, ⟨some (.sl .byte), 24, 5⟩),
  (24, ⟨some (.int .i64), 8, 0⟩),
  (42, ⟨some (.sl (.sl .byte)), 24, 22⟩),
  (47, ⟨some (.pair (.sl .byte) (.pair (.int .i64) .unit)), 32, 0⟩),
  (48, ⟨some (.pair (.sl .byte) (.pair (.int .i64) .unit)), 32, 0⟩),
  (69, ⟨some (.int .u64), 8, 0⟩),
  (75, ⟨some (.arr 256 .bool), 256, 4⟩),
  (76, ⟨some (.arr 256 .bool), 256, 4⟩),
  (88, ⟨some (.int .u32), 4, 0⟩),
  (93, ⟨some (.arr 4 .byte), 4, 5⟩),
  (95, ⟨some (.arr 256 .byte), 256, 5⟩),
  (96, ⟨some (.pair .byte (.pair .byte .unit)), 2, 0⟩),
  (97, ⟨some (.pair .byte (.pair .byte .unit)), 2, 0⟩),
  (98, ⟨some (.arr 16 (.pair .byte (.pair .byte .unit))), 32, 97⟩),
  (106, ⟨some .byte, 1, 0⟩),
  (107, ⟨some .byte, 1, 0⟩),
  (110, ⟨some (.int .i32), 4, 0⟩),
  (111, ⟨some (.int .i32), 4, 0⟩)]
theorem tis_ok : (tis.all fun p => tyB Tryd.prog (tiOf tis) p.1) = true := by kernel_rfl
theorem follows : Tryd.prog.follows .mixedOrders = true := by kernel_rfl
def s_z18 : List AV → Bool × AV
  | [.dat (.sl .byte) a0 _, .dat (.sl .byte) a1 _] => (z18_ok a0 a1, (.dat .bool (z18 a0 a1) none))
  | _ => (false, .bad)
def s_z21 : List AV → Bool × AV
  | [.dat (.sl .byte) a0 _] => (z21_ok a0, (.dat (.sl .byte) (z21 a0) (some (2, 5))))
  | _ => (false, .bad)
def s_z76 : List AV → Bool × AV
  | [.dat .str a0 _, .dat .byte a1 _] => (z76_ok a0 a1, (.dat .bool (z76 a0 a1) none))
  | _ => (false, .bad)
def s_z57 : List AV → Bool × AV
  | [.dat .byte a0 _] => (true, (.dat (.int .i64) (z57 a0) none))
  | _ => (false, .bad)
def s_z43 : List AV → Bool × AV
  | [.dat .byte a0 _, .dat (.int .i64) a1 _] => (true, (.dat .bool (z43 a0 a1) none))
  | _ => (false, .bad)
def s_z58 : List AV → Bool × AV
  | [.dat (.int .i64) a0 _] => (z58_ok a0, (.dat .byte (z58 a0) none))
  | _ => (false, .bad)
def s_z44 : List AV → Bool × AV
  | [.dat (.sl .byte) a0 _, .dat .byte a1 _, .dat .byte a2 _] => (z44_ok a0 a1 a2, (.dat (.sl .byte) (z44 a0 a1 a2) (some (6, 5))))
  | _ => (false, .bad)
def s_z23 : List AV → Bool × AV
  | [.dat .byte a0 _, .dat .bool a1 _] => (true, (.dat (.sl .byte) (z23 a0 a1) (some (4, 5))))
  | _ => (false, .bad)
def s_z19 : List AV → Bool × AV
  | [.dat (.sl .byte) a0 _] => (z19_ok a0, (.dat (.sl .byte) (z19 a0) (some (2, 5))))
  | _ => (false, .bad)
def s_z77 : List AV → Bool × AV
  | [.dat (.sl .byte) a0 _, .dat .byte a1 _] => (z77_ok a0 a1, (.dat (.sl .byte) (z77 a0 a1) none))
  | _ => (false, .bad)
def s_z78 : List AV → Bool × AV
  | [.dat .str a0 _] => (z78_ok a0, (.tup [(.dat (.arr 256 .bool) ((z78 a0).1) none), (.dat .bool ((z78 a0).2) none)]))
  | _ => (false, .bad)
def s_z85 : List AV → Bool × AV
  | [.adr (.arr 256 .bool) a0, .dat .byte a1 _] => (true, (.dat .bool (z85 a0 a1) none))
  | _ => (false, .bad)
def s_z79 : List AV → Bool × AV
  | [.dat (.sl .byte) a0 _, .adr (.arr 256 .bool) a1] => (z79_ok a0 a1, (.dat (.sl .byte) (z79 a0 a1) none))
  | _ => (false, .bad)
def s_z86 : List AV → Bool × AV
  | [.dat (.sl .byte) a0 _] => (z86_ok a0, (.tup [(.dat (.int .i32) ((z86 a0).1) none), (.dat (.int .i64) ((z86 a0).2) none)]))
  | _ => (false, .bad)
def s_z80 : List AV → Bool × AV
  | [.dat (.sl .byte) a0 _, .dat .str a1 _] => (z80_ok a0 a1, (.dat (.sl .byte) (z80 a0 a1) none))
  | _ => (false, .bad)
def s_z59 : List AV → Bool × AV
  | [.dat (.sl .byte) a0 _, .dat .str a1 _] => (z59_ok a0 a1, (.dat (.sl .byte) (z59 a0 a1) none))
  | _ => (false, .bad)
def s_z66 : List AV → Bool × AV
  | [.dat (.sl .byte) a0 _, .dat (.sl .byte) a1 _] => (true, (.dat .bool (z66 a0 a1) none))
  | _ => (false, .bad)
def s_z81 : List AV → Bool × AV
  | [.dat (.sl .byte) a0 _, .dat (.sl .byte) a1 _] => (z81_ok a0 a1, (.dat .bool (z81 a0 a1) none))
  | _ => (false, .bad)
def s_z60 : List AV → Bool × AV
  | [.dat (.sl .byte) a0 _, .dat (.sl .byte) a1 _] => (z60_ok a0 a1, (.tup [(.dat (.sl .byte) ((z60 a0 a1).1) none), (.dat .bool ((z60 a0 a1).2) none)]))
  | _ => (false, .bad)
def s_z45 : List AV → Bool × AV
  | [.dat (.sl .byte) a0 _] => (z45_ok a0, (.tup [(.dat (.sl .byte) ((z45 a0).1) none), (.dat .bool ((z45 a0).2) none)]))
  | _ => (false, .bad)
def s_z73 : List AV → Bool × AV
  | [.dat .byte a0 _] => (true, (.dat (.int .i64) (z73 a0) none))
  | _ => (false, .bad)
def s_z82 : List AV → Bool × AV
  | [.dat .str a0 _, .dat .byte a1 _] => (true, (.dat (.int .i64) (z82 a0 a1) none))
  | _ => (false, .bad)
def s_z99 : List AV → Bool × AV
  | [.dat .str a0 _, .dat .byte a1 _] => (true, (.dat (.int .i64) (z99 a0 a1) none))
  | _ => (false, .bad)
def s_z92 : List AV → Bool × AV
  | [.dat .str a0 _, .dat .byte a1 _] => (true, (.dat (.int .i64) (z92 a0 a1) none))
  | _ => (false, .bad)
def s_z74 : List AV → Bool × AV
  | [.dat .str a0 _, .dat .byte a1 _] => (true, (.dat .bool (z74 a0 a1) none))
  | _ => (false, .bad)
def s_z54 : List AV → Bool × AV
  | [.dat .byte a0 _] => (true, (.dat (.int .i64) (z54 a0) none))
  | _ => (false, .bad)
def s_z41 : List AV → Bool × AV
  | [.dat .byte a0 _, .dat (.int .i64) a1 _] => (true, (.dat .bool (z41 a0 a1) none))
  | _ => (false, .bad)
def s_z98 : List AV → Bool × AV
  | [.dat .byte a0 _] => (true, (.dat .byte (z98 a0) none))
  | _ => (false, .bad)
def s_z91 : List AV → Bool × AV
  | [.dat .byte a0 _] => (true, (.tup [(.dat (.int .i64) ((z91 a0).1) none), (.dat .bool ((z91 a0).2) none)]))
  | _ => (false, .bad)
def s_z70 : List AV → Bool × AV
  | [.dat .byte a0 _, .dat .byte a1 _] => (true, (.tup [(.dat .byte ((z70 a0 a1).1) none), (.dat .bool ((z70 a0 a1).2) none)]))
  | _ => (false, .bad)
def s_z50 : List AV → Bool × AV
  | [.dat (.sl .byte) a0 _, .dat (.int .i64) a1 _, .dat .byte a2 _] => (z50_ok a0 a1 a2, (.tup [(.dat .byte ((z50 a0 a1 a2).1) none), (.dat .bool ((z50 a0 a1 a2).2) none)]))
  | _ => (false, .bad)
def s_z46 : List AV → Bool × AV
  | [.dat (.sl .byte) a0 _] => (z46_ok a0, (.tup [(.dat (.sl .byte) ((z46 a0).1) none), (.dat (.int .i64) ((z46 a0).2) none)]))
  | _ => (false, .bad)
def s_z25 : List AV → Bool × AV
  | [.dat (.sl .byte) a0 _] => (z25_ok a0, (.tup [(.dat (.sl .byte) ((z25 a0).1) none), (.dat .bool ((z25 a0).2) none)]))
  | _ => (false, .bad)
def s_z83 : List AV → Bool × AV
  | [.dat (.sl .byte) a0 _, .dat (.int .i32) a1 _] => (z83_ok a0 a1, (.dat (.int .i64) (z83 a0 a1) none))
  | _ => (false, .bad)
def s_z84 : List AV → Bool × AV
  | [.dat (.int .i64) a0 _] => (true, (.dat .bool (z84 a0) none))
  | _ => (false, .bad)
def s_z63 : List AV → Bool × AV
  | [.dat (.sl .byte) a0 _, .dat .str a1 _] => (z63_ok a0 a1, (.dat (.int .i64) (z63 a0 a1) none))
  | _ => (false, .bad)
def s_z88 : List AV → Bool × AV
  | [.dat (.sl .byte) a0 _, .dat (.sl .byte) a1 _] => (true, (.dat .bool (z88 a0 a1) none))
  | _ => (false, .bad)
def s_z64 : List AV → Bool × AV
  | [.dat (.sl .byte) a0 _] => (true, (.dat (.int .i64) (z64 a0) none))
  | _ => (false, .bad)
def s_z62 : List AV → Bool × AV
  | [.abs s V x, .pbox (.leaf (.sl .byte)) b0 none] => ((z62 (fun x a0 a1 => V.spec x [⟨(.sl .byte), a0⟩, ⟨(.sl .byte), a1⟩]) x b0).1, .tup [.tup [], .abs s V (z62 (fun x a0 a1 => V.spec x [⟨(.sl .byte), a0⟩, ⟨(.sl .byte), a1⟩]) x b0).2.1, .pbox (.leaf (.sl .byte)) ((z62 (fun x a0 a1 => V.spec x [⟨(.sl .byte), a0⟩, ⟨(.sl .byte), a1⟩]) x b0).2.2) none])
  | _ => (false, .bad)
def it_z62 : Iter := ⟨[.leaf (.sl .byte)], fun s spec x y => ((z62 (fun x a0 a1 => spec x [⟨(.sl .byte), a0⟩, ⟨(.sl .byte), a1⟩]) x y.1).1, (z62 (fun x a0 a1 => spec x [⟨(.sl .byte), a0⟩, ⟨(.sl .byte), a1⟩]) x y.1).2.1)⟩
def s_z48 : List AV → Bool × AV
  | [.dat (.sl .byte) a0 _] => (true, (.abs (prodSh [.leaf (.sl .byte)]) (clInv 62 [.leaf (.sl .byte)]) (a0, ())))
  | _ => (false, .bad)
def s_z27 : List AV → Bool × AV
  | [.dat (.sl .byte) a0 _] => (z27_ok a0, (.dat (.sl .byte) (z27 a0) none))
  | _ => (false, .bad)
def s_z31 : List AV → Bool × AV
  | [.dat (.sl .byte) a0 _] => (z31_ok a0, (.dat (.int .i64) (z31 a0) none))
  | _ => (false, .bad)
def s_z24 : List AV → Bool × AV
  | [] => (true, (.dat .bool z24 none))
  | _ => (false, .bad)
def s_z49 : List AV → Bool × AV
  | [.dat (.sl .byte) a0 _, .dat (.sl .byte) a1 _] => (z49_ok a0 a1, (.dat (.int .i64) (z49 a0 a1) none))
  | _ => (false, .bad)
def s_z33 : List AV → Bool × AV
  | [.dat (.sl .byte) a0 _, .dat (.sl .byte) a1 _] => (z33_ok a0 a1, (.tup [(.dat (.sl .byte) ((z33 a0 a1).1) none), (.dat (.sl .byte) ((z33 a0 a1).2.1) none), (.dat .bool ((z33 a0 a1).2.2) none)]))
  | _ => (false, .bad)
def s_z71 : List AV → Bool × AV
  | [.dat (.sl .byte) a0 _, .dat .str a1 _] => (z71_ok a0 a1, (.dat .bool (z71 a0 a1) none))
  | _ => (false, .bad)
def s_z51 : List AV → Bool × AV
  | [.dat (.sl .byte) a0 _] => (z51_ok a0, (.dat .bool (z51 a0) none))
  | _ => (false, .bad)
def s_z34 : List AV → Bool × AV
  | [.dat (.sl .byte) a0 _] => (z34_ok a0, (.dat .bool (z34 a0) none))
  | _ => (false, .bad)
def s_z12 : List AV → Bool × AV
  | [.dat (.sl .byte) a0 _] => (z12_ok a0, (.dat (.int .i64) (z12 a0) none))
  | _ => (false, .bad)
def s_z29 : List AV → Bool × AV
  | [.dat (.sl .byte) a0 _] => (z29_ok a0, (.tup [(.dat (.sl .byte) ((z29 a0).1) none), (.dat (.int .i64) ((z29 a0).2) none)]))
  | _ => (false, .bad)
def s_z55 : List AV → Bool × AV
  | [.dat (.sl .byte) a0 _] => (z55_ok a0, (.dat (.sl .byte) (z55 a0) (some (0, 5))))
  | _ => (false, .bad)
def s_z75 : List AV → Bool × AV
  | [.dat (.int .i64) a0 _] => (z75_ok a0, (.dat .byte (z75 a0) none))
  | _ => (false, .bad)
def s_z56 : List AV → Bool × AV
  | [.dat .byte a0 _] => (true, (.dat (.sl .byte) (z56 a0) (some (2, 5))))
  | _ => (false, .bad)
def s_z42 : List AV → Bool × AV
  | [.dat (.sl .byte) a0 _, .dat .byte a1 _, .dat .byte a2 _] => (z42_ok a0 a1 a2, (.dat (.sl .byte) (z42 a0 a1 a2) (some (6, 5))))
  | _ => (false, .bad)
def s_z22 : List AV → Bool × AV
  | [.dat .byte a0 _, .dat .bool a1 _] => (true, (.dat (.sl .byte) (z22 a0 a1) (some (4, 5))))
  | _ => (false, .bad)
def s_z40 : List AV → Bool × AV
  | [.pbox (.ppair (.osl 5 .byte) (.ppair (.leaf (.int .i64)) (.leaf .unit))) a0 none, .dat .bool a1 _] => ((z40_ok a0 a1), .tup [(.tup []), (.pbox (.ppair (.osl 5 .byte) (.ppair (.leaf (.int .i64)) (.leaf .unit))) (z40 a0 a1) none), .bad])
  | _ => (false, .bad)
def s_z38 : List AV → Bool × AV
  | [.pbox (.ppair (.osl 5 .byte) (.ppair (.leaf (.int .i64)) (.leaf .unit))) a0 none, .dat (.sl .byte) a1 _] => ((z38_ok a0 a1), .tup [(.tup []), (.pbox (.ppair (.osl 5 .byte) (.ppair (.leaf (.int .i64)) (.leaf .unit))) (z38 a0 a1) none), .bad])
  | _ => (false, .bad)
def s_z39 : List AV → Bool × AV
  | [.dat (.sl .byte) a0 _, .dat (.int .i64) a1 _] => (z39_ok a0 a1, (.dat (.int .i64) (z39 a0 a1) none))
  | _ => (false, .bad)
def s_z16 : List AV → Bool × AV
  | [.dat (.sl .byte) a0 _] => (z16_ok a0, (.dat (.sl .byte) (z16 a0) none))
  | _ => (false, .bad)
def s_z32 : List AV → Bool × AV
  | [.dat (.sl .byte) a0 _] => (z32_ok a0, (.dat (.sl .byte) (z32 a0) none))
  | _ => (false, .bad)
def s_z10 : List AV → Bool × AV
  | [.dat (.sl .byte) a0 _] => (true, (.dat .bool (z10 a0) none))
  | _ => (false, .bad)
theorem z82_sound : SoundG G Tryd.prog 82 s_z82 := fun w S hg vals avs r h hS ha => by
  unfold s_z82 at h
  split at h
  · simp only [Prod.mk.injEq, true_and] at h
    subst h
    exact z82_sound' Tryd.func82 (by kernel_rfl) (by kernel_rfl) (by kernel_rfl) (by kernel_rfl) hS ha
  · cases h
def s_z87 (m0 : Int) : List AV → Bool × AV
  | [.dat .str a0 _, .dat .str a1 _] => (z87_ok m0 a0 a1, (.dat (.int .i64) (z87 a0 a1) none))
  | _ => (false, .bad)
theorem z87_sound (m0 : Int) : SoundG (Gm m0) Tryd.prog 87 (s_z87 m0) := fun w S hg vals avs r h hS ha => by
  unfold s_z87 at h
  split at h
  · simp only [Prod.mk.injEq] at h
    obtain ⟨hp, rfl⟩ := h
    simp only [z87_ok, Bool.and_eq_true, decide_eq_true_eq] at hp
    have hm : w.cell? ⟨0, 0, none⟩ = some (.int .i64 m0) := by
      cases hg.2 0 (.int .i64) m0 rfl with
      | adr _ _ ad cs h1 h2 =>
        have e : cs = [.int .i64 m0] := h1
        subst e
        exact ((h2.2 (by simp)).2 0 _ rfl).2
    exact z87_sound' Tryd.func87 (by kernel_rfl) (by kernel_rfl) (by kernel_rfl) (by kernel_rfl) (g := 0) (by kernel_rfl) hm hS ha hp.1.1 hp.1.2 hp.2
  · cases h
theorem z83_sound : SoundG G Tryd.prog 83 s_z83 := fun w S hg vals avs r h hS ha => by
  unfold s_z83 at h
  split at h
  · simp only [Prod.mk.injEq] at h
    cases h.1
  · cases h
theorem z86_sound : SoundG G Tryd.prog 86 s_z86 := fun w S hg vals avs r h hS ha => by
  unfold s_z86 at h
  split at h
  · simp only [Prod.mk.injEq] at h
    obtain ⟨hp, rfl⟩ := h
    obtain ⟨m, hm⟩ := hg
    exact z86_sound' hm.1 hS ha (by simpa [z86_ok] using hp)
  · cases h
theorem z49_sound : SoundG G Tryd.prog 49 s_z49 := fun w S hg vals avs r h hS ha => by
  unfold s_z49 at h
  split at h
  · simp only [Prod.mk.injEq] at h
    obtain ⟨hp, rfl⟩ := h
    unfold z49_ok at hp
    simp only [Bool.and_eq_true, decide_eq_true_eq] at hp
    obtain ⟨m, hm⟩ := hg
    have hc : w.cell? ⟨0, 0, none⟩ = some (.int .i64 m) := by
      cases hm.2 0 (.int .i64) m rfl with
      | adr _ _ ad cs h1 h2 =>
        have e : cs = [.int .i64 m] := h1
        subst e
        exact ((h2.2 (by simp)).2 0 _ rfl).2
    exact z49_sound' hc hS ha (lenOk_le hp.1) (lenOk_le hp.2.1) hp.2.2
  · cases h
theorem z55_sound : SoundG G Tryd.prog 55 s_z55 := fun w S hg vals avs r h hS ha => by
  unfold s_z55 at h
  split at h
  · simp only [Prod.mk.injEq] at h
    obtain ⟨hp, rfl⟩ := h
    exact z55_sound' hS ha (lenOk_le hp)
  · cases h
theorem z80_sound : SoundG G Tryd.prog 80 s_z80 := fun w S hg vals avs r h hS ha => by
  unfold s_z80 at h
  split at h
  · simp only [Prod.mk.injEq] at h
    cases h.1
  · cases h
noncomputable def E_z18 : EnvP := ⟨⟨tiOf tis, fnsOf [], cnsOf [], [], 26, (fun x => if x = 4 then some [0, 1, 5] else none), (fun x => if x = 0 then some [] else if x = 1 then some [0, 1, 5] else none), some [4]⟩, fun _ => none, fun _ => none, fun _ => [], fun _ => none, fun _ => none, fun _ => none⟩
noncomputable def C_z18 : Code := Tryd.f18.body.getD .skip
noncomputable def R_z18 : Array ResultVar := Tryd.f18.results
theorem z18_l4_ok (K : Ex → Fr → Option AV) : ∀ (n : Nat) (a0 : List UInt8) (b1 : List UInt8) (i5 : Int), evLP E_z18 n (sub C_z18 [1, 1, 0, 1, 0, 0]) K (frOf [(0, (.dat (.sl .byte) a0 none)), (1, (.dat (.sl .byte) b1 none)), (5, (.dat (.int .i64) i5 none))]) = z18_l4 (fun s4 => K .ret (frOf [(4, (.dat .bool s4 none))])) (K (.exit 0) (frOf [])) n a0 b1 i5 := by
  intro n
  induction n with
  | zero => intros; rfl
  | succ n IH =>
  intro a0 b1 i5
  have ih : (fun a0 b1 i5 => evLP E_z18 n (sub C_z18 [1, 1, 0, 1, 0, 0]) K (frOf [(0, (.dat (.sl .byte) a0 none)), (1, (.dat (.sl .byte) b1 none)), (5, (.dat (.int .i64) i5 none))])) = z18_l4 (fun s4 => K .ret (frOf [(4, (.dat .bool s4 none))])) (K (.exit 0) (frOf [])) n := by
    funext a0 b1 i5
    exact IH a0 b1 i5
  show _ = z18_l4_b (fun s4 => K .ret (frOf [(4, (.dat .bool s4 none))])) (K (.exit 0) (frOf [])) (z18_l4 (fun s4 => K .ret (frOf [(4, (.dat .bool s4 none))])) (K (.exit 0) (frOf [])) n) n a0 b1 i5
  rw [← ih]
  kernel_rfl
theorem z18_k4_0_ok (n : Nat)  : (kBlockP 0 (E_z18.cutb 0) (kSeq (evCP E_z18 (evLP E_z18 n) (sub C_z18 [1, 1, 1])) (kFnP E_z18 R_z18))) (.exit 0) (frOf []) = z18_k4_0 n  := by
  kernel_rfl
theorem z18_ev (n : Nat) (a0 : List UInt8) (o0 : Lab) (b1 : List UInt8) (o1 : Lab) : evFnP E_z18 n C_z18 R_z18 [.dat (.sl .byte) a0 o0, .dat (.sl .byte) b1 o1] = z18_sh n a0 b1 := by
  unfold z18_sh
  rw [show z18_l4 z18_ret (z18_k4_0 n) n = (fun a0 b1 i5 => evLP E_z18 n (sub C_z18 [1, 1, 0, 1, 0, 0]) (kBlockP 0 (E_z18.cutb 0) (kSeq (evCP E_z18 (evLP E_z18 n) (sub C_z18 [1, 1, 1])) (kFnP E_z18 R_z18))) (frOf [(0, (.dat (.sl .byte) a0 none)), (1, (.dat (.sl .byte) b1 none)), (5, (.dat (.int .i64) i5 none))])) from by
    funext a0 b1 i5
    refine Eq.trans ?_ (z18_l4_ok (kBlockP 0 (E_z18.cutb 0) (kSeq (evCP E_z18 (evLP E_z18 n) (sub C_z18 [1, 1, 1])) (kFnP E_z18 R_z18))) n a0 b1 i5).symm
    rw [show ((kBlockP 0 (E_z18.cutb 0) (kSeq (evCP E_z18 (evLP E_z18 n) (sub C_z18 [1, 1, 1])) (kFnP E_z18 R_z18))) (.exit 0) (frOf [])) = (z18_k4_0 n) from by
      exact z18_k4_0_ok n ]
    all_goals kernel_rfl]
  kernel_rfl
theorem z18_sound : SoundG G Tryd.prog 18 s_z18 := by
  refine sound_of_evP' G_stays (E := E_z18) (fn := Tryd.f18) (c := C_z18) (tyOk_of_table rfl tis_ok) (fun w S hg => ⟨⟨fns_nil, fun f sp h => cns_nil f sp h w S⟩, gl_none w S hg, (fun _ _ h => by cases h), (fun f sp h => rns_nil f sp h), (fun f it h => its_nil f it h)⟩) follows Tryd.func18 (by kernel_rfl) (by kernel_rfl) (by kernel_rfl) ?_
  intro avs r h
  unfold s_z18 at h
  split at h
  · simp only [Prod.mk.injEq] at h
    obtain ⟨hp, rfl⟩ := h
    obtain ⟨n, hn⟩ := z18_math _ _ hp
    exact ⟨n, _, (z18_ev n _ _ _ _).trans hn, .inl rfl⟩
  · cases h
noncomputable def E_z21 : EnvP := ⟨⟨tiOf tis, fnsOf [], cnsOf [], [], 56, (fun x => if x = 3 then some [0, 3, 4] else none), (fun x => if x = 0 then some [3] else if x = 1 then some [0, 3, 4] else none), some [2]⟩, fun _ => none, fun _ => none, fun _ => [], fun _ => none, fun _ => none, fun _ => none⟩
noncomputable def C_z21 : Code := Tryd.f21.body.getD .skip
noncomputable def R_z21 : Array ResultVar := Tryd.f21.results
theorem z21_l3_ok (K : Ex → Fr → Option AV) : ∀ (n : Nat) (s0 : List UInt8) (out3 : List UInt8) (i4 : Int), evLP E_z21 n (sub C_z21 [1, 1, 0, 1, 0, 0]) K (frOf [(0, (.dat (.sl .byte) s0 none)), (3, (.dat (.sl .byte) out3 (some (3, 5)))), (4, (.dat (.int .i64) i4 none))]) = z21_l3 (fun out3 => K (.exit 0) (frOf [(3, (.dat (.sl .byte) out3 (some (3, 5))))])) n s0 out3 i4 := by
  intro n
  induction n with
  | zero => intros; rfl
  | succ n IH =>
  intro s0 out3 i4
  have ih : (fun s0 out3 i4 => evLP E_z21 n (sub C_z21 [1, 1, 0, 1, 0, 0]) K (frOf [(0, (.dat (.sl .byte) s0 none)), (3, (.dat (.sl .byte) out3 (some (3, 5)))), (4, (.dat (.int .i64) i4 none))])) = z21_l3 (fun out3 => K (.exit 0) (frOf [(3, (.dat (.sl .byte) out3 (some (3, 5))))])) n := by
    funext s0 out3 i4
    exact IH s0 out3 i4
  show _ = z21_l3_b (fun out3 => K (.exit 0) (frOf [(3, (.dat (.sl .byte) out3 (some (3, 5))))])) (z21_l3 (fun out3 => K (.exit 0) (frOf [(3, (.dat (.sl .byte) out3 (some (3, 5))))])) n) n s0 out3 i4
  rw [← ih]
  kernel_rfl
theorem z21_k3_0_ok (n : Nat) (out3 : List UInt8) : (kBlockP 0 (E_z21.cutb 0) (kSeq (evCP E_z21 (evLP E_z21 n) (sub C_z21 [1, 1, 1])) (kFnP E_z21 R_z21))) (.exit 0) (frOf [(3, (.dat (.sl .byte) out3 (some (3, 5))))]) = z21_k3_0 n out3 := by
  kernel_rfl
theorem z21_ev (n : Nat) (s0 : List UInt8) (o0 : Lab) : evFnP E_z21 n C_z21 R_z21 [.dat (.sl .byte) s0 o0] = z21_sh n s0 := by
  unfold z21_sh
  rw [show z21_l3 (z21_k3_0 n) n = (fun s0 out3 i4 => evLP E_z21 n (sub C_z21 [1, 1, 0, 1, 0, 0]) (kBlockP 0 (E_z21.cutb 0) (kSeq (evCP E_z21 (evLP E_z21 n) (sub C_z21 [1, 1, 1])) (kFnP E_z21 R_z21))) (frOf [(0, (.dat (.sl .byte) s0 none)), (3, (.dat (.sl .byte) out3 (some (3, 5)))), (4, (.dat (.int .i64) i4 none))])) from by
    funext s0 out3 i4
    refine Eq.trans ?_ (z21_l3_ok (kBlockP 0 (E_z21.cutb 0) (kSeq (evCP E_z21 (evLP E_z21 n) (sub C_z21 [1, 1, 1])) (kFnP E_z21 R_z21))) n s0 out3 i4).symm
    rw [show (fun out3 => (kBlockP 0 (E_z21.cutb 0) (kSeq (evCP E_z21 (evLP E_z21 n) (sub C_z21 [1, 1, 1])) (kFnP E_z21 R_z21))) (.exit 0) (frOf [(3, (.dat (.sl .byte) out3 (some (3, 5))))])) = (z21_k3_0 n) from by
      funext out3
      exact z21_k3_0_ok n out3]
    all_goals kernel_rfl]
  kernel_rfl
theorem z21_sound : SoundG G Tryd.prog 21 s_z21 := by
  refine sound_of_evP' G_stays (E := E_z21) (fn := Tryd.f21) (c := C_z21) (tyOk_of_table rfl tis_ok) (fun w S hg => ⟨⟨fns_nil, fun f sp h => cns_nil f sp h w S⟩, gl_none w S hg, (fun _ _ h => by cases h), (fun f sp h => rns_nil f sp h), (fun f it h => its_nil f it h)⟩) follows Tryd.func21 (by kernel_rfl) (by kernel_rfl) (by kernel_rfl) ?_
  intro avs r h
  unfold s_z21 at h
  split at h
  · simp only [Prod.mk.injEq] at h
    obtain ⟨hp, rfl⟩ := h
    obtain ⟨n, hn⟩ := z21_math _ hp
    exact ⟨n, _, (z21_ev n _ _).trans hn, .inl rfl⟩
  · cases h
end Go.Av
