import Derived.Shelf.Bytes.SlIndexWhole
namespace Go.Proofs
set_option linter.unusedVariables false
set_option linter.unusedSimpArgs false
open Go.Shelf Go.RowKit Go.Lib
variable {P:Program} {ρ:Ren}
set_option maxHeartbeats 2000000 in
set_option maxRecDepth 1000000 in
theorem qge (L:Lays.n187 P ρ) (cap:Nat) (cv:Int) (w:World) :
 Calls P (ρ.f 187) #[.slice none 0 cap,.int .u8 cv] w fun e w'=>e=.returned (.int .i64 (-1))∧w'=w:=by
 have t3:=L.t3; have t5:=L.t5; have t37:=L.t37
 have a3:=L.a3; have a5:=L.a5; have a37:=L.a37
 go_enter L.f187,Body.n187_ntmps ρ
 go_wp2
 rw [run_callFunc_extern L.f255 (by kernel_rfl) (by kernel_rfl) (by kernel_rfl) (e:=Extern.BytealgIndexByte.indexByte) (by kernel_rfl),Lib.run_indexByteNil w 0 cap cv];simp only [Result.andThen];rw [Oper.upon_value]
 go_wp2
 go_ret
 exact ⟨rfl,rfl⟩
set_option maxHeartbeats 2000000 in
set_option maxRecDepth 1000000 in
theorem qlg (L:Lays.n185 P ρ) (cap b2 o2 d:Nat) (cv:Int) (w:World) (hc2:w.cell? ⟨b2,o2,none⟩=some (.int .u8 cv)) :
 Calls P (ρ.f 185) #[.slice none 0 cap,.slice (some ⟨b2,o2,none⟩) 1 d] w fun e w'=>e=.returned (.int .i64 (-1))∧w'=w:=by
 have mixed:=L.mixed; have t0:=L.t0; have a0:=L.a0; have z0:=L.z0; have v0:=L.v0; have t3:=L.t3; have a3:=L.a3; have z3:=L.z3; have v3:=L.v3; have t4:=L.t4; have a4:=L.a4; have z4:=L.z4; have v4:=L.v4; have t5:=L.t5; have a5:=L.a5; have z5:=L.z5; have v5:=L.v5; have t9:=L.t9; have a9:=L.a9; have z9:=L.z9; have v9:=L.v9; have t37:=L.t37; have a37:=L.a37; have z37:=L.z37; have v37:=L.v37; have t46:=L.t46; have a46:=L.a46; have z46:=L.z46; have v46:=L.v46; have t51:=L.t51; have a51:=L.a51; have z51:=L.z51; have v51:=L.v51; have t146:=L.t146; have a146:=L.a146; have z146:=L.z146; have v146:=L.v146; have g1:=L.g1
 have e187:∀ args w,(callFunc (ρ.f 187) args).run P w=.ok (.enter (ρ.f 187) args) w:=enters_of L.f187 (by kernel_rfl) rfl
 go_enter L.f185,Body.n185_ntmps ρ
 go_wp2_with (go_at_fn (ρ.f 187); refine (qge (P:=P) (ρ:=ρ) { L with } cap cv _).mono ?_; rintro e w' ⟨rfl,rfl⟩)
 go_ret
 exact ⟨rfl,rfl⟩
end Go.Proofs
