import Derived.Test.YtabdohophompiaaGreatDoorPxEvH
import Derived.Test.YtabdohophompiaaGreatDoorPxN
import Derived.Test.YtabdohophompiaaGreatDoorProg
import Derived.KernelRfl
namespace Go.Av
set_option linter.unusedSimpArgs false
noncomputable section
open Go.Proofs
set_option maxRecDepth 100000
set_option linter.unusedVariables false
def E_z39:EnvP:=eQ [(67,s_z67),(68,s_z68),(69,s_z69),(70,s_z70),(71,s_z71)] 63 (some [2,3]) nC nC nP
def C_z39:Code:=cO Tryz.f39
def R_z39:Array ResultVar:=Tryz.f39.results
theorem qFj (n:Nat) (part0:List UInt8) (o0:Lab):evFnP E_z39 n C_z39 R_z39 [db part0 o0]=qBp n part0:=by
 kernel_rfl
theorem quV:qh G Tryz.prog 39 s_z39:=by
 refine sQ (E:=E_z39) (c:=C_z39) rfl (fun w S hg=>(qb (qfE w S hg) (qb (qnz w S hg) (qb (qwe w S hg) (qb (qwf w S hg) (qb (qwl w S hg) qc)))))) Tryz.func39 ?_;intro avs r h;unfold s_z39 at h;split at h
 ·obtain ⟨hp,rfl⟩:=yj h;obtain ⟨n,hn⟩:=qAD _ hp;exact ⟨n,_,(qFj n _ _).trans hn,.inl rfl⟩
 ·cases h
def E_z40:EnvP:=eQ [(67,s_z67)] 8 (some [2]) nC nC nP
def C_z40:Code:=cO Tryz.f40
def R_z40:Array ResultVar:=Tryz.f40.results
theorem qFk (n:Nat) (part0:List UInt8) (o0:Lab):evFnP E_z40 n C_z40 R_z40 [db part0 o0]=qBq n part0:=by
 kernel_rfl
theorem quW:qh G Tryz.prog 40 s_z40:=by
 refine sQ (E:=E_z40) (c:=C_z40) rfl (fun w S hg=>(qb (qfE w S hg) qc)) Tryz.func40 ?_;intro avs r h;unfold s_z40 at h;split at h
 ·obtain ⟨hp,rfl⟩:=yj h;obtain ⟨n,hn⟩:=qAC _ hp;exact ⟨n,_,(qFk n _ _).trans hn,.inl rfl⟩
 ·cases h
def E_z20:EnvP:=eQ [(38,s_z38),(39,s_z39),(40,s_z40)] 42 (some [2,3]) (fun x=>if x=5 then some [4,5,6,7] else none) (fun x=>if x=0 then some [4,5] else if x=1 then some [4,5,6,7] else none) nP
def C_z20:Code:=cO Tryz.f20
def R_z20:Array ResultVar:=Tryz.f20.results
noncomputable def qjQ (K:Ex→Fr→Option AV):=fun out4 bad5=>K (.exit 0) (frOf [(4,(.dat (.sl (.pair (.sl .byte) (.pair (.int .i64) (.pair .bool (.pair (.sl .byte) .unit))))) out4 (some (4,46)))),(5,dc bad5)])
def qmP (n:Nat):Ex→Fr→Option AV:=qz 0 (E_z20.cutb 0) (kSeq (evCP E_z20 (evLP E_z20 n) (sub C_z20 [1,1,1,1,1])) (kFnP E_z20 R_z20))
def qra (out4:List ((List UInt8)×(Int×(Bool×((List UInt8)×Unit))))) (bad5:Int) (l6:List (List UInt8)) (i7:Int):Fr:=frOf [(4,(.dat (.sl (.pair (.sl .byte) (.pair (.int .i64) (.pair .bool (.pair (.sl .byte) .unit))))) out4 (some (4,46)))),(5,dc bad5),(6,(.dat (.sl (.sl .byte)) l6 (some (6,22)))),(7,dc i7)]
theorem quX (K:Ex→Fr→Option AV):∀ (n:Nat) (out4:List ((List UInt8)×(Int×(Bool×((List UInt8)×Unit))))) (bad5:Int) (l6:List (List UInt8)) (i7:Int),evLP E_z20 n (sub C_z20 [1,1,1,1,0,1,0,0]) K (qra out4 bad5 l6 i7)=qlW (qjQ K) n out4 bad5 l6 i7:=by
 intro n;induction n with
 | zero=>intros; rfl
 | succ n IH =>
 intro out4 bad5 l6 i7;have ih:(fun out4 bad5 l6 i7=>evLP E_z20 n (sub C_z20 [1,1,1,1,0,1,0,0]) K (qra out4 bad5 l6 i7))=qlW (qjQ K) n:=by
  funext out4 bad5 l6 i7;exact IH out4 bad5 l6 i7
 show _=qeU (qjQ K) (qlW (qjQ K) n) n out4 bad5 l6 i7;rw [← ih];kernel_rfl
theorem qoL (n:Nat) (out4:List ((List UInt8)×(Int×(Bool×((List UInt8)×Unit))))) (bad5:Int):(qmP n) (.exit 0) (frOf [(4,(.dat (.sl (.pair (.sl .byte) (.pair (.int .i64) (.pair .bool (.pair (.sl .byte) .unit))))) out4 (some (4,46)))),(5,dc bad5)])=qgV n out4 bad5:=by
 kernel_rfl
theorem qFl (n:Nat) (s0:List UInt8) (o0:Lab):evFnP E_z20 n C_z20 R_z20 [db s0 o0]=qxh n s0:=by
 unfold qxh;rw [show qlW (qgV n) n=(fun out4 bad5 l6 i7=>evLP E_z20 n (sub C_z20 [1,1,1,1,0,1,0,0]) (qmP n) (qra out4 bad5 l6 i7)) from by
  funext out4 bad5 l6 i7;refine Eq.trans ?_ (quX (qmP n) n out4 bad5 l6 i7).symm;rw [show (qjQ (qmP n))=(qgV n) from by
   funext out4 bad5;exact qoL n out4 bad5]
  all_goals kernel_rfl]
 kernel_rfl
theorem quY:qh G Tryz.prog 20 s_z20:=by
 refine sQ (E:=E_z20) (c:=C_z20) rfl (fun w S hg=>(qb (qwc w S hg) (qb (quV w S hg) (qb (quW w S hg) qc)))) Tryz.func20 ?_;intro avs r h;unfold s_z20 at h;split at h
 ·obtain ⟨hp,rfl⟩:=yj h;obtain ⟨n,hn⟩:=qAE _ hp;exact ⟨n,_,(qFl n _ _).trans hn,.inl rfl⟩
 ·cases h
def E_z5:EnvP:=eQ [(6,s_z6),(7,s_z7),(11,s_z11),(15,s_z15),(16,s_z16),(20,s_z20),(21,s_z21)] 93 (some [4]) (fun x=>if x=10 then some [0,1,7,55,56,57] else none) (fun x=>if x=0 then some [] else if x=1 then some [0,1,7,55,56,57] else none) nP
def C_z5:Code:=cO Tryz.f5
def R_z5:Array ResultVar:=Tryz.f5.results
noncomputable def quZ (K:Ex→Fr→Option AV):=fun s4=>K .ret (frOf [(4,dg s4)])
def qva (n:Nat):Ex→Fr→Option AV:=qz 0 (E_z5.cutb 0) (kSeq (evCP E_z5 (evLP E_z5 n) (sub C_z5 [1,1,1,1,1,1,1])) (kFnP E_z5 R_z5))
def qzz (name0:List UInt8) (t1:List Int) (l7:List ((List UInt8)×(Int×(Bool×((List UInt8)×Unit))))) (s55:List ((List UInt8)×(Int×(Bool×((List UInt8)×Unit))))) (s56:Int) (s57:Int):Fr:=frOf [(0,da name0),(1,(.dat (.sl (.int .i32)) t1 none)),(7,(.dat (.sl (.pair (.sl .byte) (.pair (.int .i64) (.pair .bool (.pair (.sl .byte) .unit))))) l7 none)),(55,(.dat (.sl (.pair (.sl .byte) (.pair (.int .i64) (.pair .bool (.pair (.sl .byte) .unit))))) s55 none)),(56,dc s56),(57,dc s57)]
theorem qvb (K:Ex→Fr→Option AV):∀ (n:Nat) (name0:List UInt8) (t1:List Int) (l7:List ((List UInt8)×(Int×(Bool×((List UInt8)×Unit))))) (s55:List ((List UInt8)×(Int×(Bool×((List UInt8)×Unit))))) (s56:Int) (s57:Int),evLP E_z5 n (sub C_z5 [1,1,1,1,1,1,0,1,0,0]) K (qzz name0 t1 l7 s55 s56 s57)=qkG (quZ K) (K (.exit 0) (frOf [])) n name0 t1 l7 s55 s56 s57:=by
 intro n;induction n with
 | zero=>intros; rfl
 | succ n IH =>
 intro name0 t1 l7 s55 s56 s57;have ih:(fun name0 t1 l7 s55 s56 s57=>evLP E_z5 n (sub C_z5 [1,1,1,1,1,1,0,1,0,0]) K (qzz name0 t1 l7 s55 s56 s57))=qkG (quZ K) (K (.exit 0) (frOf [])) n:=by
  funext name0 t1 l7 s55 s56 s57;exact IH name0 t1 l7 s55 s56 s57
 show _=qeW (quZ K) (K (.exit 0) (frOf [])) (qkG (quZ K) (K (.exit 0) (frOf [])) n) n name0 t1 l7 s55 s56 s57;rw [← ih];kernel_rfl
theorem qoM (n:Nat)  : (qva n) (.exit 0) (frOf [])=qeX n  := by
 kernel_rfl
theorem z5_ev (n:Nat) (name0:List UInt8) (o0:Lab) (t1:List Int) (o1:Lab):evFnP E_z5 n C_z5 R_z5 [db name0 o0,.dat (.sl (.int .i32)) t1 o1]=z5_sh n name0 t1:=by
 unfold z5_sh;rw [show qkG qeV (qeX n) n=(fun name0 t1 l7 s55 s56 s57=>evLP E_z5 n (sub C_z5 [1,1,1,1,1,1,0,1,0,0]) (qva n) (qzz name0 t1 l7 s55 s56 s57)) from by
  funext name0 t1 l7 s55 s56 s57;refine Eq.trans ?_ (qvb (qva n) n name0 t1 l7 s55 s56 s57).symm;rw [show ((qva n) (.exit 0) (frOf []))=(qeX n) from by
   exact qoM n ]
  all_goals kernel_rfl]
 kernel_rfl
theorem qzA:qh G Tryz.prog 5 s_z5:=by
 refine sQ (E:=E_z5) (c:=C_z5) rfl (fun w S hg=>(qb (qzD w S hg) (qb (qrR w S hg) (qb (qvW w S hg) (qb (qvX w S hg) (qb (qvY w S hg) (qb (quY w S hg) (qb (qnB w S hg) qc)))))))) Tryz.func5 ?_;intro avs r h;unfold s_z5 at h;split at h
 ·obtain ⟨hp,rfl⟩:=yj h;obtain ⟨n,hn⟩:=qEy _ _ hp;exact ⟨n,_,(z5_ev n _ _ _ _).trans hn,.inl rfl⟩
 ·cases h
end
end Go.Av
