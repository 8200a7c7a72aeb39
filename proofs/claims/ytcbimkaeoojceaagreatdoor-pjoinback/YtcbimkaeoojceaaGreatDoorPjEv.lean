import Derived.Test.YtcbimkaeoojceaaGreatDoorPjEvH
import Derived.Test.YtcbimkaeoojceaaGreatDoorPjU
import Derived.Test.YtcbimkaeoojceaaGreatDoorProg
import Derived.KernelRfl
namespace Go.Av
set_option linter.unusedSimpArgs false
set_option linter.unusedVariables false
noncomputable section
open Go.Proofs
set_option maxRecDepth 100000
def E_z13:EnvP:=eQ [(22,s_z22),(23,s_z23),(24,s_z24),(25,s_z25),(26,s_z26),(27,s_z27)] 115 (some [1000004,5]) (fun x=>if x=11 then some [0,8,10,12,13] else if x=19 then some [0,10,14,15,16] else none) (fun x=>if x=0 then some [0,8,10,12] else if x=1 then some [0,8,10,12,13] else if x=2 then some [14] else if x=3 then some [0,10,14,15,16] else none) (fun x=>if x=67 then some (.psl 22 (.osl 5 .byte)) else if x=98 then some (.psl 22 (.osl 5 .byte)) else if x=99 then some (.psl 22 (.osl 5 .byte)) else if x=112 then some (.osl 5 .byte) else none)
def C_z13:Code:=cO Tryz.f13
def R_z13:Array ResultVar:=Tryz.f13.results
noncomputable def qmR (K:Ex→Fr→OA):=fun name0 n8 units10 whole12=>K (.exit 0) (frOf [(0,da name0),(8,dc n8),(10,(.dat (.sl (.sl .byte)) units10 none)),(12,(db whole12 (some (12,5))))])
noncomputable def qmS (K:Ex→Fr→OA):=fun out14=>K (.exit 2) (frOf [(14,(.pv (.psl 22 (.osl 5 .byte)) out14 none))])
def qqU (n:Nat):Ex→Fr→OA:=qw 2 (E_z13.cutb 2) (kSeq (evCP E_z13 (evLP E_z13 n) (sub C_z13 [1,1,1,1,1,1,1,1,1,1,1])) (kFnP E_z13 R_z13))
def qqV (n:Nat):Ex→Fr→OA:=qw 0 (E_z13.cutb 0) (kSeq (evCP E_z13 (evLP E_z13 n) (sub C_z13 [1,1,1,1,1,1,1])) (kFnP E_z13 R_z13))
def qwW (name0:LU) (n8:Int) (units10:List LU) (whole12:LU) (i13:Int):Fr:=frOf [(0,da name0),(8,dc n8),(10,(.dat (.sl (.sl .byte)) units10 none)),(12,(db whole12 (some (12,5)))),(13,dc i13)]
def qwX (name0:LU) (units10:List LU) (out14:List LU) (fresh15:Bool) (i16:Int):Fr:=frOf [(0,da name0),(10,(.dat (.sl (.sl .byte)) units10 none)),(14,(.pv (.psl 22 (.osl 5 .byte)) out14 none)),(15,dg fresh15),(16,dc i16)]
theorem qwY (K:Ex→Fr→OA):∀ (n:Nat) (name0:LU) (n8:Int) (units10:List LU) (whole12:LU) (i13:Int),evLP E_z13 n (sub C_z13 [1,1,1,1,1,1,0,1,0,0]) K (qwW name0 n8 units10 whole12 i13)=qgP (qmR K) n name0 n8 units10 whole12 i13:=by
 intro n;induction n with
 | zero=>intros; rfl
 | succ n IH =>
 intro name0 n8 units10 whole12 i13;have ih:(fun name0 n8 units10 whole12 i13=>evLP E_z13 n (sub C_z13 [1,1,1,1,1,1,0,1,0,0]) K (qwW name0 n8 units10 whole12 i13))=qgP (qmR K) n:=by
  funext name0 n8 units10 whole12 i13;exact IH name0 n8 units10 whole12 i13
 show _=qdP (qmR K) (qgP (qmR K) n) n name0 n8 units10 whole12 i13;rw [← ih];kernel_rfl
theorem qwZ (K:Ex→Fr→OA):∀ (n:Nat) (name0:LU) (units10:List LU) (out14:List LU) (fresh15:Bool) (i16:Int),evLP E_z13 n (sub C_z13 [1,1,1,1,1,1,1,1,1,1,0,1,0,0]) K (qwX name0 units10 out14 fresh15 i16)=qjc (qmS K) n name0 units10 out14 fresh15 i16:=by
 intro n;induction n with
 | zero=>intros; rfl
 | succ n IH =>
 intro name0 units10 out14 fresh15 i16;have ih:(fun name0 units10 out14 fresh15 i16=>evLP E_z13 n (sub C_z13 [1,1,1,1,1,1,1,1,1,1,0,1,0,0]) K (qwX name0 units10 out14 fresh15 i16))=qjc (qmS K) n:=by
  funext name0 units10 out14 fresh15 i16;exact IH name0 units10 out14 fresh15 i16
 show _=qdQ (qmS K) (qjc (qmS K) n) n name0 units10 out14 fresh15 i16;rw [← ih];kernel_rfl
theorem qoL (n:Nat) (out14:List LU):(qqU n) (.exit 2) (frOf [(14,(.pv (.psl 22 (.osl 5 .byte)) out14 none))])=qfr n out14:=by
 kernel_rfl
theorem qoM (n:Nat) (name0:LU) (n8:Int) (units10:List LU) (whole12:LU):(qqV n) (.exit 0) (frOf [(0,da name0),(8,dc n8),(10,(.dat (.sl (.sl .byte)) units10 none)),(12,(db whole12 (some (12,5))))])=qdR n name0 n8 units10 whole12:=by
 unfold qdR;rw [show qjc (qfr n) n=(fun name0 units10 out14 fresh15 i16=>evLP E_z13 n (sub C_z13 [1,1,1,1,1,1,1,1,1,1,0,1,0,0]) (qqU n) (qwX name0 units10 out14 fresh15 i16)) from by
  funext name0 units10 out14 fresh15 i16;refine Eq.trans ?_ (qwZ (qqU n) n name0 units10 out14 fresh15 i16).symm;rw [show (qmS (qqU n))=(qfr n) from by
   funext out14;exact qoL n out14]
  all_goals kernel_rfl]
 kernel_rfl
theorem qPt (n:Nat) (name0:LU) (o0:Lab) (t1:LI) (o1:Lab):evFnP E_z13 n C_z13 R_z13 [db name0 o0,.dat (.sl (.int .i32)) t1 o1]=qFk n name0 t1:=by
 unfold qFk;rw [show qgP (qdR n) n=(fun name0 n8 units10 whole12 i13=>evLP E_z13 n (sub C_z13 [1,1,1,1,1,1,0,1,0,0]) (qqV n) (qwW name0 n8 units10 whole12 i13)) from by
  funext name0 n8 units10 whole12 i13;refine Eq.trans ?_ (qwY (qqV n) n name0 n8 units10 whole12 i13).symm;rw [show (qmR (qqV n))=(qdR n) from by
   funext name0 n8 units10 whole12;exact qoM n name0 n8 units10 whole12]
  all_goals kernel_rfl]
 kernel_rfl
theorem qCf:qf G Tryz.prog 13 s_z13:=by
 refine sQ (E:=E_z13) (c:=C_z13) rfl (fun w S hg=>(qa (qrS w S hg) (qa (qDH w S hg) (qa (qsl w S hg) (qa (qDY w S hg) (qa (qEa w S hg) (qa (qEc w S hg) qd))))))) Tryz.func13 ?_;intro avs r h;unfold s_z13 at h;split at h
 ·obtain ⟨hp,rfl⟩:=yj h;obtain ⟨n,hn⟩:=qLn _ _ hp;exact ⟨n,_,(qPt n _ _ _ _).trans hn,.inl rfl⟩
 ·cases h
def E_z6:EnvP:=eQ [(13,s_z13)] 32 (some [4,5]) (fun x=>if x=4 then some [6,7,8,9] else none) (fun x=>if x=0 then some [7,8] else if x=1 then some [6,7,8,9] else none) nP
def C_z6:Code:=cO Tryz.f6
def R_z6:Array ResultVar:=Tryz.f6.results
noncomputable def qxa (K:Ex→Fr→OA):=fun e7 out8=>K (.exit 0) (frOf [(7,dc e7),(8,(db out8 (some (8,5))))])
def qCg (n:Nat):Ex→Fr→OA:=qw 0 (E_z6.cutb 0) (kSeq (evCP E_z6 (evLP E_z6 n) (sub C_z6 [1,1,1,1])) (kFnP E_z6 R_z6))
def qIc (l6:List LU) (e7:Int) (out8:LU) (i9:Int):Fr:=frOf [(6,(.dat (.sl (.sl .byte)) l6 none)),(7,dc e7),(8,(db out8 (some (8,5)))),(9,dc i9)]
theorem qId (K:Ex→Fr→OA):∀ (n:Nat) (l6:List LU) (e7:Int) (out8:LU) (i9:Int),evLP E_z6 n (sub C_z6 [1,1,1,0,1,0,0]) K (qIc l6 e7 out8 i9)=z6_l4 (qxa K) n l6 e7 out8 i9:=by
 intro n;induction n with
 | zero=>intros; rfl
 | succ n IH =>
 intro l6 e7 out8 i9;have ih:(fun l6 e7 out8 i9=>evLP E_z6 n (sub C_z6 [1,1,1,0,1,0,0]) K (qIc l6 e7 out8 i9))=z6_l4 (qxa K) n:=by
  funext l6 e7 out8 i9;exact IH l6 e7 out8 i9
 show _=qjW (qxa K) (z6_l4 (qxa K) n) n l6 e7 out8 i9;rw [← ih];kernel_rfl
theorem qxb (n:Nat) (e7:Int) (out8:LU):(qCg n) (.exit 0) (frOf [(7,dc e7),(8,(db out8 (some (8,5))))])=qjX n e7 out8:=by
 kernel_rfl
theorem z6_ev (n:Nat) (name0:LU) (o0:Lab) (t1:LI) (o1:Lab):evFnP E_z6 n C_z6 R_z6 [db name0 o0,.dat (.sl (.int .i32)) t1 o1]=z6_sh n name0 t1:=by
 unfold z6_sh;rw [show z6_l4 (qjX n) n=(fun l6 e7 out8 i9=>evLP E_z6 n (sub C_z6 [1,1,1,0,1,0,0]) (qCg n) (qIc l6 e7 out8 i9)) from by
  funext l6 e7 out8 i9;refine Eq.trans ?_ (qId (qCg n) n l6 e7 out8 i9).symm;rw [show (qxa (qCg n))=(qjX n) from by
   funext e7 out8;exact qxb n e7 out8]
  all_goals kernel_rfl]
 kernel_rfl
theorem qIe:qf G Tryz.prog 6 s_z6:=by
 refine sQ (E:=E_z6) (c:=C_z6) rfl (fun w S hg=>(qa (qCf w S hg) qd)) Tryz.func6 ?_;intro avs r h;unfold s_z6 at h;split at h
 ·obtain ⟨hp,rfl⟩:=yj h;obtain ⟨n,hn⟩:=qOX _ _ hp;exact ⟨n,_,(z6_ev n _ _ _ _).trans hn,.inl rfl⟩
 ·cases h
def E_z8:EnvP:=eQ [] 26 (some [4]) (fun x=>if x=4 then some [0,1,5] else none) (fun x=>if x=0 then some [] else if x=1 then some [0,1,5] else none) nP
def C_z8:Code:=cO Tryz.f8
def R_z8:Array ResultVar:=Tryz.f8.results
noncomputable def qCh (K:Ex→Fr→OA):=fun s4=>K .ret (frOf [(4,dg s4)])
def qCi (n:Nat):Ex→Fr→OA:=qw 0 (E_z8.cutb 0) (kSeq (evCP E_z8 (evLP E_z8 n) (sub C_z8 [1,1,1])) (kFnP E_z8 R_z8))
def qIf (a0:LU) (b1:LU) (i5:Int):Fr:=frOf [(0,da a0),(1,da b1),(5,dc i5)]
theorem qIg (K:Ex→Fr→OA):∀ (n:Nat) (a0:LU) (b1:LU) (i5:Int),evLP E_z8 n (sub C_z8 [1,1,0,1,0,0]) K (qIf a0 b1 i5)=z8_l4 (qCh K) (K (.exit 0) (frOf [])) n a0 b1 i5:=by
 intro n;induction n with
 | zero=>intros; rfl
 | succ n IH =>
 intro a0 b1 i5;have ih:(fun a0 b1 i5=>evLP E_z8 n (sub C_z8 [1,1,0,1,0,0]) K (qIf a0 b1 i5))=z8_l4 (qCh K) (K (.exit 0) (frOf [])) n:=by
  funext a0 b1 i5;exact IH a0 b1 i5
 show _=qjY (qCh K) (K (.exit 0) (frOf [])) (z8_l4 (qCh K) (K (.exit 0) (frOf [])) n) n a0 b1 i5;rw [← ih];kernel_rfl
theorem qxc (n:Nat)  : (qCi n) (.exit 0) (frOf [])=qtc n  := by
 kernel_rfl
theorem z8_ev (n:Nat) (a0:LU) (o0:Lab) (b1:LU) (o1:Lab):evFnP E_z8 n C_z8 R_z8 [db a0 o0,db b1 o1]=z8_sh n a0 b1:=by
 unfold z8_sh;rw [show z8_l4 qvl (qtc n) n=(fun a0 b1 i5=>evLP E_z8 n (sub C_z8 [1,1,0,1,0,0]) (qCi n) (qIf a0 b1 i5)) from by
  funext a0 b1 i5;refine Eq.trans ?_ (qIg (qCi n) n a0 b1 i5).symm;rw [show ((qCi n) (.exit 0) (frOf []))=(qtc n) from by
   exact qxc n ]
  all_goals kernel_rfl]
 kernel_rfl
theorem qIh:qf G Tryz.prog 8 s_z8:=by
 refine sQ (E:=E_z8) (c:=C_z8) rfl (fun w S hg=>qd) Tryz.func8 ?_;intro avs r h;unfold s_z8 at h;split at h
 ·obtain ⟨hp,rfl⟩:=yj h;obtain ⟨n,hn⟩:=qOL _ _ hp;exact ⟨n,_,(z8_ev n _ _ _ _).trans hn,.inl rfl⟩
 ·cases h
def E_z16:EnvP:=eQ [] 12 (some [2]) nC nC nP
def C_z16:Code:=cO Tryz.f16
def R_z16:Array ResultVar:=Tryz.f16.results
theorem qPu (n:Nat) (c0:UInt8) (o0:Lab):evFnP E_z16 n C_z16 R_z16 [dp c0 o0]=qKp n c0:=by
 kernel_rfl
theorem qCj:qf G Tryz.prog 16 s_z16:=by
 refine sQ (E:=E_z16) (c:=C_z16) rfl (fun w S hg=>qd) Tryz.func16 ?_;intro avs r h;unfold s_z16 at h;split at h <;> cases h
 obtain ⟨n,hn⟩:=qLo _;exact ⟨n,_,(qPu n _ _).trans hn,.inl rfl⟩
def E_z9:EnvP:=eQ [(16,s_z16)] 20 (some [2]) (fun x=>if x=3 then some [0,3,4] else none) (fun x=>if x=0 then some [3] else if x=1 then some [0,3,4] else none) nP
def C_z9:Code:=cO Tryz.f9
def R_z9:Array ResultVar:=Tryz.f9.results
noncomputable def qxd (K:Ex→Fr→OA):=fun out3=>K (.exit 0) (frOf [(3,(db out3 (some (3,5))))])
def qCk (n:Nat):Ex→Fr→OA:=qw 0 (E_z9.cutb 0) (kSeq (evCP E_z9 (evLP E_z9 n) (sub C_z9 [1,1,1])) (kFnP E_z9 R_z9))
def qIi (s0:LU) (out3:LU) (i4:Int):Fr:=frOf [(0,da s0),(3,(db out3 (some (3,5)))),(4,dc i4)]
theorem qIj (K:Ex→Fr→OA):∀ (n:Nat) (s0:LU) (out3:LU) (i4:Int),evLP E_z9 n (sub C_z9 [1,1,0,1,0,0]) K (qIi s0 out3 i4)=z9_l3 (qxd K) n s0 out3 i4:=by
 intro n;induction n with
 | zero=>intros; rfl
 | succ n IH =>
 intro s0 out3 i4;have ih:(fun s0 out3 i4=>evLP E_z9 n (sub C_z9 [1,1,0,1,0,0]) K (qIi s0 out3 i4))=z9_l3 (qxd K) n:=by
  funext s0 out3 i4;exact IH s0 out3 i4
 show _=qjZ (qxd K) (z9_l3 (qxd K) n) n s0 out3 i4;rw [← ih];kernel_rfl
theorem qxe (n:Nat) (out3:LU):(qCk n) (.exit 0) (frOf [(3,(db out3 (some (3,5))))])=qka n out3:=by
 kernel_rfl
theorem z9_ev (n:Nat) (s0:LU) (o0:Lab):evFnP E_z9 n C_z9 R_z9 [db s0 o0]=z9_sh n s0:=by
 unfold z9_sh;rw [show z9_l3 (qka n) n=(fun s0 out3 i4=>evLP E_z9 n (sub C_z9 [1,1,0,1,0,0]) (qCk n) (qIi s0 out3 i4)) from by
  funext s0 out3 i4;refine Eq.trans ?_ (qIj (qCk n) n s0 out3 i4).symm;rw [show (qxd (qCk n))=(qka n) from by
   funext out3;exact qxe n out3]
  all_goals kernel_rfl]
 kernel_rfl
theorem qIk:qf G Tryz.prog 9 s_z9:=by
 refine sQ (E:=E_z9) (c:=C_z9) rfl (fun w S hg=>(qa (qCj w S hg) qd)) Tryz.func9 ?_;intro avs r h;unfold s_z9 at h;split at h
 ·obtain ⟨hp,rfl⟩:=yj h;obtain ⟨n,hn⟩:=qOZ _ hp;exact ⟨n,_,(z9_ev n _ _).trans hn,.inl rfl⟩
 ·cases h
def E_z3:EnvP:=eQ [(5,s_z5),(6,s_z6),(7,s_z7),(8,s_z8),(9,s_z9),(10,s_z10)] 51 (some [4]) nC nC nP
def C_z3:Code:=cO Tryz.f3
def R_z3:Array ResultVar:=Tryz.f3.results
theorem z3_ev (n:Nat) (name0:LU) (o0:Lab) (t1:LI) (o1:Lab):evFnP E_z3 n C_z3 R_z3 [db name0 o0,.dat (.sl (.int .i32)) t1 o1]=z3_sh n name0 t1:=by
 kernel_rfl
theorem qIl:qf G Tryz.prog 3 s_z3:=by
 refine sQ (E:=E_z3) (c:=C_z3) rfl (fun w S hg=>(qa (qIn w S hg) (qa (qIe w S hg) (qa (qyg w S hg) (qa (qIh w S hg) (qa (qIk w S hg) (qa (qrI w S hg) qd))))))) Tryz.func3 ?_;intro avs r h;unfold s_z3 at h;split at h
 ·obtain ⟨hp,rfl⟩:=yj h;obtain ⟨n,hn⟩:=qOr _ _ hp;exact ⟨n,_,(z3_ev n _ _ _ _).trans hn,.inl rfl⟩
 ·cases h
end
end Go.Av
