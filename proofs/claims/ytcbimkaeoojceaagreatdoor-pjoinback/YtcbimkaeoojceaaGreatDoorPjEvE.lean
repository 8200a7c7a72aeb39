import Derived.Test.YtcbimkaeoojceaaGreatDoorPjEvD
import Derived.Test.YtcbimkaeoojceaaGreatDoorPjU
import Derived.Test.YtcbimkaeoojceaaGreatDoorProg
import Derived.KernelRfl
namespace Go.Av
set_option linter.unusedSimpArgs false
set_option linter.unusedVariables false
noncomputable section
open Go.Proofs
set_option maxRecDepth 100000
def E_z52:EnvP:=eQ [(54,s_z54),(75,s_z75)] 26 (some [2]) nC (fun x=>if x=0 then some [] else none) nP
def C_z52:Code:=cO Tryz.f52
def R_z52:Array ResultVar:=Tryz.f52.results
theorem qQu (n:Nat) (s0:LU) (o0:Lab):evFnP E_z52 n C_z52 R_z52 [db s0 o0]=qJQ n s0:=by
 kernel_rfl
theorem qDc:qf G Tryz.prog 52 s_z52:=by
 refine sQ (E:=E_z52) (c:=C_z52) rfl (fun w S hg=>(qa (qhn w S hg) (qa (qrz w S hg) qd))) Tryz.func52 ?_;intro avs r h;unfold s_z52 at h;split at h
 ·obtain ⟨hp,rfl⟩:=yj h;obtain ⟨n,hn⟩:=qII _ hp;exact ⟨n,_,(qQu n _ _).trans hn,.inl rfl⟩
 ·cases h
def E_z31:EnvP:=eQ [(43,s_z43),(52,s_z52)] 36 (some [2]) (fun x=>if x=3 then some [0,3,4] else none) (fun x=>if x=0 then some [0,3] else if x=1 then some [0,3,4] else none) nP
def C_z31:Code:=cO Tryz.f31
def R_z31:Array ResultVar:=Tryz.f31.results
noncomputable def qnj (K:Ex→Fr→OA):=fun s0 l3=>K (.exit 0) (frOf [(0,da s0),(3,(.dat (.sl (.sl .byte)) l3 (some (3,22))))])
def qrA (n:Nat):Ex→Fr→OA:=qw 0 (E_z31.cutb 0) (kSeq (evCP E_z31 (evLP E_z31 n) (sub C_z31 [1,0,1,1,1,1])) (kFnP E_z31 R_z31))
def qya (s0:LU) (l3:List LU) (at4:Int):Fr:=frOf [(0,da s0),(3,(.dat (.sl (.sl .byte)) l3 (some (3,22)))),(4,dc at4)]
theorem qDd (K:Ex→Fr→OA):∀ (n:Nat) (s0:LU) (l3:List LU) (at4:Int),evLP E_z31 n (sub C_z31 [1,0,1,1,1,0,0,0]) K (qya s0 l3 at4)=qnL (qnj K) n s0 l3 at4:=by
 intro n;induction n with
 | zero=>intros; rfl
 | succ n IH =>
 intro s0 l3 at4;have ih:(fun s0 l3 at4=>evLP E_z31 n (sub C_z31 [1,0,1,1,1,0,0,0]) K (qya s0 l3 at4))=qnL (qnj K) n:=by
  funext s0 l3 at4;exact IH s0 l3 at4
 show _=qlD (qnj K) (qnL (qnj K) n) n s0 l3 at4;rw [← ih];kernel_rfl
theorem quz (n:Nat) (s0:LU) (l3:List LU):(qrA n) (.exit 0) (frOf [(0,da s0),(3,(.dat (.sl (.sl .byte)) l3 (some (3,22))))])=qen n s0 l3:=by
 kernel_rfl
theorem qQv (n:Nat) (s0:LU) (o0:Lab):evFnP E_z31 n C_z31 R_z31 [db s0 o0]=qJR n s0:=by
 unfold qJR;rw [show qnL (qen n) n=(fun s0 l3 at4=>evLP E_z31 n (sub C_z31 [1,0,1,1,1,0,0,0]) (qrA n) (qya s0 l3 at4)) from by
  funext s0 l3 at4;refine Eq.trans ?_ (qDd (qrA n) n s0 l3 at4).symm;rw [show (qnj (qrA n))=(qen n) from by
   funext s0 l3;exact quz n s0 l3]
  all_goals kernel_rfl]
 kernel_rfl
theorem qDe:qf G Tryz.prog 31 s_z31:=by
 refine sQ (E:=E_z31) (c:=C_z31) rfl (fun w S hg=>(qa (qeS w S hg) (qa (qDc w S hg) qd))) Tryz.func31 ?_;intro avs r h;unfold s_z31 at h;split at h
 ·obtain ⟨hp,rfl⟩:=yj h;obtain ⟨n,hn⟩:=qIN _ hp;exact ⟨n,_,(qQv n _ _).trans hn,.inl rfl⟩
 ·cases h
def E_z53:EnvP:=eQ [(43,s_z43),(76,s_z76),(77,s_z77)] 40 (some [4,5,6]) (fun x=>if x=3 then some [0,1,7] else none) (fun x=>if x=0 then some [0,1,7] else if x=1 then some [0,1,7] else if x=2 then some [0,1,7] else none) nP
def C_z53:Code:=cO Tryz.f53
def R_z53:Array ResultVar:=Tryz.f53.results
def qnk (s0:LU) (at1:Int) (n7:Int):Fr:=frOf [(0,da s0),(1,dc at1),(7,dc n7)]
noncomputable def qnl (K:Ex→Fr→OA):=fun s0 at1 n7=>K (.exit 0) (qnk s0 at1 n7)
def qrB (n:Nat):Ex→Fr→OA:=qw 0 (E_z53.cutb 0) (kSeq (evCP E_z53 (evLP E_z53 n) (sub C_z53 [1,1,1,1])) (kFnP E_z53 R_z53))
theorem qDf (K:Ex→Fr→OA):∀ (n:Nat) (s0:LU) (at1:Int) (n7:Int),evLP E_z53 n (sub C_z53 [1,1,1,0,0,0]) K (qnk s0 at1 n7)=qpF (qnl K) n s0 at1 n7:=by
 intro n;induction n with
 | zero=>intros; rfl
 | succ n IH =>
 intro s0 at1 n7;have ih:(fun s0 at1 n7=>evLP E_z53 n (sub C_z53 [1,1,1,0,0,0]) K (qnk s0 at1 n7))=qpF (qnl K) n:=by
  funext s0 at1 n7;exact IH s0 at1 n7
 show _=qfZ (qnl K) (qpF (qnl K) n) n s0 at1 n7;rw [← ih];kernel_rfl
theorem quA (n:Nat) (s0:LU) (at1:Int) (n7:Int):(qrB n) (.exit 0) (qnk s0 at1 n7)=qiQ n s0 at1 n7:=by
 kernel_rfl
theorem qQw (n:Nat) (s0:LU) (o0:Lab) (at1:Int) (o1:Lab):evFnP E_z53 n C_z53 R_z53 [db s0 o0,de at1 o1]=qES n s0 at1:=by
 unfold qES;rw [show qpF (qiQ n) n=(fun s0 at1 n7=>evLP E_z53 n (sub C_z53 [1,1,1,0,0,0]) (qrB n) (qnk s0 at1 n7)) from by
  funext s0 at1 n7;refine Eq.trans ?_ (qDf (qrB n) n s0 at1 n7).symm;rw [show (qnl (qrB n))=(qiQ n) from by
   funext s0 at1 n7;exact quA n s0 at1 n7]
  all_goals kernel_rfl]
 kernel_rfl
theorem qrC:qf G Tryz.prog 53 s_z53:=by
 refine sQ (E:=E_z53) (c:=C_z53) rfl (fun w S hg=>(qa (qeS w S hg) (qa (qhm w S hg) (qa (qhl w S hg) qd)))) Tryz.func53 ?_;intro avs r h;unfold s_z53 at h;split at h
 ·obtain ⟨hp,rfl⟩:=yj h;obtain ⟨n,hn⟩:=qIz _ _ hp;exact ⟨n,_,(qQw n _ _ _ _).trans hn,.inl rfl⟩
 ·cases h
def E_z55:EnvP:=eQ [(54,s_z54),(76,s_z76)] 29 (some [6,7]) nC nC nP
def C_z55:Code:=cO Tryz.f55
def R_z55:Array ResultVar:=Tryz.f55.results
theorem qQx (n:Nat) (s0:LU) (o0:Lab) (at1:Int) (o1:Lab) (c2:UInt8) (o2:Lab):evFnP E_z55 n C_z55 R_z55 [db s0 o0,de at1 o1,dp c2 o2]=qJS n s0 at1 c2:=by
 kernel_rfl
theorem qDg:qf G Tryz.prog 55 s_z55:=by
 refine sQ (E:=E_z55) (c:=C_z55) rfl (fun w S hg=>(qa (qhn w S hg) (qa (qhm w S hg) qd))) Tryz.func55 ?_;intro avs r h;unfold s_z55 at h;split at h
 ·obtain ⟨hp,rfl⟩:=yj h;obtain ⟨n,hn⟩:=qIA _ _ _ hp;exact ⟨n,_,(qQx n _ _ _ _ _ _).trans hn,.inl rfl⟩
 ·cases h
def E_z56:EnvP:=eQ [(53,s_z53),(75,s_z75),(76,s_z76)] 45 (some [1000004,5,6]) nC nC nP
def C_z56:Code:=cO Tryz.f56
def R_z56:Array ResultVar:=Tryz.f56.results
theorem qQy (n:Nat) (s0:LU) (o0:Lab) (at1:Int) (o1:Lab):evFnP E_z56 n C_z56 R_z56 [db s0 o0,de at1 o1]=qJT n s0 at1:=by
 kernel_rfl
theorem qDh:qf G Tryz.prog 56 s_z56:=by
 refine sQ (E:=E_z56) (c:=C_z56) rfl (fun w S hg=>(qa (qrC w S hg) (qa (qrz w S hg) (qa (qhm w S hg) qd)))) Tryz.func56 ?_;intro avs r h;unfold s_z56 at h;split at h
 ·obtain ⟨hp,rfl⟩:=yj h;obtain ⟨n,hn⟩:=qIC _ _ hp;exact ⟨n,_,(qQy n _ _ _ _).trans hn,.inl rfl⟩
 ·cases h
def E_z57:EnvP:=eQ [(54,s_z54)] 8 (some [2]) nC nC nP
def C_z57:Code:=cO Tryz.f57
def R_z57:Array ResultVar:=Tryz.f57.results
theorem qQz (n:Nat) (part0:LU) (o0:Lab):evFnP E_z57 n C_z57 R_z57 [db part0 o0]=qJU n part0:=by
 kernel_rfl
theorem qDi:qf G Tryz.prog 57 s_z57:=by
 refine sQ (E:=E_z57) (c:=C_z57) rfl (fun w S hg=>(qa (qhn w S hg) qd)) Tryz.func57 ?_;intro avs r h;unfold s_z57 at h;split at h
 ·obtain ⟨hp,rfl⟩:=yj h;obtain ⟨n,hn⟩:=qIJ _ hp;exact ⟨n,_,(qQz n _ _).trans hn,.inl rfl⟩
 ·cases h
def qld:EnvP:=eQ [(77,s_z77)] 21 (some [4]) (fun x=>if x=3 then some [1,5,8,9,10] else none) (fun x=>if x=0 then some [5] else if x=1 then some [1,5,8,9,10] else none) nP
def quB:Code:=cO Tryz.f101
def qNJ:Array ResultVar:=Tryz.f101.results
noncomputable def qix (K:Ex→Fr→OA):=fun n5=>K (.exit 0) (frOf [(5,dc n5)])
def qle (n:Nat):Ex→Fr→OA:=qw 0 (qld.cutb 0) (kSeq (evCP qld (evLP qld n) (sub quB [1,1,1])) (kFnP qld qNJ))
def qpd (kinds1:Int) (n5:Int) (s8:LU) (s9:Int) (s10:Int):Fr:=frOf [(1,dc kinds1),(5,dc n5),(8,da s8),(9,dc s9),(10,dc s10)]
theorem qyb (K:Ex→Fr→OA):∀ (n:Nat) (kinds1:Int) (n5:Int) (s8:LU) (s9:Int) (s10:Int),evLP qld n (sub quB [1,1,0,1,0,0]) K (qpd kinds1 n5 s8 s9 s10)=qfg (qix K) n kinds1 n5 s8 s9 s10:=by
 intro n;induction n with
 | zero=>intros; rfl
 | succ n IH =>
 intro kinds1 n5 s8 s9 s10;have ih:(fun kinds1 n5 s8 s9 s10=>evLP qld n (sub quB [1,1,0,1,0,0]) K (qpd kinds1 n5 s8 s9 s10))=qfg (qix K) n:=by
  funext kinds1 n5 s8 s9 s10;exact IH kinds1 n5 s8 s9 s10
 show _=qdL (qix K) (qfg (qix K) n) n kinds1 n5 s8 s9 s10;rw [← ih];kernel_rfl
theorem qpe (n:Nat) (n5:Int):(qle n) (.exit 0) (frOf [(5,dc n5)])=qfh n n5:=by
 kernel_rfl
theorem qNK (n:Nat) (s0:LU) (o0:Lab) (kinds1:Int) (o1:Lab):evFnP qld n quB qNJ [db s0 o0,de kinds1 o1]=qsW n s0 kinds1:=by
 unfold qsW;rw [show qfg (qfh n) n=(fun kinds1 n5 s8 s9 s10=>evLP qld n (sub quB [1,1,0,1,0,0]) (qle n) (qpd kinds1 n5 s8 s9 s10)) from by
  funext kinds1 n5 s8 s9 s10;refine Eq.trans ?_ (qyb (qle n) n kinds1 n5 s8 s9 s10).symm;rw [show (qix (qle n))=(qfh n) from by
   funext n5;exact qpe n n5]
  all_goals kernel_rfl]
 kernel_rfl
theorem qyc:qf G Tryz.prog 101 s_z101:=by
 refine sQ (E:=qld) (c:=quB) rfl (fun w S hg=>(qa (qhl w S hg) qd)) Tryz.func101 ?_;intro avs r h;unfold s_z101 at h;split at h
 ·obtain ⟨hp,rfl⟩:=yj h;obtain ⟨n,hn⟩:=qFA _ _ hp;exact ⟨n,_,(qNK n _ _ _ _).trans hn,.inl rfl⟩
 ·cases h
def E_z79:EnvP:=eQ [(101,s_z101)] 11 (some [4]) nC nC nP
def C_z79:Code:=cO Tryz.f79
def R_z79:Array ResultVar:=Tryz.f79.results
theorem qQA (n:Nat) (s0:LU) (o0:Lab) (kinds1:Int) (o1:Lab):evFnP E_z79 n C_z79 R_z79 [db s0 o0,de kinds1 o1]=qJV n s0 kinds1:=by
 kernel_rfl
theorem qrD:qf G Tryz.prog 79 s_z79:=by
 refine sQ (E:=E_z79) (c:=C_z79) rfl (fun w S hg=>(qa (qyc w S hg) qd)) Tryz.func79 ?_;intro avs r h;unfold s_z79 at h;split at h
 ·obtain ⟨hp,rfl⟩:=yj h;obtain ⟨n,hn⟩:=qKU _ _ hp;exact ⟨n,_,(qQA n _ _ _ _).trans hn,.inl rfl⟩
 ·cases h
def qNL:EnvP:=eQ [(33,s_z33)] 21 (some [4]) nC nC nP
def qNM:Code:=cO Tryz.f102
def qQB:Array ResultVar:=Tryz.f102.results
theorem qNN (n:Nat) (s0:LU) (o0:Lab) (suffix1:LU) (o1:Lab):evFnP qNL n qNM qQB [db s0 o0,db suffix1 o1]=qAa n s0 suffix1:=by
 kernel_rfl
theorem qyd:qf G Tryz.prog 102 s_z102:=by
 refine sQ (E:=qNL) (c:=qNM) rfl (fun w S hg=>(qa (qqZ w S hg) qd)) Tryz.func102 ?_;intro avs r h;unfold s_z102 at h;split at h
 ·obtain ⟨hp,rfl⟩:=yj h;obtain ⟨n,hn⟩:=qFM _ _ hp;exact ⟨n,_,(qNN n _ _ _ _).trans hn,.inl rfl⟩
 ·cases h
def E_z80:EnvP:=eQ [(102,s_z102)] 18 (some [4,5]) nC nC nP
def C_z80:Code:=cO Tryz.f80
def R_z80:Array ResultVar:=Tryz.f80.results
theorem qQC (n:Nat) (s0:LU) (o0:Lab) (suffix1:LU) (o1:Lab):evFnP E_z80 n C_z80 R_z80 [db s0 o0,db suffix1 o1]=qJW n s0 suffix1:=by
 kernel_rfl
theorem qDj:qf G Tryz.prog 80 s_z80:=by
 refine sQ (E:=E_z80) (c:=C_z80) rfl (fun w S hg=>(qa (qyd w S hg) qd)) Tryz.func80 ?_;intro avs r h;unfold s_z80 at h;split at h
 ·obtain ⟨hp,rfl⟩:=yj h;obtain ⟨n,hn⟩:=qLI _ _ hp;exact ⟨n,_,(qQC n _ _ _ _).trans hn,.inl rfl⟩
 ·cases h
def E_z81:EnvP:=eQ [(79,s_z79)] 44 (some [2]) (fun x=>if x=5 then some [3,30,31,32] else none) (fun x=>if x=0 then some [3] else if x=1 then some [3,30,31,32] else none) nP
def C_z81:Code:=cO Tryz.f81
def R_z81:Array ResultVar:=Tryz.f81.results
noncomputable def qnm (K:Ex→Fr→OA):=fun n3=>K (.exit 0) (frOf [(3,dc n3)])
def qrE (n:Nat):Ex→Fr→OA:=qw 0 (E_z81.cutb 0) (kSeq (evCP E_z81 (evLP E_z81 n) (sub C_z81 [1,1,1,1])) (kFnP E_z81 R_z81))
def qye (n3:Int) (s30:LU) (s31:Int) (s32:Int):Fr:=frOf [(3,dc n3),(30,da s30),(31,dc s31),(32,dc s32)]
theorem qDk (K:Ex→Fr→OA):∀ (n:Nat) (n3:Int) (s30:LU) (s31:Int) (s32:Int),evLP E_z81 n (sub C_z81 [1,1,1,0,1,0,0]) K (qye n3 s30 s31 s32)=qlE (qnm K) n n3 s30 s31 s32:=by
 intro n;induction n with
 | zero=>intros; rfl
 | succ n IH =>
 intro n3 s30 s31 s32;have ih:(fun n3 s30 s31 s32=>evLP E_z81 n (sub C_z81 [1,1,1,0,1,0,0]) K (qye n3 s30 s31 s32))=qlE (qnm K) n:=by
  funext n3 s30 s31 s32;exact IH n3 s30 s31 s32
 show _=qdk (qnm K) (qlE (qnm K) n) n n3 s30 s31 s32;rw [← ih];kernel_rfl
theorem quC (n:Nat) (n3:Int):(qrE n) (.exit 0) (frOf [(3,dc n3)])=qeo n n3:=by
 kernel_rfl
theorem qQD (n:Nat) (s0:LU) (o0:Lab):evFnP E_z81 n C_z81 R_z81 [db s0 o0]=qET n s0:=by
 unfold qET;rw [show qlE (qeo n) n=(fun n3 s30 s31 s32=>evLP E_z81 n (sub C_z81 [1,1,1,0,1,0,0]) (qrE n) (qye n3 s30 s31 s32)) from by
  funext n3 s30 s31 s32;refine Eq.trans ?_ (qDk (qrE n) n n3 s30 s31 s32).symm;rw [show (qnm (qrE n))=(qeo n) from by
   funext n3;exact quC n n3]
  all_goals kernel_rfl]
 kernel_rfl
theorem qDl:qf G Tryz.prog 81 s_z81:=by
 refine sQ (E:=E_z81) (c:=C_z81) rfl (fun w S hg=>(qa (qrD w S hg) qd)) Tryz.func81 ?_;intro avs r h;unfold s_z81 at h;split at h
 ·obtain ⟨hp,rfl⟩:=yj h;obtain ⟨n,hn⟩:=qIK _ hp;exact ⟨n,_,(qQD n _ _).trans hn,.inl rfl⟩
 ·cases h
def E_z58:EnvP:=eQ [(28,s_z28),(65,s_z65),(79,s_z79),(80,s_z80),(81,s_z81)] 52 (some [1000002,3,4]) nC nC nP
def C_z58:Code:=cO Tryz.f58
def R_z58:Array ResultVar:=Tryz.f58.results
theorem qQE (n:Nat) (a0:LU) (o0:Lab):evFnP E_z58 n C_z58 R_z58 [db a0 o0]=qJX n a0:=by
 kernel_rfl
theorem qDm:qf G Tryz.prog 58 s_z58:=by
 refine sQ (E:=E_z58) (c:=C_z58) rfl (fun w S hg=>(qa (qhk w S hg) (qa (qrc w S hg) (qa (qrD w S hg) (qa (qDj w S hg) (qa (qDl w S hg) qd)))))) Tryz.func58 ?_;intro avs r h;unfold s_z58 at h;split at h
 ·obtain ⟨hp,rfl⟩:=yj h;obtain ⟨n,hn⟩:=qIL _ hp;exact ⟨n,_,(qQE n _ _).trans hn,.inl rfl⟩
 ·cases h
def E_z32:EnvP:=eQ [(53,s_z53),(54,s_z54),(55,s_z55),(56,s_z56),(57,s_z57),(58,s_z58)] 61 (some [2,3]) nC nC nP
def C_z32:Code:=cO Tryz.f32
def R_z32:Array ResultVar:=Tryz.f32.results
theorem qQF (n:Nat) (part0:LU) (o0:Lab):evFnP E_z32 n C_z32 R_z32 [db part0 o0]=qJY n part0:=by
 kernel_rfl
theorem qDn:qf G Tryz.prog 32 s_z32:=by
 refine sQ (E:=E_z32) (c:=C_z32) rfl (fun w S hg=>(qa (qrC w S hg) (qa (qhn w S hg) (qa (qDg w S hg) (qa (qDh w S hg) (qa (qDi w S hg) (qa (qDm w S hg) qd))))))) Tryz.func32 ?_;intro avs r h;unfold s_z32 at h;split at h
 ·obtain ⟨hp,rfl⟩:=yj h;obtain ⟨n,hn⟩:=qIO _ hp;exact ⟨n,_,(qQF n _ _).trans hn,.inl rfl⟩
 ·cases h
def E_z15:EnvP:=eQ [(31,s_z31),(32,s_z32)] 28 (some [2]) (fun x=>if x=3 then some [3,9,10,11] else none) (fun x=>if x=0 then some [3] else if x=1 then some [3,9,10,11] else none) nP
def C_z15:Code:=cO Tryz.f15
def R_z15:Array ResultVar:=Tryz.f15.results
noncomputable def qnn (K:Ex→Fr→OA):=fun l3=>K (.exit 0) (frOf [(3,(.dat (.sl (.pair (.sl .byte) (.pair (.int .i64) (.pair .bool (.pair (.sl .byte) .unit))))) l3 (some (3,59))))])
def qrF (n:Nat):Ex→Fr→OA:=qw 0 (E_z15.cutb 0) (kSeq (evCP E_z15 (evLP E_z15 n) (sub C_z15 [1,1,1])) (kFnP E_z15 R_z15))
def qyf (l3:List (LU×(Int×(Bool×(LU×Unit))))) (s9:List LU) (s10:Int) (s11:Int):Fr:=frOf [(3,(.dat (.sl (.pair (.sl .byte) (.pair (.int .i64) (.pair .bool (.pair (.sl .byte) .unit))))) l3 (some (3,59)))),(9,(.dat (.sl (.sl .byte)) s9 (some (9,22)))),(10,dc s10),(11,dc s11)]
theorem qDo (K:Ex→Fr→OA):∀ (n:Nat) (l3:List (LU×(Int×(Bool×(LU×Unit))))) (s9:List LU) (s10:Int) (s11:Int),evLP E_z15 n (sub C_z15 [1,1,0,1,0,0]) K (qyf l3 s9 s10 s11)=qpH (qnn K) n l3 s9 s10 s11:=by
 intro n;induction n with
 | zero=>intros; rfl
 | succ n IH =>
 intro l3 s9 s10 s11;have ih:(fun l3 s9 s10 s11=>evLP E_z15 n (sub C_z15 [1,1,0,1,0,0]) K (qyf l3 s9 s10 s11))=qpH (qnn K) n:=by
  funext l3 s9 s10 s11;exact IH l3 s9 s10 s11
 show _=qga (qnn K) (qpH (qnn K) n) n l3 s9 s10 s11;rw [← ih];kernel_rfl
theorem quD (n:Nat) (l3:List (LU×(Int×(Bool×(LU×Unit))))):(qrF n) (.exit 0) (frOf [(3,(.dat (.sl (.pair (.sl .byte) (.pair (.int .i64) (.pair .bool (.pair (.sl .byte) .unit))))) l3 (some (3,59))))])=qgb n l3:=by
 kernel_rfl
theorem qQG (n:Nat) (s0:LU) (o0:Lab):evFnP E_z15 n C_z15 R_z15 [db s0 o0]=qEU n s0:=by
 unfold qEU;rw [show qpH (qgb n) n=(fun l3 s9 s10 s11=>evLP E_z15 n (sub C_z15 [1,1,0,1,0,0]) (qrF n) (qyf l3 s9 s10 s11)) from by
  funext l3 s9 s10 s11;refine Eq.trans ?_ (qDo (qrF n) n l3 s9 s10 s11).symm;rw [show (qnn (qrF n))=(qgb n) from by
   funext l3;exact quD n l3]
  all_goals kernel_rfl]
 kernel_rfl
theorem qDp:qf G Tryz.prog 15 s_z15:=by
 refine sQ (E:=E_z15) (c:=C_z15) rfl (fun w S hg=>(qa (qDe w S hg) (qa (qDn w S hg) qd))) Tryz.func15 ?_;intro avs r h;unfold s_z15 at h;split at h
 ·obtain ⟨hp,rfl⟩:=yj h;obtain ⟨n,hn⟩:=qIP _ hp;exact ⟨n,_,(qQG n _ _).trans hn,.inl rfl⟩
 ·cases h
def E_z7:EnvP:=eQ [(14,s_z14),(15,s_z15)] 6 (some [2]) nC nC nP
def C_z7:Code:=cO Tryz.f7
def R_z7:Array ResultVar:=Tryz.f7.results
theorem z7_ev (n:Nat) (s0:LU) (o0:Lab):evFnP E_z7 n C_z7 R_z7 [db s0 o0]=z7_sh n s0:=by
 kernel_rfl
theorem qyg:qf G Tryz.prog 7 s_z7:=by
 refine sQ (E:=E_z7) (c:=C_z7) rfl (fun w S hg=>(qa (qCX w S hg) (qa (qDp w S hg) qd))) Tryz.func7 ?_;intro avs r h;unfold s_z7 at h;split at h
 ·obtain ⟨hp,rfl⟩:=yj h;obtain ⟨n,hn⟩:=qOt _ hp;exact ⟨n,_,(z7_ev n _ _).trans hn,.inl rfl⟩
 ·cases h
end
end Go.Av
