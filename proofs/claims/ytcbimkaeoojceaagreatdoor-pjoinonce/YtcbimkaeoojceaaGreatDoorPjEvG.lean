import Derived.Test.YtcbimkaeoojceaaGreatDoorPjEvF
import Derived.Test.YtcbimkaeoojceaaGreatDoorPjU
import Derived.Test.YtcbimkaeoojceaaGreatDoorProg
import Derived.KernelRfl
namespace Go.Av
set_option linter.unusedSimpArgs false
noncomputable section
open Go.Proofs
set_option maxRecDepth 100000
set_option linter.unusedVariables false
def E_z53:EnvP:=eQ [(43,s_z43),(76,s_z76),(77,s_z77)] 40 (some [4,5,6]) (fun x=>if x=3 then some [0,1,7] else none) (fun x=>if x=0 then some [0,1,7] else if x=1 then some [0,1,7] else if x=2 then some [0,1,7] else none) nP
def C_z53:Code:=cO Tryz.f53
def R_z53:Array ResultVar:=Tryz.f53.results
def qkD (s0:List UInt8) (at1:Int) (n7:Int):Fr:=frOf [(0,da s0),(1,dc at1),(7,dc n7)]
noncomputable def qkE (K:Ex→Fr→Option AV):=fun s0 at1 n7=>K (.exit 0) (qkD s0 at1 n7)
def qoa (n:Nat):Ex→Fr→Option AV:=qw 0 (E_z53.cutb 0) (kSeq (evCP E_z53 (evLP E_z53 n) (sub C_z53 [1,1,1,1])) (kFnP E_z53 R_z53))
theorem qwO (K:Ex→Fr→Option AV):∀ (n:Nat) (s0:List UInt8) (at1:Int) (n7:Int),evLP E_z53 n (sub C_z53 [1,1,1,0,0,0]) K (qkD s0 at1 n7)=qmr (qkE K) n s0 at1 n7:=by
 intro n;induction n with
 | zero=>intros; rfl
 | succ n IH =>
 intro s0 at1 n7;have ih:(fun s0 at1 n7=>evLP E_z53 n (sub C_z53 [1,1,1,0,0,0]) K (qkD s0 at1 n7))=qmr (qkE K) n:=by
  funext s0 at1 n7;exact IH s0 at1 n7
 show _=qeH (qkE K) (qmr (qkE K) n) n s0 at1 n7;rw [← ih];kernel_rfl
theorem qqb (n:Nat) (s0:List UInt8) (at1:Int) (n7:Int):(qoa n) (.exit 0) (qkD s0 at1 n7)=qha n s0 at1 n7:=by
 kernel_rfl
theorem qGp (n:Nat) (s0:List UInt8) (o0:Lab) (at1:Int) (o1:Lab):evFnP E_z53 n C_z53 R_z53 [db s0 o0,de at1 o1]=qxH n s0 at1:=by
 unfold qxH;rw [show qmr (qha n) n=(fun s0 at1 n7=>evLP E_z53 n (sub C_z53 [1,1,1,0,0,0]) (qoa n) (qkD s0 at1 n7)) from by
  funext s0 at1 n7;refine Eq.trans ?_ (qwO (qoa n) n s0 at1 n7).symm;rw [show (qkE (qoa n))=(qha n) from by
   funext s0 at1 n7;exact qqb n s0 at1 n7]
  all_goals kernel_rfl]
 kernel_rfl
theorem qob:ql G Tryz.prog 53 s_z53:=by
 refine sQ (E:=E_z53) (c:=C_z53) rfl (fun w S hg=>(qb (qdN w S hg) (qb (qfB w S hg) (qb (qfA w S hg) qf)))) Tryz.func53 ?_;intro avs r h;unfold s_z53 at h;split at h
 ·obtain ⟨hp,rfl⟩:=yj h;obtain ⟨n,hn⟩:=qAt _ _ hp;exact ⟨n,_,(qGp n _ _ _ _).trans hn,.inl rfl⟩
 ·cases h
def E_z55:EnvP:=eQ [(54,s_z54),(76,s_z76)] 29 (some [6,7]) nC nC nP
def C_z55:Code:=cO Tryz.f55
def R_z55:Array ResultVar:=Tryz.f55.results
theorem qGq (n:Nat) (s0:List UInt8) (o0:Lab) (at1:Int) (o1:Lab) (c2:UInt8) (o2:Lab):evFnP E_z55 n C_z55 R_z55 [db s0 o0,de at1 o1,di c2 o2]=qBv n s0 at1 c2:=by
 kernel_rfl
theorem qwP:ql G Tryz.prog 55 s_z55:=by
 refine sQ (E:=E_z55) (c:=C_z55) rfl (fun w S hg=>(qb (qfC w S hg) (qb (qfB w S hg) qf))) Tryz.func55 ?_;intro avs r h;unfold s_z55 at h;split at h
 ·obtain ⟨hp,rfl⟩:=yj h;obtain ⟨n,hn⟩:=qAu _ _ _ hp;exact ⟨n,_,(qGq n _ _ _ _ _ _).trans hn,.inl rfl⟩
 ·cases h
def E_z56:EnvP:=eQ [(53,s_z53),(75,s_z75),(76,s_z76)] 45 (some [1000004,5,6]) nC nC nP
def C_z56:Code:=cO Tryz.f56
def R_z56:Array ResultVar:=Tryz.f56.results
theorem qGr (n:Nat) (s0:List UInt8) (o0:Lab) (at1:Int) (o1:Lab):evFnP E_z56 n C_z56 R_z56 [db s0 o0,de at1 o1]=qBw n s0 at1:=by
 kernel_rfl
theorem qwQ:ql G Tryz.prog 56 s_z56:=by
 refine sQ (E:=E_z56) (c:=C_z56) rfl (fun w S hg=>(qb (qob w S hg) (qb (qnY w S hg) (qb (qfB w S hg) qf)))) Tryz.func56 ?_;intro avs r h;unfold s_z56 at h;split at h
 ·obtain ⟨hp,rfl⟩:=yj h;obtain ⟨n,hn⟩:=qAw _ _ hp;exact ⟨n,_,(qGr n _ _ _ _).trans hn,.inl rfl⟩
 ·cases h
def E_z57:EnvP:=eQ [(54,s_z54)] 8 (some [2]) nC nC nP
def C_z57:Code:=cO Tryz.f57
def R_z57:Array ResultVar:=Tryz.f57.results
theorem qGs (n:Nat) (part0:List UInt8) (o0:Lab):evFnP E_z57 n C_z57 R_z57 [db part0 o0]=qBx n part0:=by
 kernel_rfl
theorem qwR:ql G Tryz.prog 57 s_z57:=by
 refine sQ (E:=E_z57) (c:=C_z57) rfl (fun w S hg=>(qb (qfC w S hg) qf)) Tryz.func57 ?_;intro avs r h;unfold s_z57 at h;split at h
 ·obtain ⟨hp,rfl⟩:=yj h;obtain ⟨n,hn⟩:=qAA _ hp;exact ⟨n,_,(qGs n _ _).trans hn,.inl rfl⟩
 ·cases h
def qiO:EnvP:=eQ [(77,s_z77)] 21 (some [4]) (fun x=>if x=3 then some [1,5,8,9,10] else none) (fun x=>if x=0 then some [5] else if x=1 then some [1,5,8,9,10] else none) nP
def qqc:Code:=cO Tryz.f101
def qEm:Array ResultVar:=Tryz.f101.results
noncomputable def qgI (K:Ex→Fr→Option AV):=fun n5=>K (.exit 0) (frOf [(5,dc n5)])
def qiP (n:Nat):Ex→Fr→Option AV:=qw 0 (qiO.cutb 0) (kSeq (evCP qiO (evLP qiO n) (sub qqc [1,1,1])) (kFnP qiO qEm))
def qlU (kinds1:Int) (n5:Int) (s8:List UInt8) (s9:Int) (s10:Int):Fr:=frOf [(1,dc kinds1),(5,dc n5),(8,da s8),(9,dc s9),(10,dc s10)]
theorem qsX (K:Ex→Fr→Option AV):∀ (n:Nat) (kinds1:Int) (n5:Int) (s8:List UInt8) (s9:Int) (s10:Int),evLP qiO n (sub qqc [1,1,0,1,0,0]) K (qlU kinds1 n5 s8 s9 s10)=qdY (qgI K) n kinds1 n5 s8 s9 s10:=by
 intro n;induction n with
 | zero=>intros; rfl
 | succ n IH =>
 intro kinds1 n5 s8 s9 s10;have ih:(fun kinds1 n5 s8 s9 s10=>evLP qiO n (sub qqc [1,1,0,1,0,0]) K (qlU kinds1 n5 s8 s9 s10))=qdY (qgI K) n:=by
  funext kinds1 n5 s8 s9 s10;exact IH kinds1 n5 s8 s9 s10
 show _=qcN (qgI K) (qdY (qgI K) n) n kinds1 n5 s8 s9 s10;rw [← ih];kernel_rfl
theorem qlV (n:Nat) (n5:Int):(qiP n) (.exit 0) (frOf [(5,dc n5)])=qdZ n n5:=by
 kernel_rfl
theorem qEn (n:Nat) (s0:List UInt8) (o0:Lab) (kinds1:Int) (o1:Lab):evFnP qiO n qqc qEm [db s0 o0,de kinds1 o1]=qoO n s0 kinds1:=by
 unfold qoO;rw [show qdY (qdZ n) n=(fun kinds1 n5 s8 s9 s10=>evLP qiO n (sub qqc [1,1,0,1,0,0]) (qiP n) (qlU kinds1 n5 s8 s9 s10)) from by
  funext kinds1 n5 s8 s9 s10;refine Eq.trans ?_ (qsX (qiP n) n kinds1 n5 s8 s9 s10).symm;rw [show (qgI (qiP n))=(qdZ n) from by
   funext n5;exact qlV n n5]
  all_goals kernel_rfl]
 kernel_rfl
theorem qsY:ql G Tryz.prog 101 s_z101:=by
 refine sQ (E:=qiO) (c:=qqc) rfl (fun w S hg=>(qb (qfA w S hg) qf)) Tryz.func101 ?_;intro avs r h;unfold s_z101 at h;split at h
 ·obtain ⟨hp,rfl⟩:=yj h;obtain ⟨n,hn⟩:=qxU _ _ hp;exact ⟨n,_,(qEn n _ _ _ _).trans hn,.inl rfl⟩
 ·cases h
def E_z79:EnvP:=eQ [(101,s_z101)] 11 (some [4]) nC nC nP
def C_z79:Code:=cO Tryz.f79
def R_z79:Array ResultVar:=Tryz.f79.results
theorem qGt (n:Nat) (s0:List UInt8) (o0:Lab) (kinds1:Int) (o1:Lab):evFnP E_z79 n C_z79 R_z79 [db s0 o0,de kinds1 o1]=qBy n s0 kinds1:=by
 kernel_rfl
theorem qoc:ql G Tryz.prog 79 s_z79:=by
 refine sQ (E:=E_z79) (c:=C_z79) rfl (fun w S hg=>(qb (qsY w S hg) qf)) Tryz.func79 ?_;intro avs r h;unfold s_z79 at h;split at h
 ·obtain ⟨hp,rfl⟩:=yj h;obtain ⟨n,hn⟩:=qBQ _ _ hp;exact ⟨n,_,(qGt n _ _ _ _).trans hn,.inl rfl⟩
 ·cases h
def qEo:EnvP:=eQ [(33,s_z33)] 21 (some [4]) nC nC nP
def qEp:Code:=cO Tryz.f102
def qGu:Array ResultVar:=Tryz.f102.results
theorem qEq (n:Nat) (s0:List UInt8) (o0:Lab) (suffix1:List UInt8) (o1:Lab):evFnP qEo n qEp qGu [db s0 o0,db suffix1 o1]=qut n s0 suffix1:=by
 kernel_rfl
theorem qsZ:ql G Tryz.prog 102 s_z102:=by
 refine sQ (E:=qEo) (c:=qEp) rfl (fun w S hg=>(qb (qny w S hg) qf)) Tryz.func102 ?_;intro avs r h;unfold s_z102 at h;split at h
 ·obtain ⟨hp,rfl⟩:=yj h;obtain ⟨n,hn⟩:=qyf _ _ hp;exact ⟨n,_,(qEq n _ _ _ _).trans hn,.inl rfl⟩
 ·cases h
def E_z80:EnvP:=eQ [(102,s_z102)] 18 (some [4,5]) nC nC nP
def C_z80:Code:=cO Tryz.f80
def R_z80:Array ResultVar:=Tryz.f80.results
theorem qGv (n:Nat) (s0:List UInt8) (o0:Lab) (suffix1:List UInt8) (o1:Lab):evFnP E_z80 n C_z80 R_z80 [db s0 o0,db suffix1 o1]=qBz n s0 suffix1:=by
 kernel_rfl
theorem qwS:ql G Tryz.prog 80 s_z80:=by
 refine sQ (E:=E_z80) (c:=C_z80) rfl (fun w S hg=>(qb (qsZ w S hg) qf)) Tryz.func80 ?_;intro avs r h;unfold s_z80 at h;split at h
 ·obtain ⟨hp,rfl⟩:=yj h;obtain ⟨n,hn⟩:=qCl _ _ hp;exact ⟨n,_,(qGv n _ _ _ _).trans hn,.inl rfl⟩
 ·cases h
def E_z81:EnvP:=eQ [(79,s_z79)] 44 (some [2]) (fun x=>if x=5 then some [3,30,31,32] else none) (fun x=>if x=0 then some [3] else if x=1 then some [3,30,31,32] else none) nP
def C_z81:Code:=cO Tryz.f81
def R_z81:Array ResultVar:=Tryz.f81.results
noncomputable def qkF (K:Ex→Fr→Option AV):=fun n3=>K (.exit 0) (frOf [(3,dc n3)])
def qod (n:Nat):Ex→Fr→Option AV:=qw 0 (E_z81.cutb 0) (kSeq (evCP E_z81 (evLP E_z81 n) (sub C_z81 [1,1,1,1])) (kFnP E_z81 R_z81))
def qta (n3:Int) (s30:List UInt8) (s31:Int) (s32:Int):Fr:=frOf [(3,dc n3),(30,da s30),(31,dc s31),(32,dc s32)]
theorem qwT (K:Ex→Fr→Option AV):∀ (n:Nat) (n3:Int) (s30:List UInt8) (s31:Int) (s32:Int),evLP E_z81 n (sub C_z81 [1,1,1,0,1,0,0]) K (qta n3 s30 s31 s32)=qjq (qkF K) n n3 s30 s31 s32:=by
 intro n;induction n with
 | zero=>intros; rfl
 | succ n IH =>
 intro n3 s30 s31 s32;have ih:(fun n3 s30 s31 s32=>evLP E_z81 n (sub C_z81 [1,1,1,0,1,0,0]) K (qta n3 s30 s31 s32))=qjq (qkF K) n:=by
  funext n3 s30 s31 s32;exact IH n3 s30 s31 s32
 show _=qcr (qkF K) (qjq (qkF K) n) n n3 s30 s31 s32;rw [← ih];kernel_rfl
theorem qqd (n:Nat) (n3:Int):(qod n) (.exit 0) (frOf [(3,dc n3)])=qdk n n3:=by
 kernel_rfl
theorem qGw (n:Nat) (s0:List UInt8) (o0:Lab):evFnP E_z81 n C_z81 R_z81 [db s0 o0]=qxI n s0:=by
 unfold qxI;rw [show qjq (qdk n) n=(fun n3 s30 s31 s32=>evLP E_z81 n (sub C_z81 [1,1,1,0,1,0,0]) (qod n) (qta n3 s30 s31 s32)) from by
  funext n3 s30 s31 s32;refine Eq.trans ?_ (qwT (qod n) n n3 s30 s31 s32).symm;rw [show (qkF (qod n))=(qdk n) from by
   funext n3;exact qqd n n3]
  all_goals kernel_rfl]
 kernel_rfl
theorem qwU:ql G Tryz.prog 81 s_z81:=by
 refine sQ (E:=E_z81) (c:=C_z81) rfl (fun w S hg=>(qb (qoc w S hg) qf)) Tryz.func81 ?_;intro avs r h;unfold s_z81 at h;split at h
 ·obtain ⟨hp,rfl⟩:=yj h;obtain ⟨n,hn⟩:=qAB _ hp;exact ⟨n,_,(qGw n _ _).trans hn,.inl rfl⟩
 ·cases h
def E_z58:EnvP:=eQ [(28,s_z28),(65,s_z65),(79,s_z79),(80,s_z80),(81,s_z81)] 52 (some [1000002,3,4]) nC nC nP
def C_z58:Code:=cO Tryz.f58
def R_z58:Array ResultVar:=Tryz.f58.results
theorem qGx (n:Nat) (a0:List UInt8) (o0:Lab):evFnP E_z58 n C_z58 R_z58 [db a0 o0]=qBA n a0:=by
 kernel_rfl
theorem qwV:ql G Tryz.prog 58 s_z58:=by
 refine sQ (E:=E_z58) (c:=C_z58) rfl (fun w S hg=>(qb (qfz w S hg) (qb (qnB w S hg) (qb (qoc w S hg) (qb (qwS w S hg) (qb (qwU w S hg) qf)))))) Tryz.func58 ?_;intro avs r h;unfold s_z58 at h;split at h
 ·obtain ⟨hp,rfl⟩:=yj h;obtain ⟨n,hn⟩:=qAC _ hp;exact ⟨n,_,(qGx n _ _).trans hn,.inl rfl⟩
 ·cases h
def E_z32:EnvP:=eQ [(53,s_z53),(54,s_z54),(55,s_z55),(56,s_z56),(57,s_z57),(58,s_z58)] 61 (some [2,3]) nC nC nP
def C_z32:Code:=cO Tryz.f32
def R_z32:Array ResultVar:=Tryz.f32.results
theorem qGy (n:Nat) (part0:List UInt8) (o0:Lab):evFnP E_z32 n C_z32 R_z32 [db part0 o0]=qBB n part0:=by
 kernel_rfl
theorem qwW:ql G Tryz.prog 32 s_z32:=by
 refine sQ (E:=E_z32) (c:=C_z32) rfl (fun w S hg=>(qb (qob w S hg) (qb (qfC w S hg) (qb (qwP w S hg) (qb (qwQ w S hg) (qb (qwR w S hg) (qb (qwV w S hg) qf))))))) Tryz.func32 ?_;intro avs r h;unfold s_z32 at h;split at h
 ·obtain ⟨hp,rfl⟩:=yj h;obtain ⟨n,hn⟩:=qAF _ hp;exact ⟨n,_,(qGy n _ _).trans hn,.inl rfl⟩
 ·cases h
end
end Go.Av
