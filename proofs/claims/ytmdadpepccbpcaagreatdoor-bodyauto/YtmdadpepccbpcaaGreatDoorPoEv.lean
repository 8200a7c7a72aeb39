import Derived.Test.YtmdadpepccbpcaaGreatDoorPoEvF
import Derived.Test.YtmdadpepccbpcaaGreatDoorPoD
import Derived.Test.YtmdadpepccbpcaaGreatDoorAvE
import Derived.Test.YtmdadpepccbpcaaGreatDoorProg
import Derived.KernelRfl
namespace Go.Av
set_option linter.unusedSimpArgs false
set_option linter.unusedVariables false
section
noncomputable section
open Go.Proofs
set_option maxRecDepth 100000
set_option linter.unusedVariables false
def E_z86:EnvP:=eQ [(150,s_z150)] 42 (some [2,3]) (fun x=>if x=4 then some [0,4,5,6] else none) (fun x=>if x=0 then some [4,5] else if x=1 then some [0,4,5,6] else none) nP
def C_z86:Code:=cO Tryz.f86
def R_z86:Array ResultVar:=Tryz.f86.results
noncomputable def qyo (K:KT):=fun out4 strange5=>K (.exit 0) (frOf [(4,(db out4 (some (4,5)))),(5,dc strange5)])
def qRx (n:Nat):KT:=qf 0 (E_z86.cutb 0) (kSeq (evCP E_z86 (evLP E_z86 n) (sub C_z86 [1,1,1,1])) (kFnP E_z86 R_z86))
def qRy (s0:LU) (out4:LU) (strange5:Int) (i6:Int):Fr:=frOf [(0,da s0),(4,(db out4 (some (4,5)))),(5,dc strange5),(6,dc i6)]
theorem qFe (K:KT) (n:Nat):(fun s0 out4 strange5 i6=>evLP E_z86 n (sub C_z86 [1,1,1,0,1,0,0]) K (qRy s0 out4 strange5 i6))=qwD (qyo K) n:=by
 induction n
 kernel_rfl;rename_i n ih;show _=qhb (qyo K) (qwD (qyo K) n) n;rw[← ih];kernel_rfl
theorem qWb (n:Nat) (s0:LU) (o0:Lab):evFnP E_z86 n C_z86 R_z86 [db s0 o0]=qPo n s0:=by
 unfold qPo;rw[(Eq.trans (by kernel_rfl) (qFe (qRx n) n).symm:qwD (qsc n) n=_)];kernel_rfl
theorem qFf:gG 86 s_z86:=sQ (E:=E_z86) (c:=C_z86) rfl (fC qoL fN) Tryz.func86 fun avs r h=>by
 unfold s_z86 at h;split at h
 ·obtain⟨hp,rfl⟩:=yj h;exact eX (qQk _ hp) fun n=>qWb n _ _
 ·cases h
def E_z87:EnvP:=eQ [(150,s_z150)] 37 (some [2,3]) (fun x=>if x=3 then some [0,4,5] else if x=9 then some [0,4,5,6,8] else none) (fun x=>if x=0 then some [4] else if x=1 then some [0,4,5] else if x=2 then some [0,4,5] else if x=3 then some [0,4,5,6,8] else none) nP
def C_z87:Code:=cO Tryz.f87
def R_z87:Array ResultVar:=Tryz.f87.results
def qyp (s0:LU) (out4:LI) (i5:Int):Fr:=frOf [(0,da s0),(4,(.dat (.sl (.int .i64)) out4 (some (4,3)))),(5,dc i5)]
noncomputable def qyq (K:KT):=fun s0 out4 i5=>K (.exit 2) (qyp s0 out4 i5)
noncomputable def qtx (K:KT):=fun s2 s3=>K .ret (frOf [(2,(.dat (.sl (.int .i64)) s2 (some (2,3)))),(3,dg s3)])
noncomputable def qty (K:KT):=fun out4=>K (.exit 0) (frOf [(4,(.dat (.sl (.int .i64)) out4 (some (4,3))))])
def qRz (n:Nat) (K:KT):KT:=qf 2 (E_z87.cutb 2) (qf 1 (E_z87.cutb 1) (kSeq (evCP E_z87 (evLP E_z87 n) (sub C_z87 [1,1,0,1,0,0,1,1])) (kSeq (fun K fr=>evLP E_z87 n (sub C_z87 [1,1,0,1,0,0]) K (cutFP (E_z87.cuts 3) fr)) K)))
def qRA (n:Nat):KT:=qf 0 (E_z87.cutb 0) (kSeq (evCP E_z87 (evLP E_z87 n) (sub C_z87 [1,1,1])) (kFnP E_z87 R_z87))
def qRB (s0:LU) (out4:LI) (i5:Int) (n6:Int) (k8:Int):Fr:=frOf [(0,da s0),(4,(.dat (.sl (.int .i64)) out4 (some (4,3)))),(5,dc i5),(6,dc n6),(8,dc k8)]
theorem qFg (K:KT) (n:Nat):(fun s0 out4 i5 n6 k8=>evLP E_z87 n (sub C_z87 [1,1,0,1,0,0,1,0,0,1,1,1,0,0]) K (qRB s0 out4 i5 n6 k8))=qmU (qyq K) n:=by
 induction n
 kernel_rfl;rename_i n ih;show _=qmT (qyq K) (qmU (qyq K) n) n;rw[← ih];kernel_rfl
theorem qFh (K:KT) (n:Nat):(fun s0 out4 i5=>evLP E_z87 n (sub C_z87 [1,1,0,1,0,0]) K (qyp s0 out4 i5))=qpi (qtx K) (qty K) n:=by
 induction n
 kernel_rfl;rename_i n ih;funext s0 out4 i5;show _=qfg (qtx K) (qty K) (qpi (qtx K) (qty K) n) n s0 out4 i5;rw[← ih];unfold qfg;rw[(Eq.trans (by kernel_rfl) (qFg (qRz n K) n).symm:qmU (qCH (qtx K) (qty K) (fun s0 out4 i5=>evLP E_z87 n (sub C_z87 [1,1,0,1,0,0]) K (qyp s0 out4 i5)) n) n=_)];kernel_rfl
theorem qWc (n:Nat) (s0:LU) (o0:Lab):evFnP E_z87 n C_z87 R_z87 [db s0 o0]=qPp n s0:=by
 unfold qPp;rw[(Eq.trans (by kernel_rfl) (qFh (qRA n) n).symm:qpi qdU (qjN n) n=_)];kernel_rfl
theorem qFi:gG 87 s_z87:=sQ (E:=E_z87) (c:=C_z87) rfl (fC qoL fN) Tryz.func87 fun avs r h=>by
 unfold s_z87 at h;split at h
 ·obtain⟨hp,rfl⟩:=yj h;exact eX (qQm _ hp) fun n=>qWc n _ _
 ·cases h
def E_z88:EnvP:=eQ [(151,s_z151)] 29 (some [2,3]) (fun x=>if x=3 then some [0,4,5] else none) (fun x=>if x=0 then some [0,4,5] else if x=1 then some [0,4,5] else none) nP
def C_z88:Code:=cO Tryz.f88
def R_z88:Array ResultVar:=Tryz.f88.results
def qKI (l0:LI) (out4:LU) (i5:Int):Fr:=frOf [(0,(.dat (.sl (.int .i64)) l0 none)),(4,(db out4 (some (4,5)))),(5,dc i5)]
noncomputable def qyr (K:KT):=fun l0 out4 i5=>K (.exit 0) (qKI l0 out4 i5)
def qRC (n:Nat):KT:=qf 0 (E_z88.cutb 0) (kSeq (evCP E_z88 (evLP E_z88 n) (sub C_z88 [1,1,1,1])) (kFnP E_z88 R_z88))
theorem qFj (K:KT) (n:Nat):(fun l0 out4 i5=>evLP E_z88 n (sub C_z88 [1,1,1,0,0,0]) K (qKI l0 out4 i5))=qwE (qyr K) n:=by
 induction n
 kernel_rfl;rename_i n ih;show _=qhc (qyr K) (qwE (qyr K) n) n;rw[← ih];kernel_rfl
theorem qWd (n:Nat) (l0:LI) (o0:Lab):evFnP E_z88 n C_z88 R_z88 [.dat (.sl (.int .i64)) l0 o0]=qPq n l0:=by
 unfold qPq;rw[(Eq.trans (by kernel_rfl) (qFj (qRC n) n).symm:qwE (qmV n) n=_)];kernel_rfl
theorem qFk:gG 88 s_z88:=sQ (E:=E_z88) (c:=C_z88) rfl (fC qoI fN) Tryz.func88 fun avs r h=>by
 unfold s_z88 at h;split at h
 ·obtain⟨hp,rfl⟩:=yj h;exact eX (qQn _ hp) fun n=>qWd n _ _
 ·cases h
theorem qFl:gG 41 s_z41:=sY [(86,s_z86),(87,s_z87),(88,s_z88)] 29 (some [2,3]) (fC qFf (fC qFi (fC qFk fN))) Tryz.func41 fun avs r h=>by
 unfold s_z41 at h;split at h
 ·obtain⟨hp,rfl⟩:=yj h;exact eX (qQo _ hp)
 ·cases h
theorem qog:gG 204 s_z204:=sY [] 23 (some [2]) fN Tryz.func204 fun avs r h=>by
 unfold s_z204 at h;split at h <;> cases h
 exact eX (qJI _)
theorem qys:gG 232 s_z232:=sY [] 12 (some [2,3]) fN Tryz.func232 fun avs r h=>by
 unfold s_z232 at h;split at h <;> cases h
 exact eX (qJJ _)
def qqp:EnvP:=eQ [(204,s_z204),(232,s_z232)] 55 (some [2]) (fun x=>if x=4 then some [0,3] else none) (fun x=>if x=0 then some [3] else if x=1 then some [0,3] else none) nP
def qFm:Code:=cO Tryz.f203
def qRD:Array ResultVar:=Tryz.f203.results
noncomputable def qqq (K:KT):=fun n3=>K (.exit 0) (frOf [(3,dc n3)])
noncomputable def qqr (K:KT):=fun s2=>K .ret (frOf [(2,dc s2)])
def qNf (n:Nat):KT:=qf 0 (qqp.cutb 0) (kSeq (evCP qqp (evLP qqp n) (sub qFm [1,1,1,1])) (kFnP qqp qRD))
def qNg (s0:LU) (n3:Int):Fr:=frOf [(0,da s0),(3,dc n3)]
theorem qyt (K:KT) (n:Nat):(fun s0 n3=>evLP qqp n (sub qFm [1,1,1,0,0,0]) K (qNg s0 n3))=qjO (qqr K) (qqq K) n:=by
 induction n
 kernel_rfl;rename_i n ih;show _=qey (qqr K) (qqq K) (qjO (qqr K) (qqq K) n) n;rw[← ih];kernel_rfl
theorem qRE (n:Nat) (s0:LU) (o0:Lab):evFnP qqp n qFm qRD [db s0 o0]=quE n s0:=by
 unfold quE;rw[(Eq.trans (by kernel_rfl) (qyt (qNf n) n).symm:qjO qKR (qim n) n=_)];kernel_rfl
theorem qyu:gG 203 s_z203:=sQ (E:=qqp) (c:=qFm) rfl (fC qog (fC qys fN)) Tryz.func203 fun avs r h=>by
 unfold s_z203 at h;split at h
 ·obtain⟨hp,rfl⟩:=yj h;exact eX (qJK _ hp) fun n=>qRE n _ _
 ·cases h
def qlU:EnvP:=eQ [(203,s_z203),(204,s_z204)] 58 (some [2,3,4]) (fun x=>if x=8 then some [0,5,7,8] else none) (fun x=>if x=0 then some [5,7] else if x=1 then some [0,5,7,8] else none) nP
def qyv:Code:=cO Tryz.f152
def qRF:Array ResultVar:=Tryz.f152.results
noncomputable def qqs (K:KT):=fun n5 c7=>K (.exit 0) (frOf [(5,dc n5),(7,dc c7)])
def qNh (n:Nat):KT:=qf 0 (qlU.cutb 0) (kSeq (evCP qlU (evLP qlU n) (sub qyv [1,1,1,0,1,0,1,1,1])) (kSeq (evCP qlU (evLP qlU n) (sub qyv [1,1,1,1])) (kFnP qlU qRF)))
def qNi (s0:LU) (n5:Int) (c7:Int) (i8:Int):Fr:=frOf [(0,da s0),(5,dc n5),(7,dc c7),(8,dc i8)]
theorem qyw (K:KT) (n:Nat):(fun s0 n5 c7 i8=>evLP qlU n (sub qyv [1,1,1,0,1,0,1,1,0,1,0,0]) K (qNi s0 n5 c7 i8))=qkV (qqs K) n:=by
 induction n
 kernel_rfl;rename_i n ih;show _=qez (qqs K) (qkV (qqs K) n) n;rw[← ih];kernel_rfl
theorem qRG (n:Nat) (s0:LU) (o0:Lab):evFnP qlU n qyv qRF [db s0 o0]=quF n s0:=by
 unfold quF;rw[(Eq.trans (by kernel_rfl) (qyw (qNh n) n).symm:qkV (qmW n) n=_)];kernel_rfl
theorem qyx:gG 152 s_z152:=sQ (E:=qlU) (c:=qyv) rfl (fC qyu (fC qog fN)) Tryz.func152 fun avs r h=>by
 unfold s_z152 at h;split at h
 ·obtain⟨hp,rfl⟩:=yj h;exact eX (qJL _ hp) fun n=>qRG n _ _
 ·cases h
def E_z89:EnvP:=eQ [(152,s_z152)] 42 (some [2,3,4]) (fun x=>if x=4 then some [0,5,6,7,8] else none) (fun x=>if x=0 then some [5,6,7] else if x=1 then some [0,5,6,7,8] else none) nP
def C_z89:Code:=cO Tryz.f89
def R_z89:Array ResultVar:=Tryz.f89.results
noncomputable def qyy (K:KT):=fun out5 broken6 first7=>K (.exit 0) (frOf [(5,(.dat (.sl (.int .i32)) out5 (some (5,21)))),(6,dc broken6),(7,dc first7)])
def qRH (n:Nat):KT:=qf 0 (E_z89.cutb 0) (kSeq (evCP E_z89 (evLP E_z89 n) (sub C_z89 [1,1,1,1])) (kFnP E_z89 R_z89))
def qRI (s0:LU) (out5:LI) (broken6:Int) (first7:Int) (at8:Int):Fr:=frOf [(0,da s0),(5,(.dat (.sl (.int .i32)) out5 (some (5,21)))),(6,dc broken6),(7,dc first7),(8,dc at8)]
theorem qFn (K:KT) (n:Nat):(fun s0 out5 broken6 first7 at8=>evLP E_z89 n (sub C_z89 [1,1,1,0,1,0,0]) K (qRI s0 out5 broken6 first7 at8))=qsd (qyy K) n:=by
 induction n
 kernel_rfl;rename_i n ih;show _=qmX (qyy K) (qsd (qyy K) n) n;rw[← ih];kernel_rfl
theorem qWe (n:Nat) (s0:LU) (o0:Lab):evFnP E_z89 n C_z89 R_z89 [db s0 o0]=qPr n s0:=by
 unfold qPr;rw[(Eq.trans (by kernel_rfl) (qFn (qRH n) n).symm:qsd (qmY n) n=_)];kernel_rfl
theorem qFo:gG 89 s_z89:=sQ (E:=E_z89) (c:=C_z89) rfl (fC qyx fN) Tryz.func89 fun avs r h=>by
 unfold s_z89 at h;split at h
 ·obtain⟨hp,rfl⟩:=yj h;exact eX (qQi _ hp) fun n=>qWe n _ _
 ·cases h
def E_z42:EnvP:=eQ [(89,s_z89),(90,s_z90),(91,s_z91)] 69 (some [1000004]) (fun x=>if x=6 then some [0,1,8,9] else none) (fun x=>if x=0 then some [8] else if x=1 then some [0,1,8,9] else if x=2 then some [0,1,8,9] else none) nP
def C_z42:Code:=cO Tryz.f42
def R_z42:Array ResultVar:=Tryz.f42.results
noncomputable def qyz (K:KT):=fun out8=>K (.exit 0) (frOf [(8,(.dat (.sl (.int .i32)) out8 (some (8,21))))])
def qRJ (n:Nat):KT:=qf 0 (E_z42.cutb 0) (kSeq (evCP E_z42 (evLP E_z42 n) (sub C_z42 [1,1,1,1])) (kFnP E_z42 R_z42))
def qRK (charset0:Int) (s1:LU) (out8:LI) (i9:Int):Fr:=frOf [(0,dc charset0),(1,da s1),(8,(.dat (.sl (.int .i32)) out8 (some (8,21)))),(9,dc i9)]
theorem qFp (K:KT) (n:Nat):(fun charset0 s1 out8 i9=>evLP E_z42 n (sub C_z42 [1,1,1,0,1,0,0]) K (qRK charset0 s1 out8 i9))=qwF (qyz K) n:=by
 induction n
 kernel_rfl;rename_i n ih;show _=qhe (qyz K) (qwF (qyz K) n) n;rw[← ih];kernel_rfl
theorem qWf (n:Nat) (charset0:Int) (o0:Lab) (s1:LU) (o1:Lab):evFnP E_z42 n C_z42 R_z42 [de charset0 o0,db s1 o1]=qIg n charset0 s1:=by
 unfold qIg;rw[(Eq.trans (by kernel_rfl) (qFp (qRJ n) n).symm:qwF (qmZ n) n=_)];kernel_rfl
theorem qFq:gG 42 s_z42:=sQ (E:=E_z42) (c:=C_z42) rfl (fC qFo (fC qtD (fC qtE fN))) Tryz.func42 fun avs r h=>by
 unfold s_z42 at h;split at h
 ·obtain⟨hp,rfl⟩:=yj h;exact eX (qQj _ _ hp) fun n=>qWf n _ _ _ _
 ·cases h
theorem qFr:gG 20 s_z20:=sZ [(40,s_z40),(41,s_z41),(42,s_z42)] 25 (some [6]) nC (fun x=>if x=0 then some [1,2] else none) nP (fC qHn (fC qFl (fC qFq fN))) Tryz.func20 fun avs r h=>by
 unfold s_z20 at h;split at h
 ·obtain⟨hp,rfl⟩:=yj h;exact eX (qPd _ _ _ hp)
 ·cases h
def qqt:EnvP:=eQ [(131,s_z131)] 20 (some [4]) (fun x=>if x=2 then some [0,1,5] else none) (fun x=>if x=0 then some [] else if x=1 then some [0,1,5] else none) nP
def qFs:Code:=cO Tryz.f107
def qRL:Array ResultVar:=Tryz.f107.results
noncomputable def qqu (K:KT):=fun s4=>K .ret (frOf [(4,dc s4)])
def qNj (n:Nat):KT:=qf 0 (qqt.cutb 0) (kSeq (evCP qqt (evLP qqt n) (sub qFs [1,1])) (kFnP qqt qRL))
def qNk (charset0:Int) (t1:LI) (i5:Int):Fr:=frOf [(0,dc charset0),(1,(.dat (.sl (.int .i32)) t1 none)),(5,dc i5)]
theorem qyA (K:KT) (n:Nat):(fun charset0 t1 i5=>evLP qqt n (sub qFs [1,0,1,0,0]) K (qNk charset0 t1 i5))=qkW (qqu K) (K (.exit 0) (frOf [])) n:=by
 induction n
 kernel_rfl;rename_i n ih;show _=qeB (qqu K) (K (.exit 0) (frOf [])) (qkW (qqu K) (K (.exit 0) (frOf [])) n) n;rw[← ih];kernel_rfl
theorem qRM (n:Nat) (charset0:Int) (o0:Lab) (t1:LI) (o1:Lab):evFnP qqt n qFs qRL [de charset0 o0,.dat (.sl (.int .i32)) t1 o1]=quH n charset0 t1:=by
 unfold quH;rw[(Eq.trans (by kernel_rfl) (qyA (qNj n) n).symm:qkW qKR (qna n) n=_)];kernel_rfl
theorem qyB:gG 107 s_z107:=sQ (E:=qqt) (c:=qFs) rfl (fC qoF fN) Tryz.func107 fun avs r h=>by
 unfold s_z107 at h;split at h
 ·obtain⟨hp,rfl⟩:=yj h;exact eX (qIE _ _ hp) fun n=>qRM n _ _ _ _
 ·cases h
theorem qFt:gG 51 s_z51:=sY [(107,s_z107)] 17 (some [4]) (fC qyB fN) Tryz.func51 fun avs r h=>by
 unfold s_z51 at h;split at h
 ·obtain⟨hp,rfl⟩:=yj h;exact eX (qPE _ _ hp)
 ·cases h
def E_z26:EnvP:=eQ [(51,s_z51)] 13 (some [2,3]) (fun x=>if x=2 then some [0,4] else none) (fun x=>if x=0 then some [] else if x=1 then some [0,4] else none) nP
def C_z26:Code:=cO Tryz.f26
def R_z26:Array ResultVar:=Tryz.f26.results
noncomputable def qyC (K:KT):=fun s2 s3=>K .ret (frOf [(2,dc s2),(3,dc s3)])
def qRN (n:Nat):KT:=qf 0 (E_z26.cutb 0) (kSeq (evCP E_z26 (evLP E_z26 n) (sub C_z26 [1,1])) (kFnP E_z26 R_z26))
def qRO (t0:LI) (n4:Int):Fr:=frOf [(0,(.dat (.sl (.int .i32)) t0 none)),(4,dc n4)]
theorem qFu (K:KT) (n:Nat):(fun t0 n4=>evLP E_z26 n (sub C_z26 [1,0,1,0,0]) K (qRO t0 n4))=qpl (qyC K) (K (.exit 0) (frOf [])) n:=by
 induction n
 kernel_rfl;rename_i n ih;show _=qhf (qyC K) (K (.exit 0) (frOf [])) (qpl (qyC K) (K (.exit 0) (frOf [])) n) n;rw[← ih];kernel_rfl
theorem qWg (n:Nat) (t0:LI) (o0:Lab):evFnP E_z26 n C_z26 R_z26 [.dat (.sl (.int .i32)) t0 o0]=qIh n t0:=by
 unfold qIh;rw[(Eq.trans (by kernel_rfl) (qFu (qRN n) n).symm:qpl qCu (qjQ n) n=_)];kernel_rfl
theorem qFv:gG 26 s_z26:=sQ (E:=E_z26) (c:=C_z26) rfl (fC qFt fN) Tryz.func26 fun avs r h=>by
 unfold s_z26 at h;split at h
 ·obtain⟨hp,rfl⟩:=yj h;exact eX (qPF _ hp) fun n=>qWg n _ _
 ·cases h
def E_z9:EnvP:=eQ [(11,s_z11),(14,s_z14),(20,s_z20),(26,s_z26)] 42 (some [2,3,1000004,5]) (fun x=>if x=5 then some [0,6,8] else none) (fun x=>if x=0 then some [] else if x=1 then some [0,6,8] else none) nP
def C_z9:Code:=cO Tryz.f9
def R_z9:Array ResultVar:=Tryz.f9.results
noncomputable def qNl (K:KT):=fun s2 s3 s4 s5=>K .ret (frOf [(2,dc s2),(3,dc s3),(4,da s4),(5,dc s5)])
def qWh (n:Nat):KT:=qf 0 (E_z9.cutb 0) (kSeq (evCP E_z9 (evLP E_z9 n) (sub C_z9 [1,1,1,1])) (kFnP E_z9 R_z9))
def qWi (t0:LI) (n6:Int) (coding8:Int):Fr:=frOf [(0,(.dat (.sl (.int .i32)) t0 none)),(6,dc n6),(8,dc coding8)]
theorem qNm (K:KT) (n:Nat):(fun t0 n6 coding8=>evLP E_z9 n (sub C_z9 [1,1,1,0,1,0,0]) K (qWi t0 n6 coding8))=z9_l5 (qNl K) (K (.exit 0) (frOf [])) n:=by
 induction n
 kernel_rfl;rename_i n ih;show _=qjR (qNl K) (K (.exit 0) (frOf [])) (z9_l5 (qNl K) (K (.exit 0) (frOf [])) n) n;rw[← ih];kernel_rfl
theorem z9_ev (n:Nat) (t0:LI) (o0:Lab):evFnP E_z9 n C_z9 R_z9 [.dat (.sl (.int .i32)) t0 o0]=z9_sh n t0:=by
 unfold z9_sh;rw[(Eq.trans (by kernel_rfl) (qNm (qWh n) n).symm:z9_l5 qmz (qjS n) n=_)];kernel_rfl
theorem qNn:gG 9 s_z9:=sQ (E:=E_z9) (c:=C_z9) rfl (fC qlZ (fC qHh (fC qFr (fC qFv fN)))) Tryz.func9 fun avs r h=>by
 unfold s_z9 at h;split at h
 ·obtain⟨hp,rfl⟩:=yj h;exact eX (qUy _ hp) fun n=>z9_ev n _ _
 ·cases h
def E_z10:EnvP:=eQ [] 26 (some [4]) (fun x=>if x=4 then some [0,1,5] else none) (fun x=>if x=0 then some [] else if x=1 then some [0,1,5] else none) nP
def C_z10:Code:=cO Tryz.f10
def R_z10:Array ResultVar:=Tryz.f10.results
noncomputable def qyD (K:KT):=fun s4=>K .ret (frOf [(4,dg s4)])
def qRP (n:Nat):KT:=qf 0 (E_z10.cutb 0) (kSeq (evCP E_z10 (evLP E_z10 n) (sub C_z10 [1,1,1])) (kFnP E_z10 R_z10))
def qRQ (a0:LU) (b1:LU) (i5:Int):Fr:=frOf [(0,da a0),(1,da b1),(5,dc i5)]
theorem qFw (K:KT) (n:Nat):(fun a0 b1 i5=>evLP E_z10 n (sub C_z10 [1,1,0,1,0,0]) K (qRQ a0 b1 i5))=qpm (qyD K) (K (.exit 0) (frOf [])) n:=by
 induction n
 kernel_rfl;rename_i n ih;show _=qhg (qyD K) (K (.exit 0) (frOf [])) (qpm (qyD K) (K (.exit 0) (frOf [])) n) n;rw[← ih];kernel_rfl
theorem qWj (n:Nat) (a0:LU) (o0:Lab) (b1:LU) (o1:Lab):evFnP E_z10 n C_z10 R_z10 [db a0 o0,db b1 o1]=qIi n a0 b1:=by
 unfold qIi;rw[(Eq.trans (by kernel_rfl) (qFw (qRP n) n).symm:qpm qBy (qCJ n) n=_)];kernel_rfl
theorem qFx:gG 10 s_z10:=sQ (E:=E_z10) (c:=C_z10) rfl fN Tryz.func10 fun avs r h=>by
 unfold s_z10 at h;split at h
 ·obtain⟨hp,rfl⟩:=yj h;exact eX (qPs _ _ hp) fun n=>qWj n _ _ _ _
 ·cases h
theorem qNo:gG 3 s_z3:=sY [(7,s_z7),(8,s_z8),(9,s_z9),(10,s_z10),(11,s_z11),(12,s_z12)] 62 (some [2]) (fC qOl (fC qAD (fC qNn (fC qFx (fC qlZ (fC qlV fN)))))) Tryz.func3 fun avs r h=>by
 unfold s_z3 at h;split at h
 ·obtain⟨hp,rfl⟩:=yj h;exact eX (qUz _ hp)
 ·cases h
end
end
end Go.Av
