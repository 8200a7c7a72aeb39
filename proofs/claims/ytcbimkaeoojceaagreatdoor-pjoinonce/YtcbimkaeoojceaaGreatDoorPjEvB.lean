import Derived.Test.YtcbimkaeoojceaaGreatDoorPjEvA
import Derived.Test.YtcbimkaeoojceaaGreatDoorPjU
import Derived.Test.YtcbimkaeoojceaaGreatDoorProg
import Derived.KernelRfl
namespace Go.Av
set_option linter.unusedSimpArgs false
noncomputable section
open Go.Proofs
set_option maxRecDepth 100000
set_option linter.unusedVariables false
def qiy:EnvP:=eQ [] 21 (some [1000004]) (fun x=>if x=1 then some [0,1] else none) (fun x=>if x=0 then some [0] else if x=1 then some [0,1] else none) nP
def qpL:Code:=cO Tryz.f123
def qDe:Array ResultVar:=Tryz.f123.results
noncomputable def qgA (K:Ex→Fr→Option AV):=fun s0=>K (.exit 0) (frOf [(0,da s0)])
def qiz (n:Nat):Ex→Fr→Option AV:=qw 0 (qiy.cutb 0) (kSeq (evCP qiy (evLP qiy n) (sub qpL [1,1])) (kFnP qiy qDe))
def qlE (s0:List UInt8) (c1:UInt8):Fr:=frOf [(0,da s0),(1,(di c1 none))]
theorem qsh (K:Ex→Fr→Option AV):∀ (n:Nat) (s0:List UInt8) (c1:UInt8),evLP qiy n (sub qpL [1,0,0,0]) K (qlE s0 c1)=qhG (qgA K) n s0 c1:=by
 intro n;induction n with
 | zero=>intros; rfl
 | succ n IH =>
 intro s0 c1;have ih:(fun s0 c1=>evLP qiy n (sub qpL [1,0,0,0]) K (qlE s0 c1))=qhG (qgA K) n:=by
  funext s0 c1;exact IH s0 c1
 show _=qoG (qgA K) (qhG (qgA K) n) n s0 c1;rw [← ih];kernel_rfl
theorem qlF (n:Nat) (s0:List UInt8):(qiz n) (.exit 0) (frOf [(0,da s0)])=qfH n s0:=by
 kernel_rfl
theorem qDf (n:Nat) (s0:List UInt8) (o0:Lab) (c1:UInt8) (o1:Lab):evFnP qiy n qpL qDe [db s0 o0,di c1 o1]=qtJ n s0 c1:=by
 unfold qtJ;rw [show qhG (qfH n) n=(fun s0 c1=>evLP qiy n (sub qpL [1,0,0,0]) (qiz n) (qlE s0 c1)) from by
  funext s0 c1;refine Eq.trans ?_ (qsh (qiz n) n s0 c1).symm;rw [show (qgA (qiz n))=(qfH n) from by
   funext s0;exact qlF n s0]
  all_goals kernel_rfl]
 kernel_rfl
theorem qsi:ql G Tryz.prog 123 s_z123:=by
 refine sQ (E:=qiy) (c:=qpL) rfl (fun w S hg=>qf) Tryz.func123 ?_;intro avs r h;unfold s_z123 at h;split at h
 ·obtain ⟨hp,rfl⟩:=yj h;obtain ⟨n,hn⟩:=qxX _ _ hp;exact ⟨n,_,(qDf n _ _ _ _).trans hn,.inl rfl⟩
 ·cases h
def qiA:EnvP:=eQ [] 24 (some [4]) (fun x=>if x=1 then some [0,1] else none) (fun x=>if x=0 then some [0] else if x=1 then some [0,1] else none) nP
def qpM:Code:=cO Tryz.f124
def qDg:Array ResultVar:=Tryz.f124.results
noncomputable def qgB (K:Ex→Fr→Option AV):=fun s0=>K (.exit 0) (frOf [(0,da s0)])
def qiB (n:Nat):Ex→Fr→Option AV:=qw 0 (qiA.cutb 0) (kSeq (evCP qiA (evLP qiA n) (sub qpM [1,1])) (kFnP qiA qDg))
def qlG (s0:List UInt8) (c1:UInt8):Fr:=frOf [(0,da s0),(1,(di c1 none))]
theorem qsj (K:Ex→Fr→Option AV):∀ (n:Nat) (s0:List UInt8) (c1:UInt8),evLP qiA n (sub qpM [1,0,0,0]) K (qlG s0 c1)=qhH (qgB K) n s0 c1:=by
 intro n;induction n with
 | zero=>intros; rfl
 | succ n IH =>
 intro s0 c1;have ih:(fun s0 c1=>evLP qiA n (sub qpM [1,0,0,0]) K (qlG s0 c1))=qhH (qgB K) n:=by
  funext s0 c1;exact IH s0 c1
 show _=qoH (qgB K) (qhH (qgB K) n) n s0 c1;rw [← ih];kernel_rfl
theorem qlH (n:Nat) (s0:List UInt8):(qiB n) (.exit 0) (frOf [(0,da s0)])=qfI n s0:=by
 kernel_rfl
theorem qDh (n:Nat) (s0:List UInt8) (o0:Lab) (c1:UInt8) (o1:Lab):evFnP qiA n qpM qDg [db s0 o0,di c1 o1]=qtL n s0 c1:=by
 unfold qtL;rw [show qhH (qfI n) n=(fun s0 c1=>evLP qiA n (sub qpM [1,0,0,0]) (qiB n) (qlG s0 c1)) from by
  funext s0 c1;refine Eq.trans ?_ (qsj (qiB n) n s0 c1).symm;rw [show (qgB (qiB n))=(qfI n) from by
   funext s0;exact qlH n s0]
  all_goals kernel_rfl]
 kernel_rfl
theorem qsk:ql G Tryz.prog 124 s_z124:=by
 refine sQ (E:=qiA) (c:=qpM) rfl (fun w S hg=>qf) Tryz.func124 ?_;intro avs r h;unfold s_z124 at h;split at h
 ·obtain ⟨hp,rfl⟩:=yj h;obtain ⟨n,hn⟩:=qxY _ _ hp;exact ⟨n,_,(qDh n _ _ _ _).trans hn,.inl rfl⟩
 ·cases h
def qiC:EnvP:=eQ [] 21 (some [2,3]) (fun x=>if x=2 then some [0,2,4] else none) (fun x=>if x=0 then some [2] else if x=1 then some [0,2,4] else none) nP
def qpN:Code:=cO Tryz.f125
def qDi:Array ResultVar:=Tryz.f125.results
noncomputable def qiD (K:Ex→Fr→Option AV):=fun as2 ok3=>K .ret (frOf [(2,(.box (.arr 256 .bool) as2)),(3,dg ok3)])
noncomputable def qgC (K:Ex→Fr→Option AV):=fun as2=>K (.exit 0) (frOf [(2,(.box (.arr 256 .bool) as2))])
def qiE (n:Nat):Ex→Fr→Option AV:=qw 0 (qiC.cutb 0) (kSeq (evCP qiC (evLP qiC n) (sub qpN [1,1])) (kFnP qiC qDi))
def qlI (chars0:List UInt8) (as2:List Bool) (i4:Int):Fr:=frOf [(0,(df chars0 none)),(2,(.box (.arr 256 .bool) as2)),(4,dc i4)]
theorem qsl (K:Ex→Fr→Option AV):∀ (n:Nat) (chars0:List UInt8) (as2:List Bool) (i4:Int),evLP qiC n (sub qpN [1,0,1,0,0]) K (qlI chars0 as2 i4)=qdQ (qiD K) (qgC K) n chars0 as2 i4:=by
 intro n;induction n with
 | zero=>intros; rfl
 | succ n IH =>
 intro chars0 as2 i4;have ih:(fun chars0 as2 i4=>evLP qiC n (sub qpN [1,0,1,0,0]) K (qlI chars0 as2 i4))=qdQ (qiD K) (qgC K) n:=by
  funext chars0 as2 i4;exact IH chars0 as2 i4
 show _=qcC (qiD K) (qgC K) (qdQ (qiD K) (qgC K) n) n chars0 as2 i4;rw [← ih];kernel_rfl
theorem qlJ (n:Nat) (as2:List Bool):(qiE n) (.exit 0) (frOf [(2,(.box (.arr 256 .bool) as2))])=qdR n as2:=by
 kernel_rfl
theorem qDj (n:Nat) (chars0:List UInt8) (o0:Lab):evFnP qiC n qpN qDi [df chars0 o0]=qtM n chars0:=by
 unfold qtM;rw [show qdQ qgQ (qdR n) n=(fun chars0 as2 i4=>evLP qiC n (sub qpN [1,0,1,0,0]) (qiE n) (qlI chars0 as2 i4)) from by
  funext chars0 as2 i4;refine Eq.trans ?_ (qsl (qiE n) n chars0 as2 i4).symm;rw [show (qgC (qiE n))=(qdR n) from by
   funext as2;exact qlJ n as2]
  all_goals kernel_rfl]
 kernel_rfl
theorem qsm:ql G Tryz.prog 125 s_z125:=by
 refine sQ (E:=qiC) (c:=qpN) rfl (fun w S hg=>qf) Tryz.func125 ?_;intro avs r h;unfold s_z125 at h;split at h
 ·obtain ⟨hp,rfl⟩:=yj h;obtain ⟨n,hn⟩:=qxV _ hp;exact ⟨n,_,(qDj n _ _).trans hn,.inl rfl⟩
 ·cases h
def qDk:EnvP:=eQ [] 10 (some [4]) nC nC nP
def qDl:Code:=cO Tryz.f134
def qFy:Array ResultVar:=Tryz.f134.results
theorem qDm (n:Nat) (as0:List Bool) (c1:UInt8) (o1:Lab):evFnP qDk n qDl qFy [.adr (.arr 256 .bool) as0,di c1 o1]=qtO n as0 c1:=by
 kernel_rfl
theorem qko:ql G Tryz.prog 134 s_z134:=by
 refine sQ (E:=qDk) (c:=qDl) rfl (fun w S hg=>qf) Tryz.func134 ?_;intro avs r h;unfold s_z134 at h;split at h <;> cases h
 obtain ⟨n,hn⟩:=qxW _ _;exact ⟨n,_,(qDm n _ _ _).trans hn,.inl rfl⟩
def qiF:EnvP:=eQ [(134,s_z134)] 20 (some [1000004]) (fun x=>if x=1 then some [0,1] else none) (fun x=>if x=0 then some [0] else if x=1 then some [0,1] else none) nP
def qpO:Code:=cO Tryz.f126
def qDn:Array ResultVar:=Tryz.f126.results
noncomputable def qgD (K:Ex→Fr→Option AV):=fun s0=>K (.exit 0) (frOf [(0,da s0)])
def qiG (n:Nat):Ex→Fr→Option AV:=qw 0 (qiF.cutb 0) (kSeq (evCP qiF (evLP qiF n) (sub qpO [1,1])) (kFnP qiF qDn))
def qlK (s0:List UInt8) (as1:List Bool):Fr:=frOf [(0,da s0),(1,(.adr (.arr 256 .bool) as1))]
theorem qsn (K:Ex→Fr→Option AV):∀ (n:Nat) (s0:List UInt8) (as1:List Bool),evLP qiF n (sub qpO [1,0,0,0]) K (qlK s0 as1)=qeZ (qgD K) n s0 as1:=by
 intro n;induction n with
 | zero=>intros; rfl
 | succ n IH =>
 intro s0 as1;have ih:(fun s0 as1=>evLP qiF n (sub qpO [1,0,0,0]) K (qlK s0 as1))=qeZ (qgD K) n:=by
  funext s0 as1;exact IH s0 as1
 show _=qfJ (qgD K) (qeZ (qgD K) n) n s0 as1;rw [← ih];kernel_rfl
theorem qlL (n:Nat) (s0:List UInt8):(qiG n) (.exit 0) (frOf [(0,da s0)])=qdS n s0:=by
 kernel_rfl
theorem qDo (n:Nat) (s0:List UInt8) (o0:Lab) (as1:List Bool):evFnP qiF n qpO qDn [db s0 o0,.adr (.arr 256 .bool) as1]=qoI n s0 as1:=by
 unfold qoI;rw [show qeZ (qdS n) n=(fun s0 as1=>evLP qiF n (sub qpO [1,0,0,0]) (qiG n) (qlK s0 as1)) from by
  funext s0 as1;refine Eq.trans ?_ (qsn (qiG n) n s0 as1).symm;rw [show (qgD (qiG n))=(qdS n) from by
   funext s0;exact qlL n s0]
  all_goals kernel_rfl]
 kernel_rfl
theorem qso:ql G Tryz.prog 126 s_z126:=by
 refine sQ (E:=qiF) (c:=qpO) rfl (fun w S hg=>(qb (qko w S hg) qf)) Tryz.func126 ?_;intro avs r h;unfold s_z126 at h;split at h
 ·obtain ⟨hp,rfl⟩:=yj h;obtain ⟨n,hn⟩:=qya _ _ hp;exact ⟨n,_,(qDo n _ _ _).trans hn,.inl rfl⟩
 ·cases h
def qiH:EnvP:=eQ [(134,s_z134)] 23 (some [4]) (fun x=>if x=1 then some [0,1] else none) (fun x=>if x=0 then some [0] else if x=1 then some [0,1] else none) nP
def qpP:Code:=cO Tryz.f127
def qDp:Array ResultVar:=Tryz.f127.results
noncomputable def qgE (K:Ex→Fr→Option AV):=fun s0=>K (.exit 0) (frOf [(0,da s0)])
def qiI (n:Nat):Ex→Fr→Option AV:=qw 0 (qiH.cutb 0) (kSeq (evCP qiH (evLP qiH n) (sub qpP [1,1])) (kFnP qiH qDp))
def qlM (s0:List UInt8) (as1:List Bool):Fr:=frOf [(0,da s0),(1,(.adr (.arr 256 .bool) as1))]
theorem qsp (K:Ex→Fr→Option AV):∀ (n:Nat) (s0:List UInt8) (as1:List Bool),evLP qiH n (sub qpP [1,0,0,0]) K (qlM s0 as1)=qfa (qgE K) n s0 as1:=by
 intro n;induction n with
 | zero=>intros; rfl
 | succ n IH =>
 intro s0 as1;have ih:(fun s0 as1=>evLP qiH n (sub qpP [1,0,0,0]) K (qlM s0 as1))=qfa (qgE K) n:=by
  funext s0 as1;exact IH s0 as1
 show _=qfK (qgE K) (qfa (qgE K) n) n s0 as1;rw [← ih];kernel_rfl
theorem qlN (n:Nat) (s0:List UInt8):(qiI n) (.exit 0) (frOf [(0,da s0)])=qfL n s0:=by
 kernel_rfl
theorem qDq (n:Nat) (s0:List UInt8) (o0:Lab) (as1:List Bool):evFnP qiH n qpP qDp [db s0 o0,.adr (.arr 256 .bool) as1]=qoJ n s0 as1:=by
 unfold qoJ;rw [show qfa (qfL n) n=(fun s0 as1=>evLP qiH n (sub qpP [1,0,0,0]) (qiI n) (qlM s0 as1)) from by
  funext s0 as1;refine Eq.trans ?_ (qsp (qiI n) n s0 as1).symm;rw [show (qgE (qiI n))=(qfL n) from by
   funext s0;exact qlN n s0]
  all_goals kernel_rfl]
 kernel_rfl
theorem qsq:ql G Tryz.prog 127 s_z127:=by
 refine sQ (E:=qiH) (c:=qpP) rfl (fun w S hg=>(qb (qko w S hg) qf)) Tryz.func127 ?_;intro avs r h;unfold s_z127 at h;split at h
 ·obtain ⟨hp,rfl⟩:=yj h;obtain ⟨n,hn⟩:=qxZ _ _ hp;exact ⟨n,_,(qDq n _ _ _).trans hn,.inl rfl⟩
 ·cases h
def qDr:EnvP:=⟨⟨tiOf tis,fnsOf [(123,s_z123),(124,s_z124),(125,s_z125),(126,s_z126),(127,s_z127),(128,s_z128),(129,s_z129)],cnsOf [],[],42,(fun _=>none),(fun _=>none),some [1000004]⟩,fun _=>none,fun _=>none,(fun x=>if x=500009 then [5] else []),fun _=>none,fun _=>none,fun _=>none,fun _=>none⟩
def qDs:Code:=cO Tryz.f112
def qFz:Array ResultVar:=Tryz.f112.results
theorem qDt (n:Nat) (s0:List UInt8) (o0:Lab) (cutset1:List UInt8) (o1:Lab):evFnP qDr n qDs qFz [db s0 o0,df cutset1 o1]=qtQ n s0 cutset1:=by
 kernel_rfl
theorem qsr:ql G Tryz.prog 112 s_z112:=by
 refine qK G_stays (E:=qDr) (fn:=Tryz.f112) (c:=qDs) (qo rfl qbZ) (fun w S hg=>⟨⟨(qb (qsi w S hg) (qb (qsk w S hg) (qb (qsm w S hg) (qb (qso w S hg) (qb (qsq w S hg) (qb (qsd w S hg) (qb (qse w S hg) qf))))))),fun f sp h=>qaJ f sp h w S⟩,qaL w S hg,(fun _ _ h=>by cases h),(fun f sp h=>qbj f sp h),(fun f it h=>qbk f it h),(fun t kt vt h=>qaK t kt vt h)⟩) follows Tryz.func112 (by kernel_rfl) (by kernel_rfl) (by kernel_rfl) ?_;intro avs r h;unfold s_z112 at h;split at h
 ·obtain ⟨hp,rfl⟩:=yj h;obtain ⟨n,hn⟩:=qyb _ _ hp;exact ⟨n,_,(qDt n _ _ _ _).trans hn,.inl rfl⟩
 ·cases h
def E_z92:EnvP:=eQ [(43,s_z43),(112,s_z112)] 6 (some [2]) nC nC nP
def C_z92:Code:=cO Tryz.f92
def R_z92:Array ResultVar:=Tryz.f92.results
theorem qFA (n:Nat) (s0:List UInt8) (o0:Lab):evFnP E_z92 n C_z92 R_z92 [db s0 o0]=qBd n s0:=by
 kernel_rfl
theorem qwf:ql G Tryz.prog 92 s_z92:=by
 refine sQ (E:=E_z92) (c:=C_z92) rfl (fun w S hg=>(qb (qdN w S hg) (qb (qsr w S hg) qf))) Tryz.func92 ?_;intro avs r h;unfold s_z92 at h;split at h
 ·obtain ⟨hp,rfl⟩:=yj h;obtain ⟨n,hn⟩:=qBV _ hp;exact ⟨n,_,(qFA n _ _).trans hn,.inl rfl⟩
 ·cases h
end
end Go.Av
