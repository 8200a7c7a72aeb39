import Derived.Test.YtopepdfipgfakaaGreatDoorEfEvE
import Derived.Test.YtopepdfipgfakaaGreatDoorEfLayX
import Derived.Test.YtopepdfipgfakaaGreatDoorProg
import Derived.KernelRfl
namespace Go.Av
set_option linter.unusedSimpArgs false
noncomputable section
open Go.Proofs
set_option maxRecDepth 100000
set_option linter.unusedVariables false
def qaW:EnvP:=eQ [] 21 (some [1000004]) (fun x=>if x=1 then some [0,1] else none) (fun x=>if x=0 then some [0] else if x=1 then some [0,1] else none) nP
def qho:Code:=cO Tryz.f221
def qoZ:Array ResultVar:=Tryz.f221.results
theorem qpa (K:Ex→Fr→Option AV):∀ (n:Nat) (s0:List UInt8) (c1:UInt8),evLP qaW n (sub qho [1,0,0,0]) K (frOf [(0,(.dat (.sl .byte) s0 none)),(1,(.dat .byte c1 none))])=qgt (fun s0=>K (.exit 0) (frOf [(0,(.dat (.sl .byte) s0 none))])) n s0 c1:=by
 intro n
 induction n with
 | zero=>intros; rfl
 | succ n IH =>
 intro s0 c1
 have ih:(fun s0 c1=>evLP qaW n (sub qho [1,0,0,0]) K (frOf [(0,(.dat (.sl .byte) s0 none)),(1,(.dat .byte c1 none))]))=qgt (fun s0=>K (.exit 0) (frOf [(0,(.dat (.sl .byte) s0 none))])) n:=by
  funext s0 c1
  exact IH s0 c1
 show _=qlt (fun s0=>K (.exit 0) (frOf [(0,(.dat (.sl .byte) s0 none))])) (qgt (fun s0=>K (.exit 0) (frOf [(0,(.dat (.sl .byte) s0 none))])) n) n s0 c1
 rw [← ih]
 kernel_rfl
theorem qjF (n:Nat) (s0:List UInt8):(qc 0 (qaW.cutb 0) (kSeq (evCP qaW (evLP qaW n) (sub qho [1,1])) (kFnP qaW qoZ))) (.exit 0) (frOf [(0,(.dat (.sl .byte) s0 none))])=qeP n s0:=by
 kernel_rfl
theorem qAg (n:Nat) (s0:List UInt8) (o0:Lab) (c1:UInt8) (o1:Lab):evFnP qaW n qho qoZ [.dat (.sl .byte) s0 o0,.dat .byte c1 o1]=qqJ n s0 c1:=by
 unfold qqJ
 rw [show qgt (qeP n) n=(fun s0 c1=>evLP qaW n (sub qho [1,0,0,0]) (qc 0 (qaW.cutb 0) (kSeq (evCP qaW (evLP qaW n) (sub qho [1,1])) (kFnP qaW qoZ))) (frOf [(0,(.dat (.sl .byte) s0 none)),(1,(.dat .byte c1 none))])) from by
  funext s0 c1
  refine Eq.trans ?_ (qpa (qc 0 (qaW.cutb 0) (kSeq (evCP qaW (evLP qaW n) (sub qho [1,1])) (kFnP qaW qoZ))) n s0 c1).symm
  rw [show (fun s0=>(qc 0 (qaW.cutb 0) (kSeq (evCP qaW (evLP qaW n) (sub qho [1,1])) (kFnP qaW qoZ))) (.exit 0) (frOf [(0,(.dat (.sl .byte) s0 none))]))=(qeP n) from by
   funext s0
   exact qjF n s0]
  all_goals kernel_rfl]
 kernel_rfl
theorem qpb:qg G Tryz.prog 221 s_z221:=by
 refine sQ (E:=qaW) (c:=qho) rfl (fun w S hg=>qd) Tryz.func221 ?_
 intro avs r h
 unfold s_z221 at h
 split at h
 ·obtain ⟨hp,rfl⟩:=Prod.mk.inj h
  obtain ⟨n,hn⟩:=que _ _ hp
  exact ⟨n,_,(qAg n _ _ _ _).trans hn,.inl rfl⟩
 ·cases h
def qaX:EnvP:=eQ [] 24 (some [4]) (fun x=>if x=1 then some [0,1] else none) (fun x=>if x=0 then some [0] else if x=1 then some [0,1] else none) nP
def qhp:Code:=cO Tryz.f222
def qpc:Array ResultVar:=Tryz.f222.results
theorem qpd (K:Ex→Fr→Option AV):∀ (n:Nat) (s0:List UInt8) (c1:UInt8),evLP qaX n (sub qhp [1,0,0,0]) K (frOf [(0,(.dat (.sl .byte) s0 none)),(1,(.dat .byte c1 none))])=qgu (fun s0=>K (.exit 0) (frOf [(0,(.dat (.sl .byte) s0 none))])) n s0 c1:=by
 intro n
 induction n with
 | zero=>intros; rfl
 | succ n IH =>
 intro s0 c1
 have ih:(fun s0 c1=>evLP qaX n (sub qhp [1,0,0,0]) K (frOf [(0,(.dat (.sl .byte) s0 none)),(1,(.dat .byte c1 none))]))=qgu (fun s0=>K (.exit 0) (frOf [(0,(.dat (.sl .byte) s0 none))])) n:=by
  funext s0 c1
  exact IH s0 c1
 show _=qlu (fun s0=>K (.exit 0) (frOf [(0,(.dat (.sl .byte) s0 none))])) (qgu (fun s0=>K (.exit 0) (frOf [(0,(.dat (.sl .byte) s0 none))])) n) n s0 c1
 rw [← ih]
 kernel_rfl
theorem qjG (n:Nat) (s0:List UInt8):(qc 0 (qaX.cutb 0) (kSeq (evCP qaX (evLP qaX n) (sub qhp [1,1])) (kFnP qaX qpc))) (.exit 0) (frOf [(0,(.dat (.sl .byte) s0 none))])=qeQ n s0:=by
 kernel_rfl
theorem qAh (n:Nat) (s0:List UInt8) (o0:Lab) (c1:UInt8) (o1:Lab):evFnP qaX n qhp qpc [.dat (.sl .byte) s0 o0,.dat .byte c1 o1]=qqL n s0 c1:=by
 unfold qqL
 rw [show qgu (qeQ n) n=(fun s0 c1=>evLP qaX n (sub qhp [1,0,0,0]) (qc 0 (qaX.cutb 0) (kSeq (evCP qaX (evLP qaX n) (sub qhp [1,1])) (kFnP qaX qpc))) (frOf [(0,(.dat (.sl .byte) s0 none)),(1,(.dat .byte c1 none))])) from by
  funext s0 c1
  refine Eq.trans ?_ (qpd (qc 0 (qaX.cutb 0) (kSeq (evCP qaX (evLP qaX n) (sub qhp [1,1])) (kFnP qaX qpc))) n s0 c1).symm
  rw [show (fun s0=>(qc 0 (qaX.cutb 0) (kSeq (evCP qaX (evLP qaX n) (sub qhp [1,1])) (kFnP qaX qpc))) (.exit 0) (frOf [(0,(.dat (.sl .byte) s0 none))]))=(qeQ n) from by
   funext s0
   exact qjG n s0]
  all_goals kernel_rfl]
 kernel_rfl
theorem qpe:qg G Tryz.prog 222 s_z222:=by
 refine sQ (E:=qaX) (c:=qhp) rfl (fun w S hg=>qd) Tryz.func222 ?_
 intro avs r h
 unfold s_z222 at h
 split at h
 ·obtain ⟨hp,rfl⟩:=Prod.mk.inj h
  obtain ⟨n,hn⟩:=quf _ _ hp
  exact ⟨n,_,(qAh n _ _ _ _).trans hn,.inl rfl⟩
 ·cases h
def qaY:EnvP:=eQ [] 21 (some [2,3]) (fun x=>if x=2 then some [0,2,4] else none) (fun x=>if x=0 then some [2] else if x=1 then some [0,2,4] else none) nP
def qhq:Code:=cO Tryz.f223
def qpf:Array ResultVar:=Tryz.f223.results
theorem qpg (K:Ex→Fr→Option AV):∀ (n:Nat) (chars0:List UInt8) (as2:List Bool) (i4:Int),evLP qaY n (sub qhq [1,0,1,0,0]) K (frOf [(0,(.dat .str chars0 none)),(2,(.box (.arr 256 .bool) as2)),(4,(.dat (.int .i64) i4 none))])=qdp (fun as2 ok3=>K .ret (frOf [(2,(.box (.arr 256 .bool) as2)),(3,(.dat .bool ok3 none))])) (fun as2=>K (.exit 0) (frOf [(2,(.box (.arr 256 .bool) as2))])) n chars0 as2 i4:=by
 intro n
 induction n with
 | zero=>intros; rfl
 | succ n IH =>
 intro chars0 as2 i4
 have ih:(fun chars0 as2 i4=>evLP qaY n (sub qhq [1,0,1,0,0]) K (frOf [(0,(.dat .str chars0 none)),(2,(.box (.arr 256 .bool) as2)),(4,(.dat (.int .i64) i4 none))]))=qdp (fun as2 ok3=>K .ret (frOf [(2,(.box (.arr 256 .bool) as2)),(3,(.dat .bool ok3 none))])) (fun as2=>K (.exit 0) (frOf [(2,(.box (.arr 256 .bool) as2))])) n:=by
  funext chars0 as2 i4
  exact IH chars0 as2 i4
 show _=qch (fun as2 ok3=>K .ret (frOf [(2,(.box (.arr 256 .bool) as2)),(3,(.dat .bool ok3 none))])) (fun as2=>K (.exit 0) (frOf [(2,(.box (.arr 256 .bool) as2))])) (qdp (fun as2 ok3=>K .ret (frOf [(2,(.box (.arr 256 .bool) as2)),(3,(.dat .bool ok3 none))])) (fun as2=>K (.exit 0) (frOf [(2,(.box (.arr 256 .bool) as2))])) n) n chars0 as2 i4
 rw [← ih]
 kernel_rfl
theorem qjH (n:Nat) (as2:List Bool):(qc 0 (qaY.cutb 0) (kSeq (evCP qaY (evLP qaY n) (sub qhq [1,1])) (kFnP qaY qpf))) (.exit 0) (frOf [(2,(.box (.arr 256 .bool) as2))])=qdq n as2:=by
 kernel_rfl
theorem qAi (n:Nat) (chars0:List UInt8) (o0:Lab):evFnP qaY n qhq qpf [.dat .str chars0 o0]=qqM n chars0:=by
 unfold qqM
 rw [show qdp qfK (qdq n) n=(fun chars0 as2 i4=>evLP qaY n (sub qhq [1,0,1,0,0]) (qc 0 (qaY.cutb 0) (kSeq (evCP qaY (evLP qaY n) (sub qhq [1,1])) (kFnP qaY qpf))) (frOf [(0,(.dat .str chars0 none)),(2,(.box (.arr 256 .bool) as2)),(4,(.dat (.int .i64) i4 none))])) from by
  funext chars0 as2 i4
  refine Eq.trans ?_ (qpg (qc 0 (qaY.cutb 0) (kSeq (evCP qaY (evLP qaY n) (sub qhq [1,1])) (kFnP qaY qpf))) n chars0 as2 i4).symm
  rw [show (fun as2=>(qc 0 (qaY.cutb 0) (kSeq (evCP qaY (evLP qaY n) (sub qhq [1,1])) (kFnP qaY qpf))) (.exit 0) (frOf [(2,(.box (.arr 256 .bool) as2))]))=(qdq n) from by
   funext as2
   exact qjH n as2]
  all_goals kernel_rfl]
 kernel_rfl
theorem qph:qg G Tryz.prog 223 s_z223:=by
 refine sQ (E:=qaY) (c:=qhq) rfl (fun w S hg=>qd) Tryz.func223 ?_
 intro avs r h
 unfold s_z223 at h
 split at h
 ·obtain ⟨hp,rfl⟩:=Prod.mk.inj h
  obtain ⟨n,hn⟩:=qtW _ hp
  exact ⟨n,_,(qAi n _ _).trans hn,.inl rfl⟩
 ·cases h
def qAj:EnvP:=eQ [] 10 (some [4]) nC nC nP
def qAk:Code:=cO Tryz.f238
def qCF:Array ResultVar:=Tryz.f238.results
theorem qAl (n:Nat) (as0:List Bool) (c1:UInt8) (o1:Lab):evFnP qAj n qAk qCF [.adr (.arr 256 .bool) as0,.dat .byte c1 o1]=qqO n as0 c1:=by
 kernel_rfl
theorem qiw:qg G Tryz.prog 238 s_z238:=by
 refine sQ (E:=qAj) (c:=qAk) rfl (fun w S hg=>qd) Tryz.func238 ?_
 intro avs r h
 unfold s_z238 at h
 split at h <;> cases h
 obtain ⟨n,hn⟩:=qtX _ _
 exact ⟨n,_,(qAl n _ _ _).trans hn,.inl rfl⟩
def qaZ:EnvP:=eQ [(238,s_z238)] 20 (some [1000004]) (fun x=>if x=1 then some [0,1] else none) (fun x=>if x=0 then some [0] else if x=1 then some [0,1] else none) nP
def qhr:Code:=cO Tryz.f224
def qpi:Array ResultVar:=Tryz.f224.results
theorem qpj (K:Ex→Fr→Option AV):∀ (n:Nat) (s0:List UInt8) (as1:List Bool),evLP qaZ n (sub qhr [1,0,0,0]) K (frOf [(0,(.dat (.sl .byte) s0 none)),(1,(.adr (.arr 256 .bool) as1))])=qep (fun s0=>K (.exit 0) (frOf [(0,(.dat (.sl .byte) s0 none))])) n s0 as1:=by
 intro n
 induction n with
 | zero=>intros; rfl
 | succ n IH =>
 intro s0 as1
 have ih:(fun s0 as1=>evLP qaZ n (sub qhr [1,0,0,0]) K (frOf [(0,(.dat (.sl .byte) s0 none)),(1,(.adr (.arr 256 .bool) as1))]))=qep (fun s0=>K (.exit 0) (frOf [(0,(.dat (.sl .byte) s0 none))])) n:=by
  funext s0 as1
  exact IH s0 as1
 show _=qeR (fun s0=>K (.exit 0) (frOf [(0,(.dat (.sl .byte) s0 none))])) (qep (fun s0=>K (.exit 0) (frOf [(0,(.dat (.sl .byte) s0 none))])) n) n s0 as1
 rw [← ih]
 kernel_rfl
theorem qjI (n:Nat) (s0:List UInt8):(qc 0 (qaZ.cutb 0) (kSeq (evCP qaZ (evLP qaZ n) (sub qhr [1,1])) (kFnP qaZ qpi))) (.exit 0) (frOf [(0,(.dat (.sl .byte) s0 none))])=qdr n s0:=by
 kernel_rfl
theorem qAm (n:Nat) (s0:List UInt8) (o0:Lab) (as1:List Bool):evFnP qaZ n qhr qpi [.dat (.sl .byte) s0 o0,.adr (.arr 256 .bool) as1]=qlv n s0 as1:=by
 unfold qlv
 rw [show qep (qdr n) n=(fun s0 as1=>evLP qaZ n (sub qhr [1,0,0,0]) (qc 0 (qaZ.cutb 0) (kSeq (evCP qaZ (evLP qaZ n) (sub qhr [1,1])) (kFnP qaZ qpi))) (frOf [(0,(.dat (.sl .byte) s0 none)),(1,(.adr (.arr 256 .bool) as1))])) from by
  funext s0 as1
  refine Eq.trans ?_ (qpj (qc 0 (qaZ.cutb 0) (kSeq (evCP qaZ (evLP qaZ n) (sub qhr [1,1])) (kFnP qaZ qpi))) n s0 as1).symm
  rw [show (fun s0=>(qc 0 (qaZ.cutb 0) (kSeq (evCP qaZ (evLP qaZ n) (sub qhr [1,1])) (kFnP qaZ qpi))) (.exit 0) (frOf [(0,(.dat (.sl .byte) s0 none))]))=(qdr n) from by
   funext s0
   exact qjI n s0]
  all_goals kernel_rfl]
 kernel_rfl
theorem qpk:qg G Tryz.prog 224 s_z224:=by
 refine sQ (E:=qaZ) (c:=qhr) rfl (fun w S hg=>(qb (qiw w S hg) qd)) Tryz.func224 ?_
 intro avs r h
 unfold s_z224 at h
 split at h
 ·obtain ⟨hp,rfl⟩:=Prod.mk.inj h
  obtain ⟨n,hn⟩:=quh _ _ hp
  exact ⟨n,_,(qAm n _ _ _).trans hn,.inl rfl⟩
 ·cases h
def qba:EnvP:=eQ [(238,s_z238)] 23 (some [4]) (fun x=>if x=1 then some [0,1] else none) (fun x=>if x=0 then some [0] else if x=1 then some [0,1] else none) nP
def qhs:Code:=cO Tryz.f225
def qpl:Array ResultVar:=Tryz.f225.results
theorem qpm (K:Ex→Fr→Option AV):∀ (n:Nat) (s0:List UInt8) (as1:List Bool),evLP qba n (sub qhs [1,0,0,0]) K (frOf [(0,(.dat (.sl .byte) s0 none)),(1,(.adr (.arr 256 .bool) as1))])=qeq (fun s0=>K (.exit 0) (frOf [(0,(.dat (.sl .byte) s0 none))])) n s0 as1:=by
 intro n
 induction n with
 | zero=>intros; rfl
 | succ n IH =>
 intro s0 as1
 have ih:(fun s0 as1=>evLP qba n (sub qhs [1,0,0,0]) K (frOf [(0,(.dat (.sl .byte) s0 none)),(1,(.adr (.arr 256 .bool) as1))]))=qeq (fun s0=>K (.exit 0) (frOf [(0,(.dat (.sl .byte) s0 none))])) n:=by
  funext s0 as1
  exact IH s0 as1
 show _=qeS (fun s0=>K (.exit 0) (frOf [(0,(.dat (.sl .byte) s0 none))])) (qeq (fun s0=>K (.exit 0) (frOf [(0,(.dat (.sl .byte) s0 none))])) n) n s0 as1
 rw [← ih]
 kernel_rfl
theorem qjJ (n:Nat) (s0:List UInt8):(qc 0 (qba.cutb 0) (kSeq (evCP qba (evLP qba n) (sub qhs [1,1])) (kFnP qba qpl))) (.exit 0) (frOf [(0,(.dat (.sl .byte) s0 none))])=qeT n s0:=by
 kernel_rfl
theorem qAn (n:Nat) (s0:List UInt8) (o0:Lab) (as1:List Bool):evFnP qba n qhs qpl [.dat (.sl .byte) s0 o0,.adr (.arr 256 .bool) as1]=qlw n s0 as1:=by
 unfold qlw
 rw [show qeq (qeT n) n=(fun s0 as1=>evLP qba n (sub qhs [1,0,0,0]) (qc 0 (qba.cutb 0) (kSeq (evCP qba (evLP qba n) (sub qhs [1,1])) (kFnP qba qpl))) (frOf [(0,(.dat (.sl .byte) s0 none)),(1,(.adr (.arr 256 .bool) as1))])) from by
  funext s0 as1
  refine Eq.trans ?_ (qpm (qc 0 (qba.cutb 0) (kSeq (evCP qba (evLP qba n) (sub qhs [1,1])) (kFnP qba qpl))) n s0 as1).symm
  rw [show (fun s0=>(qc 0 (qba.cutb 0) (kSeq (evCP qba (evLP qba n) (sub qhs [1,1])) (kFnP qba qpl))) (.exit 0) (frOf [(0,(.dat (.sl .byte) s0 none))]))=(qeT n) from by
   funext s0
   exact qjJ n s0]
  all_goals kernel_rfl]
 kernel_rfl
theorem qpn:qg G Tryz.prog 225 s_z225:=by
 refine sQ (E:=qba) (c:=qhs) rfl (fun w S hg=>(qb (qiw w S hg) qd)) Tryz.func225 ?_
 intro avs r h
 unfold s_z225 at h
 split at h
 ·obtain ⟨hp,rfl⟩:=Prod.mk.inj h
  obtain ⟨n,hn⟩:=qug _ _ hp
  exact ⟨n,_,(qAn n _ _ _).trans hn,.inl rfl⟩
 ·cases h
def qAo:EnvP:=⟨⟨tiOf tis,fnsOf [(221,s_z221),(222,s_z222),(223,s_z223),(224,s_z224),(225,s_z225),(226,s_z226),(227,s_z227)],cnsOf [],[],42,(fun _=>none),(fun _=>none),some [1000004]⟩,fun _=>none,fun _=>none,(fun x=>if x=500009 then [5] else []),fun _=>none,fun _=>none,fun _=>none,fun _=>none⟩
def qAp:Code:=cO Tryz.f190
def qCG:Array ResultVar:=Tryz.f190.results
theorem qAq (n:Nat) (s0:List UInt8) (o0:Lab) (cutset1:List UInt8) (o1:Lab):evFnP qAo n qAp qCG [.dat (.sl .byte) s0 o0,.dat .str cutset1 o1]=qqQ n s0 cutset1:=by
 kernel_rfl
theorem qpo:qg G Tryz.prog 190 s_z190:=by
 refine qN G_stays (E:=qAo) (fn:=Tryz.f190) (c:=qAp) (qp rfl qdO) (fun w S hg=>⟨⟨(qb (qpb w S hg) (qb (qpe w S hg) (qb (qph w S hg) (qb (qpk w S hg) (qb (qpn w S hg) (qb (qol w S hg) (qb (qom w S hg) qd))))))),fun f sp h=>qbw f sp h w S⟩,qbC w S hg,(fun _ _ h=>by cases h),(fun f sp h=>qck f sp h),(fun f it h=>qcl f it h),(fun t kt vt h=>qbG t kt vt h)⟩) follows Tryz.func190 (by kernel_rfl) (by kernel_rfl) (by kernel_rfl) ?_
 intro avs r h
 unfold s_z190 at h
 split at h
 ·obtain ⟨hp,rfl⟩:=Prod.mk.inj h
  obtain ⟨n,hn⟩:=qui _ _ hp
  exact ⟨n,_,(qAq n _ _ _ _).trans hn,.inl rfl⟩
 ·cases h
def qAr:EnvP:=eQ [(38,s_z38),(190,s_z190)] 6 (some [2]) nC nC nP
def qAs:Code:=cO Tryz.f148
def qCH:Array ResultVar:=Tryz.f148.results
theorem qAt (n:Nat) (s0:List UInt8) (o0:Lab):evFnP qAr n qAs qCH [.dat (.sl .byte) s0 o0]=qqS n s0:=by
 kernel_rfl
theorem qpp:qg G Tryz.prog 148 s_z148:=by
 refine sQ (E:=qAr) (c:=qAs) rfl (fun w S hg=>(qb (qeK w S hg) (qb (qpo w S hg) qd))) Tryz.func148 ?_
 intro avs r h
 unfold s_z148 at h
 split at h
 ·obtain ⟨hp,rfl⟩:=Prod.mk.inj h
  obtain ⟨n,hn⟩:=qur _ hp
  exact ⟨n,_,(qAt n _ _).trans hn,.inl rfl⟩
 ·cases h
def qAu:EnvP:=eQ [(109,s_z109),(148,s_z148)] 13 (some [2]) nC nC nP
def qAv:Code:=cO Tryz.f107
def qCI:Array ResultVar:=Tryz.f107.results
theorem qAw (n:Nat) (s0:List UInt8) (o0:Lab):evFnP qAu n qAv qCI [.dat (.sl .byte) s0 o0]=qqT n s0:=by
 kernel_rfl
theorem qpq:qg G Tryz.prog 107 s_z107:=by
 refine sQ (E:=qAu) (c:=qAv) rfl (fun w S hg=>(qb (qon w S hg) (qb (qpp w S hg) qd))) Tryz.func107 ?_
 intro avs r h
 unfold s_z107 at h
 split at h
 ·obtain ⟨hp,rfl⟩:=Prod.mk.inj h
  obtain ⟨n,hn⟩:=qtx _ hp
  exact ⟨n,_,(qAw n _ _).trans hn,.inl rfl⟩
 ·cases h
end
end Go.Av
