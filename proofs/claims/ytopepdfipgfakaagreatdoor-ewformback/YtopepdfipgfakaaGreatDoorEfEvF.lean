import Derived.Test.YtopepdfipgfakaaGreatDoorEfEvE
import Derived.Test.YtopepdfipgfakaaGreatDoorEfLayX
import Derived.Test.YtopepdfipgfakaaGreatDoorProg
import Derived.KernelRfl
namespace Go.Av
set_option linter.unusedSimpArgs false
open Go.Proofs
set_option maxRecDepth 100000
set_option linter.unusedVariables false
noncomputable def qaY:EnvP:=eQ [] 21 (some [1000004]) (fun x=>if x=1 then some [0,1] else none) (fun x=>if x=0 then some [0] else if x=1 then some [0,1] else none) nP
noncomputable def qhP:Code:=cO Tryz.f221
noncomputable def qqx:Array ResultVar:=Tryz.f221.results
theorem qqy (K:Ex→Fr→Option AV):∀ (n:Nat) (s0:List UInt8) (c1:UInt8),evLP qaY n (sub qhP [1,0,0,0]) K (frOf [(0,(.dat (.sl .byte) s0 none)),(1,(.dat .byte c1 none))])=qgT (fun s0=>K (.exit 0) (frOf [(0,(.dat (.sl .byte) s0 none))])) n s0 c1:=by
 intro n
 induction n with
 | zero=>intros; rfl
 | succ n IH =>
 intro s0 c1
 have ih:(fun s0 c1=>evLP qaY n (sub qhP [1,0,0,0]) K (frOf [(0,(.dat (.sl .byte) s0 none)),(1,(.dat .byte c1 none))]))=qgT (fun s0=>K (.exit 0) (frOf [(0,(.dat (.sl .byte) s0 none))])) n:=by
  funext s0 c1
  exact IH s0 c1
 show _=qmG (fun s0=>K (.exit 0) (frOf [(0,(.dat (.sl .byte) s0 none))])) (qgT (fun s0=>K (.exit 0) (frOf [(0,(.dat (.sl .byte) s0 none))])) n) n s0 c1
 rw [← ih]
 kernel_rfl
theorem qkw (n:Nat) (s0:List UInt8):(qc 0 (qaY.cutb 0) (kSeq (evCP qaY (evLP qaY n) (sub qhP [1,1])) (kFnP qaY qqx))) (.exit 0) (frOf [(0,(.dat (.sl .byte) s0 none))])=qfi n s0:=by
 kernel_rfl
theorem qCy (n:Nat) (s0:List UInt8) (o0:Lab) (c1:UInt8) (o1:Lab):evFnP qaY n qhP qqx [.dat (.sl .byte) s0 o0,.dat .byte c1 o1]=qsD n s0 c1:=by
 unfold qsD
 rw [show qgT (qfi n) n=(fun s0 c1=>evLP qaY n (sub qhP [1,0,0,0]) (qc 0 (qaY.cutb 0) (kSeq (evCP qaY (evLP qaY n) (sub qhP [1,1])) (kFnP qaY qqx))) (frOf [(0,(.dat (.sl .byte) s0 none)),(1,(.dat .byte c1 none))])) from by
  funext s0 c1
  refine Eq.trans ?_ (qqy (qc 0 (qaY.cutb 0) (kSeq (evCP qaY (evLP qaY n) (sub qhP [1,1])) (kFnP qaY qqx))) n s0 c1).symm
  rw [show (fun s0=>(qc 0 (qaY.cutb 0) (kSeq (evCP qaY (evLP qaY n) (sub qhP [1,1])) (kFnP qaY qqx))) (.exit 0) (frOf [(0,(.dat (.sl .byte) s0 none))]))=(qfi n) from by
   funext s0
   exact qkw n s0]
  all_goals kernel_rfl]
 kernel_rfl
theorem qqz:qh G Tryz.prog 221 s_z221:=by
 refine sQ (E:=qaY) (c:=qhP) rfl (fun w S hg=>qd) Tryz.func221 (by kernel_rfl) (by kernel_rfl) (by kernel_rfl) ?_
 intro avs r h
 unfold s_z221 at h
 split at h
 ·simp only [Prod.mk.injEq] at h
  obtain ⟨hp,rfl⟩:=h
  obtain ⟨n,hn⟩:=qwx _ _ hp
  exact ⟨n,_,(qCy n _ _ _ _).trans hn,.inl rfl⟩
 ·cases h
noncomputable def qaZ:EnvP:=eQ [] 24 (some [4]) (fun x=>if x=1 then some [0,1] else none) (fun x=>if x=0 then some [0] else if x=1 then some [0,1] else none) nP
noncomputable def qhQ:Code:=cO Tryz.f222
noncomputable def qqA:Array ResultVar:=Tryz.f222.results
theorem qqB (K:Ex→Fr→Option AV):∀ (n:Nat) (s0:List UInt8) (c1:UInt8),evLP qaZ n (sub qhQ [1,0,0,0]) K (frOf [(0,(.dat (.sl .byte) s0 none)),(1,(.dat .byte c1 none))])=qgU (fun s0=>K (.exit 0) (frOf [(0,(.dat (.sl .byte) s0 none))])) n s0 c1:=by
 intro n
 induction n with
 | zero=>intros; rfl
 | succ n IH =>
 intro s0 c1
 have ih:(fun s0 c1=>evLP qaZ n (sub qhQ [1,0,0,0]) K (frOf [(0,(.dat (.sl .byte) s0 none)),(1,(.dat .byte c1 none))]))=qgU (fun s0=>K (.exit 0) (frOf [(0,(.dat (.sl .byte) s0 none))])) n:=by
  funext s0 c1
  exact IH s0 c1
 show _=qmH (fun s0=>K (.exit 0) (frOf [(0,(.dat (.sl .byte) s0 none))])) (qgU (fun s0=>K (.exit 0) (frOf [(0,(.dat (.sl .byte) s0 none))])) n) n s0 c1
 rw [← ih]
 kernel_rfl
theorem qkx (n:Nat) (s0:List UInt8):(qc 0 (qaZ.cutb 0) (kSeq (evCP qaZ (evLP qaZ n) (sub qhQ [1,1])) (kFnP qaZ qqA))) (.exit 0) (frOf [(0,(.dat (.sl .byte) s0 none))])=qfj n s0:=by
 kernel_rfl
theorem qCz (n:Nat) (s0:List UInt8) (o0:Lab) (c1:UInt8) (o1:Lab):evFnP qaZ n qhQ qqA [.dat (.sl .byte) s0 o0,.dat .byte c1 o1]=qsF n s0 c1:=by
 unfold qsF
 rw [show qgU (qfj n) n=(fun s0 c1=>evLP qaZ n (sub qhQ [1,0,0,0]) (qc 0 (qaZ.cutb 0) (kSeq (evCP qaZ (evLP qaZ n) (sub qhQ [1,1])) (kFnP qaZ qqA))) (frOf [(0,(.dat (.sl .byte) s0 none)),(1,(.dat .byte c1 none))])) from by
  funext s0 c1
  refine Eq.trans ?_ (qqB (qc 0 (qaZ.cutb 0) (kSeq (evCP qaZ (evLP qaZ n) (sub qhQ [1,1])) (kFnP qaZ qqA))) n s0 c1).symm
  rw [show (fun s0=>(qc 0 (qaZ.cutb 0) (kSeq (evCP qaZ (evLP qaZ n) (sub qhQ [1,1])) (kFnP qaZ qqA))) (.exit 0) (frOf [(0,(.dat (.sl .byte) s0 none))]))=(qfj n) from by
   funext s0
   exact qkx n s0]
  all_goals kernel_rfl]
 kernel_rfl
theorem qqC:qh G Tryz.prog 222 s_z222:=by
 refine sQ (E:=qaZ) (c:=qhQ) rfl (fun w S hg=>qd) Tryz.func222 (by kernel_rfl) (by kernel_rfl) (by kernel_rfl) ?_
 intro avs r h
 unfold s_z222 at h
 split at h
 ·simp only [Prod.mk.injEq] at h
  obtain ⟨hp,rfl⟩:=h
  obtain ⟨n,hn⟩:=qwy _ _ hp
  exact ⟨n,_,(qCz n _ _ _ _).trans hn,.inl rfl⟩
 ·cases h
noncomputable def qba:EnvP:=eQ [] 21 (some [2,3]) (fun x=>if x=2 then some [0,2,4] else none) (fun x=>if x=0 then some [2] else if x=1 then some [0,2,4] else none) nP
noncomputable def qhR:Code:=cO Tryz.f223
noncomputable def qqD:Array ResultVar:=Tryz.f223.results
theorem qqE (K:Ex→Fr→Option AV):∀ (n:Nat) (chars0:List UInt8) (as2:List Bool) (i4:Int),evLP qba n (sub qhR [1,0,1,0,0]) K (frOf [(0,(.dat .str chars0 none)),(2,(.box (.arr 256 .bool) as2)),(4,(.dat (.int .i64) i4 none))])=qdC (fun as2 ok3=>K .ret (frOf [(2,(.box (.arr 256 .bool) as2)),(3,(.dat .bool ok3 none))])) (fun as2=>K (.exit 0) (frOf [(2,(.box (.arr 256 .bool) as2))])) n chars0 as2 i4:=by
 intro n
 induction n with
 | zero=>intros; rfl
 | succ n IH =>
 intro chars0 as2 i4
 have ih:(fun chars0 as2 i4=>evLP qba n (sub qhR [1,0,1,0,0]) K (frOf [(0,(.dat .str chars0 none)),(2,(.box (.arr 256 .bool) as2)),(4,(.dat (.int .i64) i4 none))]))=qdC (fun as2 ok3=>K .ret (frOf [(2,(.box (.arr 256 .bool) as2)),(3,(.dat .bool ok3 none))])) (fun as2=>K (.exit 0) (frOf [(2,(.box (.arr 256 .bool) as2))])) n:=by
  funext chars0 as2 i4
  exact IH chars0 as2 i4
 show _=qco (fun as2 ok3=>K .ret (frOf [(2,(.box (.arr 256 .bool) as2)),(3,(.dat .bool ok3 none))])) (fun as2=>K (.exit 0) (frOf [(2,(.box (.arr 256 .bool) as2))])) (qdC (fun as2 ok3=>K .ret (frOf [(2,(.box (.arr 256 .bool) as2)),(3,(.dat .bool ok3 none))])) (fun as2=>K (.exit 0) (frOf [(2,(.box (.arr 256 .bool) as2))])) n) n chars0 as2 i4
 rw [← ih]
 kernel_rfl
theorem qky (n:Nat) (as2:List Bool):(qc 0 (qba.cutb 0) (kSeq (evCP qba (evLP qba n) (sub qhR [1,1])) (kFnP qba qqD))) (.exit 0) (frOf [(2,(.box (.arr 256 .bool) as2))])=qdD n as2:=by
 kernel_rfl
theorem qCA (n:Nat) (chars0:List UInt8) (o0:Lab):evFnP qba n qhR qqD [.dat .str chars0 o0]=qsG n chars0:=by
 unfold qsG
 rw [show qdC qgi (qdD n) n=(fun chars0 as2 i4=>evLP qba n (sub qhR [1,0,1,0,0]) (qc 0 (qba.cutb 0) (kSeq (evCP qba (evLP qba n) (sub qhR [1,1])) (kFnP qba qqD))) (frOf [(0,(.dat .str chars0 none)),(2,(.box (.arr 256 .bool) as2)),(4,(.dat (.int .i64) i4 none))])) from by
  funext chars0 as2 i4
  refine Eq.trans ?_ (qqE (qc 0 (qba.cutb 0) (kSeq (evCP qba (evLP qba n) (sub qhR [1,1])) (kFnP qba qqD))) n chars0 as2 i4).symm
  rw [show (fun as2=>(qc 0 (qba.cutb 0) (kSeq (evCP qba (evLP qba n) (sub qhR [1,1])) (kFnP qba qqD))) (.exit 0) (frOf [(2,(.box (.arr 256 .bool) as2))]))=(qdD n) from by
   funext as2
   exact qky n as2]
  all_goals kernel_rfl]
 kernel_rfl
theorem qqF:qh G Tryz.prog 223 s_z223:=by
 refine sQ (E:=qba) (c:=qhR) rfl (fun w S hg=>qd) Tryz.func223 (by kernel_rfl) (by kernel_rfl) (by kernel_rfl) ?_
 intro avs r h
 unfold s_z223 at h
 split at h
 ·simp only [Prod.mk.injEq] at h
  obtain ⟨hp,rfl⟩:=h
  obtain ⟨n,hn⟩:=qwp _ hp
  exact ⟨n,_,(qCA n _ _).trans hn,.inl rfl⟩
 ·cases h
noncomputable def qCB:EnvP:=eQ [] 10 (some [4]) nC nC nP
noncomputable def qCC:Code:=cO Tryz.f238
noncomputable def qFg:Array ResultVar:=Tryz.f238.results
theorem qCD (n:Nat) (as0:List Bool) (c1:UInt8) (o1:Lab):evFnP qCB n qCC qFg [.adr (.arr 256 .bool) as0,.dat .byte c1 o1]=qsI n as0 c1:=by
 kernel_rfl
theorem qjd:qh G Tryz.prog 238 s_z238:=by
 refine sQ (E:=qCB) (c:=qCC) rfl (fun w S hg=>qd) Tryz.func238 (by kernel_rfl) (by kernel_rfl) (by kernel_rfl) ?_
 intro avs r h
 unfold s_z238 at h
 split at h
 ·simp only [Prod.mk.injEq,true_and] at h
  subst h
  obtain ⟨n,hn⟩:=qwq _ _
  exact ⟨n,_,(qCD n _ _ _).trans hn,.inl rfl⟩
 ·cases h
noncomputable def qbb:EnvP:=eQ [(238,s_z238)] 20 (some [1000004]) (fun x=>if x=1 then some [0,1] else none) (fun x=>if x=0 then some [0] else if x=1 then some [0,1] else none) nP
noncomputable def qhS:Code:=cO Tryz.f224
noncomputable def qqG:Array ResultVar:=Tryz.f224.results
theorem qqH (K:Ex→Fr→Option AV):∀ (n:Nat) (s0:List UInt8) (as1:List Bool),evLP qbb n (sub qhS [1,0,0,0]) K (frOf [(0,(.dat (.sl .byte) s0 none)),(1,(.adr (.arr 256 .bool) as1))])=qeB (fun s0=>K (.exit 0) (frOf [(0,(.dat (.sl .byte) s0 none))])) n s0 as1:=by
 intro n
 induction n with
 | zero=>intros; rfl
 | succ n IH =>
 intro s0 as1
 have ih:(fun s0 as1=>evLP qbb n (sub qhS [1,0,0,0]) K (frOf [(0,(.dat (.sl .byte) s0 none)),(1,(.adr (.arr 256 .bool) as1))]))=qeB (fun s0=>K (.exit 0) (frOf [(0,(.dat (.sl .byte) s0 none))])) n:=by
  funext s0 as1
  exact IH s0 as1
 show _=qfk (fun s0=>K (.exit 0) (frOf [(0,(.dat (.sl .byte) s0 none))])) (qeB (fun s0=>K (.exit 0) (frOf [(0,(.dat (.sl .byte) s0 none))])) n) n s0 as1
 rw [← ih]
 kernel_rfl
theorem qkz (n:Nat) (s0:List UInt8):(qc 0 (qbb.cutb 0) (kSeq (evCP qbb (evLP qbb n) (sub qhS [1,1])) (kFnP qbb qqG))) (.exit 0) (frOf [(0,(.dat (.sl .byte) s0 none))])=qdE n s0:=by
 kernel_rfl
theorem qCE (n:Nat) (s0:List UInt8) (o0:Lab) (as1:List Bool):evFnP qbb n qhS qqG [.dat (.sl .byte) s0 o0,.adr (.arr 256 .bool) as1]=qmI n s0 as1:=by
 unfold qmI
 rw [show qeB (qdE n) n=(fun s0 as1=>evLP qbb n (sub qhS [1,0,0,0]) (qc 0 (qbb.cutb 0) (kSeq (evCP qbb (evLP qbb n) (sub qhS [1,1])) (kFnP qbb qqG))) (frOf [(0,(.dat (.sl .byte) s0 none)),(1,(.adr (.arr 256 .bool) as1))])) from by
  funext s0 as1
  refine Eq.trans ?_ (qqH (qc 0 (qbb.cutb 0) (kSeq (evCP qbb (evLP qbb n) (sub qhS [1,1])) (kFnP qbb qqG))) n s0 as1).symm
  rw [show (fun s0=>(qc 0 (qbb.cutb 0) (kSeq (evCP qbb (evLP qbb n) (sub qhS [1,1])) (kFnP qbb qqG))) (.exit 0) (frOf [(0,(.dat (.sl .byte) s0 none))]))=(qdE n) from by
   funext s0
   exact qkz n s0]
  all_goals kernel_rfl]
 kernel_rfl
theorem qqI:qh G Tryz.prog 224 s_z224:=by
 refine sQ (E:=qbb) (c:=qhS) rfl (fun w S hg=>(qb (qjd w S hg) qd)) Tryz.func224 (by kernel_rfl) (by kernel_rfl) (by kernel_rfl) ?_
 intro avs r h
 unfold s_z224 at h
 split at h
 ·simp only [Prod.mk.injEq] at h
  obtain ⟨hp,rfl⟩:=h
  obtain ⟨n,hn⟩:=qwA _ _ hp
  exact ⟨n,_,(qCE n _ _ _).trans hn,.inl rfl⟩
 ·cases h
noncomputable def qbc:EnvP:=eQ [(238,s_z238)] 23 (some [4]) (fun x=>if x=1 then some [0,1] else none) (fun x=>if x=0 then some [0] else if x=1 then some [0,1] else none) nP
noncomputable def qhT:Code:=cO Tryz.f225
noncomputable def qqJ:Array ResultVar:=Tryz.f225.results
theorem qqK (K:Ex→Fr→Option AV):∀ (n:Nat) (s0:List UInt8) (as1:List Bool),evLP qbc n (sub qhT [1,0,0,0]) K (frOf [(0,(.dat (.sl .byte) s0 none)),(1,(.adr (.arr 256 .bool) as1))])=qeC (fun s0=>K (.exit 0) (frOf [(0,(.dat (.sl .byte) s0 none))])) n s0 as1:=by
 intro n
 induction n with
 | zero=>intros; rfl
 | succ n IH =>
 intro s0 as1
 have ih:(fun s0 as1=>evLP qbc n (sub qhT [1,0,0,0]) K (frOf [(0,(.dat (.sl .byte) s0 none)),(1,(.adr (.arr 256 .bool) as1))]))=qeC (fun s0=>K (.exit 0) (frOf [(0,(.dat (.sl .byte) s0 none))])) n:=by
  funext s0 as1
  exact IH s0 as1
 show _=qfl (fun s0=>K (.exit 0) (frOf [(0,(.dat (.sl .byte) s0 none))])) (qeC (fun s0=>K (.exit 0) (frOf [(0,(.dat (.sl .byte) s0 none))])) n) n s0 as1
 rw [← ih]
 kernel_rfl
theorem qkA (n:Nat) (s0:List UInt8):(qc 0 (qbc.cutb 0) (kSeq (evCP qbc (evLP qbc n) (sub qhT [1,1])) (kFnP qbc qqJ))) (.exit 0) (frOf [(0,(.dat (.sl .byte) s0 none))])=qfm n s0:=by
 kernel_rfl
theorem qCF (n:Nat) (s0:List UInt8) (o0:Lab) (as1:List Bool):evFnP qbc n qhT qqJ [.dat (.sl .byte) s0 o0,.adr (.arr 256 .bool) as1]=qmJ n s0 as1:=by
 unfold qmJ
 rw [show qeC (qfm n) n=(fun s0 as1=>evLP qbc n (sub qhT [1,0,0,0]) (qc 0 (qbc.cutb 0) (kSeq (evCP qbc (evLP qbc n) (sub qhT [1,1])) (kFnP qbc qqJ))) (frOf [(0,(.dat (.sl .byte) s0 none)),(1,(.adr (.arr 256 .bool) as1))])) from by
  funext s0 as1
  refine Eq.trans ?_ (qqK (qc 0 (qbc.cutb 0) (kSeq (evCP qbc (evLP qbc n) (sub qhT [1,1])) (kFnP qbc qqJ))) n s0 as1).symm
  rw [show (fun s0=>(qc 0 (qbc.cutb 0) (kSeq (evCP qbc (evLP qbc n) (sub qhT [1,1])) (kFnP qbc qqJ))) (.exit 0) (frOf [(0,(.dat (.sl .byte) s0 none))]))=(qfm n) from by
   funext s0
   exact qkA n s0]
  all_goals kernel_rfl]
 kernel_rfl
theorem qqL:qh G Tryz.prog 225 s_z225:=by
 refine sQ (E:=qbc) (c:=qhT) rfl (fun w S hg=>(qb (qjd w S hg) qd)) Tryz.func225 (by kernel_rfl) (by kernel_rfl) (by kernel_rfl) ?_
 intro avs r h
 unfold s_z225 at h
 split at h
 ·simp only [Prod.mk.injEq] at h
  obtain ⟨hp,rfl⟩:=h
  obtain ⟨n,hn⟩:=qwz _ _ hp
  exact ⟨n,_,(qCF n _ _ _).trans hn,.inl rfl⟩
 ·cases h
noncomputable def qCG:EnvP:=⟨⟨tiOf tis,fnsOf [(221,s_z221),(222,s_z222),(223,s_z223),(224,s_z224),(225,s_z225),(226,s_z226),(227,s_z227)],cnsOf [],[],42,(fun _=>none),(fun _=>none),some [1000004]⟩,fun _=>none,fun _=>none,(fun x=>if x=500009 then [5] else []),fun _=>none,fun _=>none,fun _=>none,fun _=>none⟩
noncomputable def qCH:Code:=cO Tryz.f190
noncomputable def qFh:Array ResultVar:=Tryz.f190.results
theorem qCI (n:Nat) (s0:List UInt8) (o0:Lab) (cutset1:List UInt8) (o1:Lab):evFnP qCG n qCH qFh [.dat (.sl .byte) s0 o0,.dat .str cutset1 o1]=qsK n s0 cutset1:=by
 kernel_rfl
theorem qqM:qh G Tryz.prog 190 s_z190:=by
 refine qW G_stays (E:=qCG) (fn:=Tryz.f190) (c:=qCH) (qr rfl qeN) (fun w S hg=>⟨⟨(qb (qqz w S hg) (qb (qqC w S hg) (qb (qqF w S hg) (qb (qqI w S hg) (qb (qqL w S hg) (qb (qpJ w S hg) (qb (qpK w S hg) qd))))))),fun f sp h=>qbM f sp h w S⟩,qbY w S hg,(fun _ _ h=>by cases h),(fun f sp h=>qcv f sp h),(fun f it h=>qcx f it h),(fun t kt vt h=>qcw t kt vt h)⟩) follows Tryz.func190 (by kernel_rfl) (by kernel_rfl) (by kernel_rfl) ?_
 intro avs r h
 unfold s_z190 at h
 split at h
 ·simp only [Prod.mk.injEq] at h
  obtain ⟨hp,rfl⟩:=h
  obtain ⟨n,hn⟩:=qwB _ _ hp
  exact ⟨n,_,(qCI n _ _ _ _).trans hn,.inl rfl⟩
 ·cases h
noncomputable def qCJ:EnvP:=eQ [(38,s_z38),(190,s_z190)] 6 (some [2]) nC nC nP
noncomputable def qCK:Code:=cO Tryz.f148
noncomputable def qFi:Array ResultVar:=Tryz.f148.results
theorem qCL (n:Nat) (s0:List UInt8) (o0:Lab):evFnP qCJ n qCK qFi [.dat (.sl .byte) s0 o0]=qsM n s0:=by
 kernel_rfl
theorem qqN:qh G Tryz.prog 148 s_z148:=by
 refine sQ (E:=qCJ) (c:=qCK) rfl (fun w S hg=>(qb (qfb w S hg) (qb (qqM w S hg) qd))) Tryz.func148 (by kernel_rfl) (by kernel_rfl) (by kernel_rfl) ?_
 intro avs r h
 unfold s_z148 at h
 split at h
 ·simp only [Prod.mk.injEq] at h
  obtain ⟨hp,rfl⟩:=h
  obtain ⟨n,hn⟩:=qwH _ hp
  exact ⟨n,_,(qCL n _ _).trans hn,.inl rfl⟩
 ·cases h
noncomputable def qCM:EnvP:=eQ [(109,s_z109),(148,s_z148)] 13 (some [2]) nC nC nP
noncomputable def qCN:Code:=cO Tryz.f107
noncomputable def qFj:Array ResultVar:=Tryz.f107.results
theorem qCO (n:Nat) (s0:List UInt8) (o0:Lab):evFnP qCM n qCN qFj [.dat (.sl .byte) s0 o0]=qsN n s0:=by
 kernel_rfl
theorem qqO:qh G Tryz.prog 107 s_z107:=by
 refine sQ (E:=qCM) (c:=qCN) rfl (fun w S hg=>(qb (qiV w S hg) (qb (qqN w S hg) qd))) Tryz.func107 (by kernel_rfl) (by kernel_rfl) (by kernel_rfl) ?_
 intro avs r h
 unfold s_z107 at h
 split at h
 ·simp only [Prod.mk.injEq] at h
  obtain ⟨hp,rfl⟩:=h
  obtain ⟨n,hn⟩:=qvL _ hp
  exact ⟨n,_,(qCO n _ _).trans hn,.inl rfl⟩
 ·cases h
noncomputable def E_z58:EnvP:=⟨⟨tiOf tis,fnsOf [(79,s_z79),(107,s_z107)],cnsOf [],[],18,(fun _=>none),(fun _=>none),some [2,3]⟩,fun _=>none,fun _=>none,fun _=>[],fun _=>none,(fun x=>if x=106 then some s_z106 else none),fun _=>none,(fun x=>if x=117 then some (9,3) else none)⟩
noncomputable def C_z58:Code:=cO Tryz.f58
noncomputable def R_z58:Array ResultVar:=Tryz.f58.results
theorem qFk (n:Nat) (s0:List UInt8) (o0:Lab):evFnP E_z58 n C_z58 R_z58 [.dat (.sl .byte) s0 o0]=qzI n s0:=by
 kernel_rfl
theorem qlZ:qh G Tryz.prog 58 s_z58:=by
 refine qW G_stays (E:=E_z58) (fn:=Tryz.f58) (c:=C_z58) (qr rfl qeN) (fun w S hg=>⟨⟨(qb (qlQ w S hg) (qb (qqO w S hg) qd)),fun f sp h=>qbM f sp h w S⟩,qbY w S hg,(fun _ _ h=>by cases h),(fun f sp h=>(qom (qqw w S hg) qcv) f sp h),(fun f it h=>qcx f it h),(fun t kt vt h=>(qon (by kernel_rfl) qcw) t kt vt h)⟩) follows Tryz.func58 (by kernel_rfl) (by kernel_rfl) (by kernel_rfl) ?_
 intro avs r h
 unfold s_z58 at h
 split at h
 ·simp only [Prod.mk.injEq] at h
  obtain ⟨hp,rfl⟩:=h
  obtain ⟨n,hn⟩:=qzf _ hp
  exact ⟨n,_,(qFk n _ _).trans hn,.inl rfl⟩
 ·cases h
end Go.Av
