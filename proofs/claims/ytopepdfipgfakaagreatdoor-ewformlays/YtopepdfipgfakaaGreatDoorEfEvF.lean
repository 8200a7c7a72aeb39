import Derived.Test.YtopepdfipgfakaaGreatDoorEfEvE
import Derived.Test.YtopepdfipgfakaaGreatDoorEfLayX
import Derived.Test.YtopepdfipgfakaaGreatDoorProg
import Derived.KernelRfl
namespace Go.Av
set_option linter.unusedSimpArgs false
open Go.Proofs
set_option maxRecDepth 100000
set_option linter.unusedVariables false
noncomputable def qba:EnvP:=eQ [] 21 (some [2,3]) (fun x=>if x=2 then some [0,2,4] else none) (fun x=>if x=0 then some [2] else if x=1 then some [0,2,4] else none) nP
noncomputable def qhG:Code:=cO Tryz.f223
noncomputable def qpV:Array ResultVar:=Tryz.f223.results
theorem qpW (K:Ex→Fr→Option AV):∀ (n:Nat) (chars0:List UInt8) (as2:List Bool) (i4:Int),evLP qba n (sub qhG [1,0,1,0,0]) K (frOf [(0,(.dat .str chars0 none)),(2,(.box (.arr 256 .bool) as2)),(4,(.dat (.int .i64) i4 none))])=qdy (fun as2 ok3=>K .ret (frOf [(2,(.box (.arr 256 .bool) as2)),(3,(.dat .bool ok3 none))])) (fun as2=>K (.exit 0) (frOf [(2,(.box (.arr 256 .bool) as2))])) n chars0 as2 i4:=by
 intro n
 induction n with
 | zero=>intros; rfl
 | succ n IH =>
 intro chars0 as2 i4
 have ih:(fun chars0 as2 i4=>evLP qba n (sub qhG [1,0,1,0,0]) K (frOf [(0,(.dat .str chars0 none)),(2,(.box (.arr 256 .bool) as2)),(4,(.dat (.int .i64) i4 none))]))=qdy (fun as2 ok3=>K .ret (frOf [(2,(.box (.arr 256 .bool) as2)),(3,(.dat .bool ok3 none))])) (fun as2=>K (.exit 0) (frOf [(2,(.box (.arr 256 .bool) as2))])) n:=by
  funext chars0 as2 i4
  exact IH chars0 as2 i4
 show _=qcn (fun as2 ok3=>K .ret (frOf [(2,(.box (.arr 256 .bool) as2)),(3,(.dat .bool ok3 none))])) (fun as2=>K (.exit 0) (frOf [(2,(.box (.arr 256 .bool) as2))])) (qdy (fun as2 ok3=>K .ret (frOf [(2,(.box (.arr 256 .bool) as2)),(3,(.dat .bool ok3 none))])) (fun as2=>K (.exit 0) (frOf [(2,(.box (.arr 256 .bool) as2))])) n) n chars0 as2 i4
 rw [← ih]
 kernel_rfl
theorem qjY (n:Nat) (as2:List Bool):(qc 0 (qba.cutb 0) (kSeq (evCP qba (evLP qba n) (sub qhG [1,1])) (kFnP qba qpV))) (.exit 0) (frOf [(2,(.box (.arr 256 .bool) as2))])=qdz n as2:=by
 kernel_rfl
theorem qBM (n:Nat) (chars0:List UInt8) (o0:Lab):evFnP qba n qhG qpV [.dat .str chars0 o0]=qrM n chars0:=by
 unfold qrM
 rw [show qdy qga (qdz n) n=(fun chars0 as2 i4=>evLP qba n (sub qhG [1,0,1,0,0]) (qc 0 (qba.cutb 0) (kSeq (evCP qba (evLP qba n) (sub qhG [1,1])) (kFnP qba qpV))) (frOf [(0,(.dat .str chars0 none)),(2,(.box (.arr 256 .bool) as2)),(4,(.dat (.int .i64) i4 none))])) from by
  funext chars0 as2 i4
  refine Eq.trans ?_ (qpW (qc 0 (qba.cutb 0) (kSeq (evCP qba (evLP qba n) (sub qhG [1,1])) (kFnP qba qpV))) n chars0 as2 i4).symm
  rw [show (fun as2=>(qc 0 (qba.cutb 0) (kSeq (evCP qba (evLP qba n) (sub qhG [1,1])) (kFnP qba qpV))) (.exit 0) (frOf [(2,(.box (.arr 256 .bool) as2))]))=(qdz n) from by
   funext as2
   exact qjY n as2]
  all_goals kernel_rfl]
 kernel_rfl
theorem qpX:qg G Tryz.prog 223 s_z223:=by
 refine sQ (E:=qba) (c:=qhG) rfl (fun w S hg=>qd) Tryz.func223 (by kernel_rfl) (by kernel_rfl) (by kernel_rfl) ?_
 intro avs r h
 unfold s_z223 at h
 split at h
 ·simp only [Prod.mk.injEq] at h
  obtain ⟨hp,rfl⟩:=h
  obtain ⟨n,hn⟩:=qvn _ hp
  exact ⟨n,_,(qBM n _ _).trans hn,.inl rfl⟩
 ·cases h
noncomputable def qBN:EnvP:=eQ [] 10 (some [4]) nC nC nP
noncomputable def qBO:Code:=cO Tryz.f238
noncomputable def qEt:Array ResultVar:=Tryz.f238.results
theorem qBP (n:Nat) (as0:List Bool) (c1:UInt8) (o1:Lab):evFnP qBN n qBO qEt [.adr (.arr 256 .bool) as0,.dat .byte c1 o1]=qrO n as0 c1:=by
 kernel_rfl
theorem qiO:qg G Tryz.prog 238 s_z238:=by
 refine sQ (E:=qBN) (c:=qBO) rfl (fun w S hg=>qd) Tryz.func238 (by kernel_rfl) (by kernel_rfl) (by kernel_rfl) ?_
 intro avs r h
 unfold s_z238 at h
 split at h
 ·simp only [Prod.mk.injEq,true_and] at h
  subst h
  obtain ⟨n,hn⟩:=qvo _ _
  exact ⟨n,_,(qBP n _ _ _).trans hn,.inl rfl⟩
 ·cases h
noncomputable def qbb:EnvP:=eQ [(238,s_z238)] 20 (some [1000004]) (fun x=>if x=1 then some [0,1] else none) (fun x=>if x=0 then some [0] else if x=1 then some [0,1] else none) nP
noncomputable def qhH:Code:=cO Tryz.f224
noncomputable def qpY:Array ResultVar:=Tryz.f224.results
theorem qpZ (K:Ex→Fr→Option AV):∀ (n:Nat) (s0:List UInt8) (as1:List Bool),evLP qbb n (sub qhH [1,0,0,0]) K (frOf [(0,(.dat (.sl .byte) s0 none)),(1,(.adr (.arr 256 .bool) as1))])=qeD (fun s0=>K (.exit 0) (frOf [(0,(.dat (.sl .byte) s0 none))])) n s0 as1:=by
 intro n
 induction n with
 | zero=>intros; rfl
 | succ n IH =>
 intro s0 as1
 have ih:(fun s0 as1=>evLP qbb n (sub qhH [1,0,0,0]) K (frOf [(0,(.dat (.sl .byte) s0 none)),(1,(.adr (.arr 256 .bool) as1))]))=qeD (fun s0=>K (.exit 0) (frOf [(0,(.dat (.sl .byte) s0 none))])) n:=by
  funext s0 as1
  exact IH s0 as1
 show _=qff (fun s0=>K (.exit 0) (frOf [(0,(.dat (.sl .byte) s0 none))])) (qeD (fun s0=>K (.exit 0) (frOf [(0,(.dat (.sl .byte) s0 none))])) n) n s0 as1
 rw [← ih]
 kernel_rfl
theorem qjZ (n:Nat) (s0:List UInt8):(qc 0 (qbb.cutb 0) (kSeq (evCP qbb (evLP qbb n) (sub qhH [1,1])) (kFnP qbb qpY))) (.exit 0) (frOf [(0,(.dat (.sl .byte) s0 none))])=qdA n s0:=by
 kernel_rfl
theorem qBQ (n:Nat) (s0:List UInt8) (o0:Lab) (as1:List Bool):evFnP qbb n qhH qpY [.dat (.sl .byte) s0 o0,.adr (.arr 256 .bool) as1]=qmc n s0 as1:=by
 unfold qmc
 rw [show qeD (qdA n) n=(fun s0 as1=>evLP qbb n (sub qhH [1,0,0,0]) (qc 0 (qbb.cutb 0) (kSeq (evCP qbb (evLP qbb n) (sub qhH [1,1])) (kFnP qbb qpY))) (frOf [(0,(.dat (.sl .byte) s0 none)),(1,(.adr (.arr 256 .bool) as1))])) from by
  funext s0 as1
  refine Eq.trans ?_ (qpZ (qc 0 (qbb.cutb 0) (kSeq (evCP qbb (evLP qbb n) (sub qhH [1,1])) (kFnP qbb qpY))) n s0 as1).symm
  rw [show (fun s0=>(qc 0 (qbb.cutb 0) (kSeq (evCP qbb (evLP qbb n) (sub qhH [1,1])) (kFnP qbb qpY))) (.exit 0) (frOf [(0,(.dat (.sl .byte) s0 none))]))=(qdA n) from by
   funext s0
   exact qjZ n s0]
  all_goals kernel_rfl]
 kernel_rfl
theorem qqa:qg G Tryz.prog 224 s_z224:=by
 refine sQ (E:=qbb) (c:=qhH) rfl (fun w S hg=>(qb (qiO w S hg) qd)) Tryz.func224 (by kernel_rfl) (by kernel_rfl) (by kernel_rfl) ?_
 intro avs r h
 unfold s_z224 at h
 split at h
 ·simp only [Prod.mk.injEq] at h
  obtain ⟨hp,rfl⟩:=h
  obtain ⟨n,hn⟩:=qvy _ _ hp
  exact ⟨n,_,(qBQ n _ _ _).trans hn,.inl rfl⟩
 ·cases h
noncomputable def qbc:EnvP:=eQ [(238,s_z238)] 23 (some [4]) (fun x=>if x=1 then some [0,1] else none) (fun x=>if x=0 then some [0] else if x=1 then some [0,1] else none) nP
noncomputable def qhI:Code:=cO Tryz.f225
noncomputable def qqb:Array ResultVar:=Tryz.f225.results
theorem qqc (K:Ex→Fr→Option AV):∀ (n:Nat) (s0:List UInt8) (as1:List Bool),evLP qbc n (sub qhI [1,0,0,0]) K (frOf [(0,(.dat (.sl .byte) s0 none)),(1,(.adr (.arr 256 .bool) as1))])=qeE (fun s0=>K (.exit 0) (frOf [(0,(.dat (.sl .byte) s0 none))])) n s0 as1:=by
 intro n
 induction n with
 | zero=>intros; rfl
 | succ n IH =>
 intro s0 as1
 have ih:(fun s0 as1=>evLP qbc n (sub qhI [1,0,0,0]) K (frOf [(0,(.dat (.sl .byte) s0 none)),(1,(.adr (.arr 256 .bool) as1))]))=qeE (fun s0=>K (.exit 0) (frOf [(0,(.dat (.sl .byte) s0 none))])) n:=by
  funext s0 as1
  exact IH s0 as1
 show _=qfg (fun s0=>K (.exit 0) (frOf [(0,(.dat (.sl .byte) s0 none))])) (qeE (fun s0=>K (.exit 0) (frOf [(0,(.dat (.sl .byte) s0 none))])) n) n s0 as1
 rw [← ih]
 kernel_rfl
theorem qka (n:Nat) (s0:List UInt8):(qc 0 (qbc.cutb 0) (kSeq (evCP qbc (evLP qbc n) (sub qhI [1,1])) (kFnP qbc qqb))) (.exit 0) (frOf [(0,(.dat (.sl .byte) s0 none))])=qfh n s0:=by
 kernel_rfl
theorem qBR (n:Nat) (s0:List UInt8) (o0:Lab) (as1:List Bool):evFnP qbc n qhI qqb [.dat (.sl .byte) s0 o0,.adr (.arr 256 .bool) as1]=qmd n s0 as1:=by
 unfold qmd
 rw [show qeE (qfh n) n=(fun s0 as1=>evLP qbc n (sub qhI [1,0,0,0]) (qc 0 (qbc.cutb 0) (kSeq (evCP qbc (evLP qbc n) (sub qhI [1,1])) (kFnP qbc qqb))) (frOf [(0,(.dat (.sl .byte) s0 none)),(1,(.adr (.arr 256 .bool) as1))])) from by
  funext s0 as1
  refine Eq.trans ?_ (qqc (qc 0 (qbc.cutb 0) (kSeq (evCP qbc (evLP qbc n) (sub qhI [1,1])) (kFnP qbc qqb))) n s0 as1).symm
  rw [show (fun s0=>(qc 0 (qbc.cutb 0) (kSeq (evCP qbc (evLP qbc n) (sub qhI [1,1])) (kFnP qbc qqb))) (.exit 0) (frOf [(0,(.dat (.sl .byte) s0 none))]))=(qfh n) from by
   funext s0
   exact qka n s0]
  all_goals kernel_rfl]
 kernel_rfl
theorem qqd:qg G Tryz.prog 225 s_z225:=by
 refine sQ (E:=qbc) (c:=qhI) rfl (fun w S hg=>(qb (qiO w S hg) qd)) Tryz.func225 (by kernel_rfl) (by kernel_rfl) (by kernel_rfl) ?_
 intro avs r h
 unfold s_z225 at h
 split at h
 ·simp only [Prod.mk.injEq] at h
  obtain ⟨hp,rfl⟩:=h
  obtain ⟨n,hn⟩:=qvx _ _ hp
  exact ⟨n,_,(qBR n _ _ _).trans hn,.inl rfl⟩
 ·cases h
noncomputable def qBS:EnvP:=⟨⟨tiOf tis,fnsOf [(221,s_z221),(222,s_z222),(223,s_z223),(224,s_z224),(225,s_z225),(226,s_z226),(227,s_z227)],cnsOf [],[],42,(fun _=>none),(fun _=>none),some [1000004]⟩,fun _=>none,fun _=>none,(fun x=>if x=500009 then [5] else []),fun _=>none,fun _=>none,fun _=>none,fun _=>none⟩
noncomputable def qBT:Code:=cO Tryz.f190
noncomputable def qEu:Array ResultVar:=Tryz.f190.results
theorem qBU (n:Nat) (s0:List UInt8) (o0:Lab) (cutset1:List UInt8) (o1:Lab):evFnP qBS n qBT qEu [.dat (.sl .byte) s0 o0,.dat .str cutset1 o1]=qrQ n s0 cutset1:=by
 kernel_rfl
theorem qqe:qg G Tryz.prog 190 s_z190:=by
 refine qO G_stays (E:=qBS) (fn:=Tryz.f190) (c:=qBT) (qp rfl qea) (fun w S hg=>⟨⟨(qb (qpR w S hg) (qb (qpU w S hg) (qb (qpX w S hg) (qb (qqa w S hg) (qb (qqd w S hg) (qb (qpb w S hg) (qb (qpc w S hg) qd))))))),fun f sp h=>qbB f sp h w S⟩,qbH w S hg,(fun _ _ h=>by cases h),(fun f sp h=>qcs f sp h),(fun f it h=>qct f it h),(fun t kt vt h=>qbL t kt vt h)⟩) follows Tryz.func190 (by kernel_rfl) (by kernel_rfl) (by kernel_rfl) ?_
 intro avs r h
 unfold s_z190 at h
 split at h
 ·simp only [Prod.mk.injEq] at h
  obtain ⟨hp,rfl⟩:=h
  obtain ⟨n,hn⟩:=qvz _ _ hp
  exact ⟨n,_,(qBU n _ _ _ _).trans hn,.inl rfl⟩
 ·cases h
noncomputable def qBV:EnvP:=eQ [(38,s_z38),(190,s_z190)] 6 (some [2]) nC nC nP
noncomputable def qBW:Code:=cO Tryz.f148
noncomputable def qEv:Array ResultVar:=Tryz.f148.results
theorem qBX (n:Nat) (s0:List UInt8) (o0:Lab):evFnP qBV n qBW qEv [.dat (.sl .byte) s0 o0]=qrS n s0:=by
 kernel_rfl
theorem qqf:qg G Tryz.prog 148 s_z148:=by
 refine sQ (E:=qBV) (c:=qBW) rfl (fun w S hg=>(qb (qeY w S hg) (qb (qqe w S hg) qd))) Tryz.func148 (by kernel_rfl) (by kernel_rfl) (by kernel_rfl) ?_
 intro avs r h
 unfold s_z148 at h
 split at h
 ·simp only [Prod.mk.injEq] at h
  obtain ⟨hp,rfl⟩:=h
  obtain ⟨n,hn⟩:=qvG _ hp
  exact ⟨n,_,(qBX n _ _).trans hn,.inl rfl⟩
 ·cases h
noncomputable def qBY:EnvP:=eQ [(109,s_z109),(148,s_z148)] 13 (some [2]) nC nC nP
noncomputable def qBZ:Code:=cO Tryz.f107
noncomputable def qEw:Array ResultVar:=Tryz.f107.results
theorem qCa (n:Nat) (s0:List UInt8) (o0:Lab):evFnP qBY n qBZ qEw [.dat (.sl .byte) s0 o0]=qrT n s0:=by
 kernel_rfl
theorem qqg:qg G Tryz.prog 107 s_z107:=by
 refine sQ (E:=qBY) (c:=qBZ) rfl (fun w S hg=>(qb (qpd w S hg) (qb (qqf w S hg) qd))) Tryz.func107 (by kernel_rfl) (by kernel_rfl) (by kernel_rfl) ?_
 intro avs r h
 unfold s_z107 at h
 split at h
 ·simp only [Prod.mk.injEq] at h
  obtain ⟨hp,rfl⟩:=h
  obtain ⟨n,hn⟩:=quN _ hp
  exact ⟨n,_,(qCa n _ _).trans hn,.inl rfl⟩
 ·cases h
noncomputable def E_z58:EnvP:=⟨⟨tiOf tis,fnsOf [(79,s_z79),(107,s_z107)],cnsOf [],[],18,(fun _=>none),(fun _=>none),some [2,3]⟩,fun _=>none,fun _=>none,fun _=>[],fun _=>none,(fun x=>if x=106 then some s_z106 else none),fun _=>none,(fun x=>if x=117 then some (9,3) else none)⟩
noncomputable def C_z58:Code:=cO Tryz.f58
noncomputable def R_z58:Array ResultVar:=Tryz.f58.results
theorem qEx (n:Nat) (s0:List UInt8) (o0:Lab):evFnP E_z58 n C_z58 R_z58 [.dat (.sl .byte) s0 o0]=qyK n s0:=by
 kernel_rfl
theorem qtZ:qg G Tryz.prog 58 s_z58:=by
 refine qO G_stays (E:=E_z58) (fn:=Tryz.f58) (c:=C_z58) (qp rfl qea) (fun w S hg=>⟨⟨(qb (qlw w S hg) (qb (qqg w S hg) qd)),fun f sp h=>qbB f sp h w S⟩,qbH w S hg,(fun _ _ h=>by cases h),(fun f sp h=>(qnI (qpO w S hg) qcs) f sp h),(fun f it h=>qct f it h),(fun t kt vt h=>(qnJ (by kernel_rfl) qbL) t kt vt h)⟩) follows Tryz.func58 (by kernel_rfl) (by kernel_rfl) (by kernel_rfl) ?_
 intro avs r h
 unfold s_z58 at h
 split at h
 ·simp only [Prod.mk.injEq] at h
  obtain ⟨hp,rfl⟩:=h
  obtain ⟨n,hn⟩:=qyk _ hp
  exact ⟨n,_,(qEx n _ _).trans hn,.inl rfl⟩
 ·cases h
noncomputable def E_z53:EnvP:=eQ [(58,s_z58)] 14 (some [2]) nC nC nP
noncomputable def C_z53:Code:=cO Tryz.f53
noncomputable def R_z53:Array ResultVar:=Tryz.f53.results
theorem qEy (n:Nat) (w0:(List UInt8)×(Int×((List UInt8)×Unit))) (o0:Lab):evFnP E_z53 n C_z53 R_z53 [.dat (.pair (.sl .byte) (.pair (.int .i64) (.pair (.sl .byte) .unit))) w0 o0]=qyL n w0:=by
 kernel_rfl
theorem qua:qg G Tryz.prog 53 s_z53:=by
 refine sQ (E:=E_z53) (c:=C_z53) rfl (fun w S hg=>(qb (qtZ w S hg) qd)) Tryz.func53 (by kernel_rfl) (by kernel_rfl) (by kernel_rfl) ?_
 intro avs r h
 unfold s_z53 at h
 split at h
 ·simp only [Prod.mk.injEq] at h
  obtain ⟨hp,rfl⟩:=h
  obtain ⟨n,hn⟩:=qyl _ hp
  exact ⟨n,_,(qEy n _ _).trans hn,.inl rfl⟩
 ·cases h
noncomputable def qCb:EnvP:=eQ [(192,s_z192)] 11 (some [2,3]) nC nC nP
noncomputable def qCc:Code:=cO Tryz.f150
noncomputable def qEz:Array ResultVar:=Tryz.f150.results
theorem qCd (n:Nat) (c0:UInt8) (o0:Lab):evFnP qCb n qCc qEz [.dat .byte c0 o0]=qwE n c0:=by
 kernel_rfl
theorem qqh:qg G Tryz.prog 150 s_z150:=by
 refine sQ (E:=qCb) (c:=qCc) rfl (fun w S hg=>(qb (qiI w S hg) qd)) Tryz.func150 (by kernel_rfl) (by kernel_rfl) (by kernel_rfl) ?_
 intro avs r h
 unfold s_z150 at h
 split at h
 ·simp only [Prod.mk.injEq,true_and] at h
  subst h
  obtain ⟨n,hn⟩:=quJ _
  exact ⟨n,_,(qCd n _ _).trans hn,.inl rfl⟩
 ·cases h
noncomputable def qec:EnvP:=eQ [(150,s_z150)] 28 (some [28,29]) (fun x=>if x=1 then some [0,7,8,9,28,29] else none) (fun x=>if x=0 then some [28,29] else if x=1 then some [0,7,8,9,28,29] else none) nP
noncomputable def qqi:Code:=cO Tryz.f219
noncomputable def qqj:Array ResultVar:=Tryz.f219.results
theorem qqk (V:Sigma Inv) (K:Ex→Fr→Option AV):∀ (n:Nat) (s7:List UInt8) (s8:Int) (s9:Int) (xv:Den V.1) (s29:List UInt8),evLP qec n (sub qqi [1,0,0]) K (frOf [(0,(.padr 28 [])),(7,(.dat (.sl .byte) s7 none)),(8,(.dat (.int .i64) s8 none)),(9,(.dat (.int .i64) s9 none)),(28,(.abs V.1 V.2 xv)),(29,(.pbox (.leaf (.sl .byte)) s29 none))])=(qdB V) (fun xv s29=>K .ret (frOf [(28,(.abs V.1 V.2 xv)),(29,(.pbox (.leaf (.sl .byte)) s29 none))])) (fun xv s29=>K (.exit 0) (frOf [(28,(.abs V.1 V.2 xv)),(29,(.pbox (.leaf (.sl .byte)) s29 none))])) n s7 s8 s9 xv s29:=by
 intro n
 induction n with
 | zero=>intros; rfl
 | succ n IH =>
 intro s7 s8 s9 xv s29
 have ih:(fun s7 s8 s9 xv s29=>evLP qec n (sub qqi [1,0,0]) K (frOf [(0,(.padr 28 [])),(7,(.dat (.sl .byte) s7 none)),(8,(.dat (.int .i64) s8 none)),(9,(.dat (.int .i64) s9 none)),(28,(.abs V.1 V.2 xv)),(29,(.pbox (.leaf (.sl .byte)) s29 none))]))=(qdB V) (fun xv s29=>K .ret (frOf [(28,(.abs V.1 V.2 xv)),(29,(.pbox (.leaf (.sl .byte)) s29 none))])) (fun xv s29=>K (.exit 0) (frOf [(28,(.abs V.1 V.2 xv)),(29,(.pbox (.leaf (.sl .byte)) s29 none))])) n:=by
  funext s7 s8 s9 xv s29
  exact IH s7 s8 s9 xv s29
 show _=(qco V) (fun xv s29=>K .ret (frOf [(28,(.abs V.1 V.2 xv)),(29,(.pbox (.leaf (.sl .byte)) s29 none))])) (fun xv s29=>K (.exit 0) (frOf [(28,(.abs V.1 V.2 xv)),(29,(.pbox (.leaf (.sl .byte)) s29 none))])) ((qdB V) (fun xv s29=>K .ret (frOf [(28,(.abs V.1 V.2 xv)),(29,(.pbox (.leaf (.sl .byte)) s29 none))])) (fun xv s29=>K (.exit 0) (frOf [(28,(.abs V.1 V.2 xv)),(29,(.pbox (.leaf (.sl .byte)) s29 none))])) n) n s7 s8 s9 xv s29
 rw [← ih]
 kernel_rfl
theorem qkb (V:Sigma Inv) (x0:Den V.1) (x1:List UInt8) (n:Nat) (xv:Den V.1) (s29:List UInt8):(qc 0 (qec.cutb 0) (kFnM qec qqj [.abs V.1 V.2 x0,.pbox (.leaf (.sl .byte)) x1 none])) (.exit 0) (frOf [(28,(.abs V.1 V.2 xv)),(29,(.pbox (.leaf (.sl .byte)) s29 none))])=(qby V) n xv s29:=by
 kernel_rfl
theorem qCe (V:Sigma Inv) (n:Nat) (x0:Den V.1) (x1:List UInt8):evFnM qec n qqi qqj [.abs V.1 V.2 x0,.pbox (.leaf (.sl .byte)) x1 none]=(qme V) n x0 x1:=by
 unfold qme
 rw [show (qdB V) (qaI V) ((qby V) n) n=(fun s7 s8 s9 xv s29=>evLP qec n (sub qqi [1,0,0]) (qc 0 (qec.cutb 0) (kFnM qec qqj [.abs V.1 V.2 x0,.pbox (.leaf (.sl .byte)) x1 none])) (frOf [(0,(.padr 28 [])),(7,(.dat (.sl .byte) s7 none)),(8,(.dat (.int .i64) s8 none)),(9,(.dat (.int .i64) s9 none)),(28,(.abs V.1 V.2 xv)),(29,(.pbox (.leaf (.sl .byte)) s29 none))])) from by
  funext s7 s8 s9 xv s29
  refine Eq.trans ?_ ((qqk V) (qc 0 (qec.cutb 0) (kFnM qec qqj [.abs V.1 V.2 x0,.pbox (.leaf (.sl .byte)) x1 none])) n s7 s8 s9 xv s29).symm
  rw [show (fun xv s29=>(qc 0 (qec.cutb 0) (kFnM qec qqj [.abs V.1 V.2 x0,.pbox (.leaf (.sl .byte)) x1 none])) (.exit 0) (frOf [(28,(.abs V.1 V.2 xv)),(29,(.pbox (.leaf (.sl .byte)) s29 none))]))=((qby V) n) from by
   funext xv s29
   exact (qkb V) x0 x1 n xv s29]
  all_goals kernel_rfl]
 kernel_rfl
theorem qne:qoB G Tryz.prog 219 s_z219:=by
 refine qcF G_stays (E:=qec) (fn:=Tryz.f219) (c:=qqi) (qp rfl qea) (fun w S hg=>⟨⟨(qb (qqh w S hg) qd),fun f sp h=>qbB f sp h w S⟩,qbH w S hg,(fun _ _ h=>by cases h),(fun f sp h=>qcs f sp h),(fun f it h=>qct f it h),(fun t kt vt h=>qbL t kt vt h)⟩) follows Tryz.func219 (by kernel_rfl) (by kernel_rfl) (by kernel_rfl) ?_
 intro avs r h
 unfold s_z219 at h
 split at h
 ·rename_i s V x _
  simp only [Prod.mk.injEq] at h
  obtain ⟨hp,rfl⟩:=h
  obtain ⟨n,hn⟩:=quO ⟨s,V⟩ _ _ hp
  exact ⟨n,(qCe ⟨s,V⟩ n _ _).trans hn⟩
 ·cases h
theorem qql:qzY G Tryz.prog 219 qwi:=qms qne (enters_of Tryz.func219 (by kernel_rfl) rfl) (fun s V x x' y h=>by
 obtain ⟨h1,h2⟩:=Prod.mk.inj h
 subst h2
 refine ⟨_,_,Prod.ext h1 rfl⟩)
noncomputable def qCf:EnvP:=eQ [] 4 (none) nC nC (fun x=>if x=1 then some (.leaf (.sl .byte)) else none)
noncomputable def qCg:Code:=cO Tryz.f188
noncomputable def qEA:Array ResultVar:=Tryz.f188.results
theorem qCh (n:Nat) (s0:List UInt8) (o0:Lab):evFnR qCf n qCg qEA [.dat (.sl .byte) s0 o0]=qCV n s0:=by
 kernel_rfl
theorem qqm:qxr G Tryz.prog 188 s_z188:=by
 refine qfn G_stays (E:=qCf) (fn:=Tryz.f188) (c:=qCg) (qp rfl qea) (fun w S hg=>⟨⟨qd,fun f sp h=>qbB f sp h w S⟩,qbH w S hg,(fun _ _ h=>by cases h),(fun f sp h=>qcs f sp h),(fun f it h=>qct f it h),(fun t kt vt h=>qbL t kt vt h)⟩) follows Tryz.func188 (by kernel_rfl) (by kernel_rfl) (by kernel_rfl) ?_
 intro avs r h
 unfold s_z188 at h
 split at h
 ·simp only [Prod.mk.injEq,true_and] at h
  subst h
  exact ⟨0,qCh 0 _ _⟩
 ·cases h
end Go.Av
