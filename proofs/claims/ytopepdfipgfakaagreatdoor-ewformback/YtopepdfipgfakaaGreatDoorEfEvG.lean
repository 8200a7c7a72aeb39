import Derived.Test.YtopepdfipgfakaaGreatDoorEfEvF
import Derived.Test.YtopepdfipgfakaaGreatDoorEfLayX
import Derived.Test.YtopepdfipgfakaaGreatDoorProg
import Derived.KernelRfl
namespace Go.Av
set_option linter.unusedSimpArgs false
open Go.Proofs
set_option maxRecDepth 100000
set_option linter.unusedVariables false
noncomputable def E_z53:EnvP:=eQ [(58,s_z58)] 14 (some [2]) nC nC nP
noncomputable def C_z53:Code:=cO Tryz.f53
noncomputable def R_z53:Array ResultVar:=Tryz.f53.results
theorem qFl (n:Nat) (w0:(List UInt8)×(Int×((List UInt8)×Unit))) (o0:Lab):evFnP E_z53 n C_z53 R_z53 [.dat (.pair (.sl .byte) (.pair (.int .i64) (.pair (.sl .byte) .unit))) w0 o0]=qzJ n w0:=by
 kernel_rfl
theorem qma:qh G Tryz.prog 53 s_z53:=by
 refine sQ (E:=E_z53) (c:=C_z53) rfl (fun w S hg=>(qb (qlZ w S hg) qd)) Tryz.func53 (by kernel_rfl) (by kernel_rfl) (by kernel_rfl) ?_
 intro avs r h
 unfold s_z53 at h
 split at h
 ·simp only [Prod.mk.injEq] at h
  obtain ⟨hp,rfl⟩:=h
  obtain ⟨n,hn⟩:=qzg _ hp
  exact ⟨n,_,(qFl n _ _).trans hn,.inl rfl⟩
 ·cases h
noncomputable def qCP:EnvP:=eQ [(192,s_z192)] 11 (some [2,3]) nC nC nP
noncomputable def qCQ:Code:=cO Tryz.f150
noncomputable def qFm:Array ResultVar:=Tryz.f150.results
theorem qCR (n:Nat) (c0:UInt8) (o0:Lab):evFnP qCP n qCQ qFm [.dat .byte c0 o0]=qxD n c0:=by
 kernel_rfl
theorem qje:qh G Tryz.prog 150 s_z150:=by
 refine sQ (E:=qCP) (c:=qCQ) rfl (fun w S hg=>(qb (qiX w S hg) qd)) Tryz.func150 (by kernel_rfl) (by kernel_rfl) (by kernel_rfl) ?_
 intro avs r h
 unfold s_z150 at h
 split at h
 ·simp only [Prod.mk.injEq,true_and] at h
  subst h
  obtain ⟨n,hn⟩:=qvC _
  exact ⟨n,_,(qCR n _ _).trans hn,.inl rfl⟩
 ·cases h
noncomputable def qeb:EnvP:=eQ [(150,s_z150)] 28 (some [28,29]) (fun x=>if x=1 then some [0,7,8,9,28,29] else none) (fun x=>if x=0 then some [28,29] else if x=1 then some [0,7,8,9,28,29] else none) nP
noncomputable def qqP:Code:=cO Tryz.f219
noncomputable def qqQ:Array ResultVar:=Tryz.f219.results
theorem qqR (V:Sigma Inv) (K:Ex→Fr→Option AV):∀ (n:Nat) (s7:List UInt8) (s8:Int) (s9:Int) (xv:Den V.1) (s29:List UInt8),evLP qeb n (sub qqP [1,0,0]) K (frOf [(0,(.padr 28 [])),(7,(.dat (.sl .byte) s7 none)),(8,(.dat (.int .i64) s8 none)),(9,(.dat (.int .i64) s9 none)),(28,(.abs V.1 V.2 xv)),(29,(.pbox (.leaf (.sl .byte)) s29 none))])=(qdF V) (fun xv s29=>K .ret (frOf [(28,(.abs V.1 V.2 xv)),(29,(.pbox (.leaf (.sl .byte)) s29 none))])) (fun xv s29=>K (.exit 0) (frOf [(28,(.abs V.1 V.2 xv)),(29,(.pbox (.leaf (.sl .byte)) s29 none))])) n s7 s8 s9 xv s29:=by
 intro n
 induction n with
 | zero=>intros; rfl
 | succ n IH =>
 intro s7 s8 s9 xv s29
 have ih:(fun s7 s8 s9 xv s29=>evLP qeb n (sub qqP [1,0,0]) K (frOf [(0,(.padr 28 [])),(7,(.dat (.sl .byte) s7 none)),(8,(.dat (.int .i64) s8 none)),(9,(.dat (.int .i64) s9 none)),(28,(.abs V.1 V.2 xv)),(29,(.pbox (.leaf (.sl .byte)) s29 none))]))=(qdF V) (fun xv s29=>K .ret (frOf [(28,(.abs V.1 V.2 xv)),(29,(.pbox (.leaf (.sl .byte)) s29 none))])) (fun xv s29=>K (.exit 0) (frOf [(28,(.abs V.1 V.2 xv)),(29,(.pbox (.leaf (.sl .byte)) s29 none))])) n:=by
  funext s7 s8 s9 xv s29
  exact IH s7 s8 s9 xv s29
 show _=(qcp V) (fun xv s29=>K .ret (frOf [(28,(.abs V.1 V.2 xv)),(29,(.pbox (.leaf (.sl .byte)) s29 none))])) (fun xv s29=>K (.exit 0) (frOf [(28,(.abs V.1 V.2 xv)),(29,(.pbox (.leaf (.sl .byte)) s29 none))])) ((qdF V) (fun xv s29=>K .ret (frOf [(28,(.abs V.1 V.2 xv)),(29,(.pbox (.leaf (.sl .byte)) s29 none))])) (fun xv s29=>K (.exit 0) (frOf [(28,(.abs V.1 V.2 xv)),(29,(.pbox (.leaf (.sl .byte)) s29 none))])) n) n s7 s8 s9 xv s29
 rw [← ih]
 kernel_rfl
theorem qkB (V:Sigma Inv) (x0:Den V.1) (x1:List UInt8) (n:Nat) (xv:Den V.1) (s29:List UInt8):(qc 0 (qeb.cutb 0) (kFnM qeb qqQ [.abs V.1 V.2 x0,.pbox (.leaf (.sl .byte)) x1 none])) (.exit 0) (frOf [(28,(.abs V.1 V.2 xv)),(29,(.pbox (.leaf (.sl .byte)) s29 none))])=(qbD V) n xv s29:=by
 kernel_rfl
theorem qCS (V:Sigma Inv) (n:Nat) (x0:Den V.1) (x1:List UInt8):evFnM qeb n qqP qqQ [.abs V.1 V.2 x0,.pbox (.leaf (.sl .byte)) x1 none]=(qmK V) n x0 x1:=by
 unfold qmK
 rw [show (qdF V) (qaH V) ((qbD V) n) n=(fun s7 s8 s9 xv s29=>evLP qeb n (sub qqP [1,0,0]) (qc 0 (qeb.cutb 0) (kFnM qeb qqQ [.abs V.1 V.2 x0,.pbox (.leaf (.sl .byte)) x1 none])) (frOf [(0,(.padr 28 [])),(7,(.dat (.sl .byte) s7 none)),(8,(.dat (.int .i64) s8 none)),(9,(.dat (.int .i64) s9 none)),(28,(.abs V.1 V.2 xv)),(29,(.pbox (.leaf (.sl .byte)) s29 none))])) from by
  funext s7 s8 s9 xv s29
  refine Eq.trans ?_ ((qqR V) (qc 0 (qeb.cutb 0) (kFnM qeb qqQ [.abs V.1 V.2 x0,.pbox (.leaf (.sl .byte)) x1 none])) n s7 s8 s9 xv s29).symm
  rw [show (fun xv s29=>(qc 0 (qeb.cutb 0) (kFnM qeb qqQ [.abs V.1 V.2 x0,.pbox (.leaf (.sl .byte)) x1 none])) (.exit 0) (frOf [(28,(.abs V.1 V.2 xv)),(29,(.pbox (.leaf (.sl .byte)) s29 none))]))=((qbD V) n) from by
   funext xv s29
   exact (qkB V) x0 x1 n xv s29]
  all_goals kernel_rfl]
 kernel_rfl
theorem qnM:qpf G Tryz.prog 219 s_z219:=by
 refine qcK G_stays (E:=qeb) (fn:=Tryz.f219) (c:=qqP) (qr rfl qeN) (fun w S hg=>⟨⟨(qb (qje w S hg) qd),fun f sp h=>qbM f sp h w S⟩,qbY w S hg,(fun _ _ h=>by cases h),(fun f sp h=>qcv f sp h),(fun f it h=>qcx f it h),(fun t kt vt h=>qcw t kt vt h)⟩) follows Tryz.func219 (by kernel_rfl) (by kernel_rfl) (by kernel_rfl) ?_
 intro avs r h
 unfold s_z219 at h
 split at h
 ·rename_i s V x _
  simp only [Prod.mk.injEq] at h
  obtain ⟨hp,rfl⟩:=h
  obtain ⟨n,hn⟩:=qvM ⟨s,V⟩ _ _ hp
  exact ⟨n,(qCS ⟨s,V⟩ n _ _).trans hn⟩
 ·cases h
theorem qqS:qAP G Tryz.prog 219 qxf:=qmY qnM (enters_of Tryz.func219 (by kernel_rfl) rfl) (fun s V x x' y h=>by
 obtain ⟨h1,h2⟩:=Prod.mk.inj h
 subst h2
 refine ⟨_,_,Prod.ext h1 rfl⟩)
noncomputable def qCT:EnvP:=eQ [] 4 (none) nC nC (fun x=>if x=1 then some (.leaf (.sl .byte)) else none)
noncomputable def qCU:Code:=cO Tryz.f188
noncomputable def qFn:Array ResultVar:=Tryz.f188.results
theorem qCV (n:Nat) (s0:List UInt8) (o0:Lab):evFnR qCT n qCU qFn [.dat (.sl .byte) s0 o0]=qDO n s0:=by
 kernel_rfl
theorem qqT:qyk G Tryz.prog 188 s_z188:=by
 refine qfs G_stays (E:=qCT) (fn:=Tryz.f188) (c:=qCU) (qr rfl qeN) (fun w S hg=>⟨⟨qd,fun f sp h=>qbM f sp h w S⟩,qbY w S hg,(fun _ _ h=>by cases h),(fun f sp h=>qcv f sp h),(fun f it h=>qcx f it h),(fun t kt vt h=>qcw t kt vt h)⟩) follows Tryz.func188 (by kernel_rfl) (by kernel_rfl) (by kernel_rfl) ?_
 intro avs r h
 unfold s_z188 at h
 split at h
 ·simp only [Prod.mk.injEq,true_and] at h
  subst h
  exact ⟨0,qCV 0 _ _⟩
 ·cases h
noncomputable def qCW:EnvP:=⟨⟨tiOf tis,fnsOf [],cnsOf [],[],39,(fun x=>if x=2000005 then some [4,5,6] else none),(fun x=>if x=0 then some [4,6] else if x=1 then some [1043,1044,1045] else none),some [1000002,3]⟩,(fun x=>if x=4 then some (.osl 5 .byte) else if x=5 then some (.leaf (.int .i64)) else if x=6 then some (.leaf (.int .i64)) else if x=25 then some (.osl 5 .byte) else if x=31 then some (.osl 5 .byte) else none),fun _=>none,fun _=>[],fun _=>none,(fun x=>if x=188 then some s_z188 else none),(fun x=>if x=219 then some qxf else none),fun _=>none⟩
noncomputable def qCX:Code:=cO Tryz.f143
noncomputable def qFo:Array ResultVar:=Tryz.f143.results
theorem qCY (n:Nat) (s0:List UInt8) (o0:Lab):evFnP qCW n qCX qFo [.dat (.sl .byte) s0 o0]=qsQ n s0:=by
 kernel_rfl
theorem qqU:qh G Tryz.prog 143 s_z143:=by
 refine qW G_stays (E:=qCW) (fn:=Tryz.f143) (c:=qCX) (qr rfl qeN) (fun w S hg=>⟨⟨qd,fun f sp h=>qbM f sp h w S⟩,qbY w S hg,(fun _ _ h=>by cases h),(fun f sp h=>(qom (qqT w S hg) qcv) f sp h),(fun f it h=>(qxQ (qqS w S hg) qcx) f it h),(fun t kt vt h=>qcw t kt vt h)⟩) follows Tryz.func143 (by kernel_rfl) (by kernel_rfl) (by kernel_rfl) ?_
 intro avs r h
 unfold s_z143 at h
 split at h
 ·simp only [Prod.mk.injEq] at h
  obtain ⟨hp,rfl⟩:=h
  obtain ⟨n,hn⟩:=qvP _ hp
  exact ⟨n,_,(qCY n _ _).trans hn,.inl rfl⟩
 ·cases h
noncomputable def E_z98:EnvP:=eQ [(143,s_z143)] 11 (some [2]) nC nC nP
noncomputable def C_z98:Code:=cO Tryz.f98
noncomputable def R_z98:Array ResultVar:=Tryz.f98.results
theorem qFp (n:Nat) (s0:List UInt8) (o0:Lab):evFnP E_z98 n C_z98 R_z98 [.dat (.sl .byte) s0 o0]=qzK n s0:=by
 kernel_rfl
theorem quT:qh G Tryz.prog 98 s_z98:=by
 refine sQ (E:=E_z98) (c:=C_z98) rfl (fun w S hg=>(qb (qqU w S hg) qd)) Tryz.func98 (by kernel_rfl) (by kernel_rfl) (by kernel_rfl) ?_
 intro avs r h
 unfold s_z98 at h
 split at h
 ·simp only [Prod.mk.injEq] at h
  obtain ⟨hp,rfl⟩:=h
  obtain ⟨n,hn⟩:=qzj _ hp
  exact ⟨n,_,(qFp n _ _).trans hn,.inl rfl⟩
 ·cases h
noncomputable def qCZ:EnvP:=eQ [(126,s_z126),(129,s_z129)] 23 (some [2,3]) nC (fun x=>if x=0 then some [] else none) nP
noncomputable def qDa:Code:=cO Tryz.f237
noncomputable def qFq:Array ResultVar:=Tryz.f237.results
theorem qDb (n:Nat) (c0:UInt8) (o0:Lab):evFnP qCZ n qDa qFq [.dat .byte c0 o0]=qsR n c0:=by
 kernel_rfl
theorem qqV:qh G Tryz.prog 237 s_z237:=by
 refine sQ (E:=qCZ) (c:=qDa) rfl (fun w S hg=>(qb (qiW w S hg) (qb (qfT w S hg) qd))) Tryz.func237 (by kernel_rfl) (by kernel_rfl) (by kernel_rfl) ?_
 intro avs r h
 unfold s_z237 at h
 split at h
 ·simp only [Prod.mk.injEq,true_and] at h
  subst h
  obtain ⟨n,hn⟩:=qwJ _
  exact ⟨n,_,(qDb n _ _).trans hn,.inl rfl⟩
 ·cases h
noncomputable def qDc:EnvP:=eQ [(237,s_z237)] 31 (some [4,5]) nC nC nP
noncomputable def qDd:Code:=cO Tryz.f220
noncomputable def qFr:Array ResultVar:=Tryz.f220.results
theorem qDe (n:Nat) (a0:UInt8) (o0:Lab) (b1:UInt8) (o1:Lab):evFnP qDc n qDd qFr [.dat .byte a0 o0,.dat .byte b1 o1]=qsS n a0 b1:=by
 kernel_rfl
theorem qqW:qh G Tryz.prog 220 s_z220:=by
 refine sQ (E:=qDc) (c:=qDd) rfl (fun w S hg=>(qb (qqV w S hg) qd)) Tryz.func220 (by kernel_rfl) (by kernel_rfl) (by kernel_rfl) ?_
 intro avs r h
 unfold s_z220 at h
 split at h
 ·simp only [Prod.mk.injEq,true_and] at h
  subst h
  obtain ⟨n,hn⟩:=qwK _ _
  exact ⟨n,_,(qDe n _ _ _ _).trans hn,.inl rfl⟩
 ·cases h
noncomputable def qDf:EnvP:=eQ [(220,s_z220)] 38 (some [6,7]) nC nC nP
noncomputable def qDg:Code:=cO Tryz.f189
noncomputable def qFs:Array ResultVar:=Tryz.f189.results
theorem qDh (n:Nat) (s0:List UInt8) (o0:Lab) (at1:Int) (o1:Lab) (sign2:UInt8) (o2:Lab):evFnP qDf n qDg qFs [.dat (.sl .byte) s0 o0,.dat (.int .i64) at1 o1,.dat .byte sign2 o2]=qsT n s0 at1 sign2:=by
 kernel_rfl
theorem qqX:qh G Tryz.prog 189 s_z189:=by
 refine sQ (E:=qDf) (c:=qDg) rfl (fun w S hg=>(qb (qqW w S hg) qd)) Tryz.func189 (by kernel_rfl) (by kernel_rfl) (by kernel_rfl) ?_
 intro avs r h
 unfold s_z189 at h
 split at h
 ·simp only [Prod.mk.injEq] at h
  obtain ⟨hp,rfl⟩:=h
  obtain ⟨n,hn⟩:=qwL _ _ _ hp
  exact ⟨n,_,(qDh n _ _ _ _ _ _).trans hn,.inl rfl⟩
 ·cases h
noncomputable def qbd:EnvP:=eQ [(189,s_z189)] 46 (some [2,3]) (fun x=>if x=4 then some [0,4,5,6] else none) (fun x=>if x=0 then some [4,5] else if x=1 then some [0,4,5,6] else if x=2 then some [0,4,5,6,7] else none) nP
noncomputable def qhU:Code:=cO Tryz.f144
noncomputable def qqY:Array ResultVar:=Tryz.f144.results
theorem qqZ (K:Ex→Fr→Option AV):∀ (n:Nat) (s0:List UInt8) (out4:List UInt8) (strange5:Int) (at6:Int),evLP qbd n (sub qhU [1,0,1,1,1,1,0,0,0]) K (frOf [(0,(.dat (.sl .byte) s0 none)),(4,(.dat (.sl .byte) out4 (some (4,5)))),(5,(.dat (.int .i64) strange5 none)),(6,(.dat (.int .i64) at6 none))])=qgn (fun out4 strange5=>K (.exit 0) (frOf [(4,(.dat (.sl .byte) out4 (some (4,5)))),(5,(.dat (.int .i64) strange5 none))])) n s0 out4 strange5 at6:=by
 intro n
 induction n with
 | zero=>intros; rfl
 | succ n IH =>
 intro s0 out4 strange5 at6
 have ih:(fun s0 out4 strange5 at6=>evLP qbd n (sub qhU [1,0,1,1,1,1,0,0,0]) K (frOf [(0,(.dat (.sl .byte) s0 none)),(4,(.dat (.sl .byte) out4 (some (4,5)))),(5,(.dat (.int .i64) strange5 none)),(6,(.dat (.int .i64) at6 none))]))=qgn (fun out4 strange5=>K (.exit 0) (frOf [(4,(.dat (.sl .byte) out4 (some (4,5)))),(5,(.dat (.int .i64) strange5 none))])) n:=by
  funext s0 out4 strange5 at6
  exact IH s0 out4 strange5 at6
 show _=qfn (fun out4 strange5=>K (.exit 0) (frOf [(4,(.dat (.sl .byte) out4 (some (4,5)))),(5,(.dat (.int .i64) strange5 none))])) (qgn (fun out4 strange5=>K (.exit 0) (frOf [(4,(.dat (.sl .byte) out4 (some (4,5)))),(5,(.dat (.int .i64) strange5 none))])) n) n s0 out4 strange5 at6
 rw [← ih]
 kernel_rfl
theorem qkC (n:Nat) (out4:List UInt8) (strange5:Int):(qc 0 (qbd.cutb 0) (kSeq (evCP qbd (evLP qbd n) (sub qhU [1,0,1,1,1,1,1])) (kFnP qbd qqY))) (.exit 0) (frOf [(4,(.dat (.sl .byte) out4 (some (4,5)))),(5,(.dat (.int .i64) strange5 none))])=qdG n out4 strange5:=by
 kernel_rfl
theorem qDi (n:Nat) (s0:List UInt8) (o0:Lab):evFnP qbd n qhU qqY [.dat (.sl .byte) s0 o0]=qsU n s0:=by
 unfold qsU
 rw [show qgn (qdG n) n=(fun s0 out4 strange5 at6=>evLP qbd n (sub qhU [1,0,1,1,1,1,0,0,0]) (qc 0 (qbd.cutb 0) (kSeq (evCP qbd (evLP qbd n) (sub qhU [1,0,1,1,1,1,1])) (kFnP qbd qqY))) (frOf [(0,(.dat (.sl .byte) s0 none)),(4,(.dat (.sl .byte) out4 (some (4,5)))),(5,(.dat (.int .i64) strange5 none)),(6,(.dat (.int .i64) at6 none))])) from by
  funext s0 out4 strange5 at6
  refine Eq.trans ?_ (qqZ (qc 0 (qbd.cutb 0) (kSeq (evCP qbd (evLP qbd n) (sub qhU [1,0,1,1,1,1,1])) (kFnP qbd qqY))) n s0 out4 strange5 at6).symm
  rw [show (fun out4 strange5=>(qc 0 (qbd.cutb 0) (kSeq (evCP qbd (evLP qbd n) (sub qhU [1,0,1,1,1,1,1])) (kFnP qbd qqY))) (.exit 0) (frOf [(4,(.dat (.sl .byte) out4 (some (4,5)))),(5,(.dat (.int .i64) strange5 none))]))=(qdG n) from by
   funext out4 strange5
   exact qkC n out4 strange5]
  all_goals kernel_rfl]
 kernel_rfl
theorem qjf:qh G Tryz.prog 144 s_z144:=by
 refine sQ (E:=qbd) (c:=qhU) rfl (fun w S hg=>(qb (qqX w S hg) qd)) Tryz.func144 (by kernel_rfl) (by kernel_rfl) (by kernel_rfl) ?_
 intro avs r h
 unfold s_z144 at h
 split at h
 ·simp only [Prod.mk.injEq] at h
  obtain ⟨hp,rfl⟩:=h
  obtain ⟨n,hn⟩:=qvI _ hp
  exact ⟨n,_,(qDi n _ _).trans hn,.inl rfl⟩
 ·cases h
noncomputable def E_z99:EnvP:=eQ [(144,s_z144)] 11 (some [2]) nC nC nP
noncomputable def C_z99:Code:=cO Tryz.f99
noncomputable def R_z99:Array ResultVar:=Tryz.f99.results
theorem qFt (n:Nat) (s0:List UInt8) (o0:Lab):evFnP E_z99 n C_z99 R_z99 [.dat (.sl .byte) s0 o0]=qzL n s0:=by
 kernel_rfl
theorem quU:qh G Tryz.prog 99 s_z99:=by
 refine sQ (E:=E_z99) (c:=C_z99) rfl (fun w S hg=>(qb (qjf w S hg) qd)) Tryz.func99 (by kernel_rfl) (by kernel_rfl) (by kernel_rfl) ?_
 intro avs r h
 unfold s_z99 at h
 split at h
 ·simp only [Prod.mk.injEq] at h
  obtain ⟨hp,rfl⟩:=h
  obtain ⟨n,hn⟩:=qzd _ hp
  exact ⟨n,_,(qFt n _ _).trans hn,.inl rfl⟩
 ·cases h
noncomputable def E_z54:EnvP:=eQ [(98,s_z98),(99,s_z99)] 12 (some [2]) nC nC nP
noncomputable def C_z54:Code:=cO Tryz.f54
noncomputable def R_z54:Array ResultVar:=Tryz.f54.results
theorem qFu (n:Nat) (w0:(List UInt8)×(Int×((List UInt8)×Unit))) (o0:Lab):evFnP E_z54 n C_z54 R_z54 [.dat (.pair (.sl .byte) (.pair (.int .i64) (.pair (.sl .byte) .unit))) w0 o0]=qzM n w0:=by
 kernel_rfl
theorem quV:qh G Tryz.prog 54 s_z54:=by
 refine sQ (E:=E_z54) (c:=C_z54) rfl (fun w S hg=>(qb (quT w S hg) (qb (quU w S hg) qd))) Tryz.func54 (by kernel_rfl) (by kernel_rfl) (by kernel_rfl) ?_
 intro avs r h
 unfold s_z54 at h
 split at h
 ·simp only [Prod.mk.injEq] at h
  obtain ⟨hp,rfl⟩:=h
  obtain ⟨n,hn⟩:=qzh _ hp
  exact ⟨n,_,(qFu n _ _).trans hn,.inl rfl⟩
 ·cases h
noncomputable def E_z19:EnvP:=eQ [(11,s_z11),(52,s_z52),(53,s_z53),(54,s_z54)] 18 (some [1000002,3]) nC nC nP
noncomputable def C_z19:Code:=cO Tryz.f19
noncomputable def R_z19:Array ResultVar:=Tryz.f19.results
theorem qFv (n:Nat) (s0:List UInt8) (o0:Lab):evFnP E_z19 n C_z19 R_z19 [.dat (.sl .byte) s0 o0]=qzN n s0:=by
 kernel_rfl
theorem qmb:qh G Tryz.prog 19 s_z19:=by
 refine sQ (E:=E_z19) (c:=C_z19) rfl (fun w S hg=>(qb (qfc w S hg) (qb (quS w S hg) (qb (qma w S hg) (qb (quV w S hg) qd))))) Tryz.func19 (by kernel_rfl) (by kernel_rfl) (by kernel_rfl) ?_
 intro avs r h
 unfold s_z19 at h
 split at h
 ·simp only [Prod.mk.injEq] at h
  obtain ⟨hp,rfl⟩:=h
  obtain ⟨n,hn⟩:=qyS _ hp
  exact ⟨n,_,(qFv n _ _).trans hn,.inl rfl⟩
 ·cases h
noncomputable def E_z10:EnvP:=eQ [(14,s_z14),(15,s_z15),(17,s_z17),(19,s_z19)] 47 (some [0]) nC nC nP
noncomputable def C_z10:Code:=cO Tryz.f10
noncomputable def R_z10:Array ResultVar:=Tryz.f10.results
theorem qFw (n:Nat)  : evFnP E_z10 n C_z10 R_z10 []=qDP n  := by
 kernel_rfl
theorem quW:qh G Tryz.prog 10 s_z10:=by
 refine sQ (E:=E_z10) (c:=C_z10) rfl (fun w S hg=>(qb (qlS w S hg) (qb (qlX w S hg) (qb (quJ w S hg) (qb (qmb w S hg) qd))))) Tryz.func10 (by kernel_rfl) (by kernel_rfl) (by kernel_rfl) ?_
 intro avs r h
 unfold s_z10 at h
 split at h
 ·simp only [Prod.mk.injEq,true_and] at h
  subst h
  obtain ⟨n,hn⟩:=qyX
  exact ⟨n,_,(qFw n ).trans hn,.inl rfl⟩
 ·cases h
end Go.Av
