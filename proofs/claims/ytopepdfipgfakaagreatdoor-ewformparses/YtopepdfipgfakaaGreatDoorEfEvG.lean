import Derived.Test.YtopepdfipgfakaaGreatDoorEfEvF
import Derived.Test.YtopepdfipgfakaaGreatDoorEfLayX
import Derived.Test.YtopepdfipgfakaaGreatDoorProg
import Derived.KernelRfl
namespace Go.Av
set_option linter.unusedSimpArgs false
noncomputable section
open Go.Proofs
set_option maxRecDepth 100000
set_option linter.unusedVariables false
def E_z58:EnvP:=⟨⟨tiOf tis,fnsOf [(79,s_z79),(107,s_z107)],cnsOf [],[],18,(fun _=>none),(fun _=>none),some [2,3]⟩,fun _=>none,fun _=>none,fun _=>[],fun _=>none,(fun x=>if x=106 then some s_z106 else none),fun _=>none,(fun x=>if x=117 then some (9,3) else none)⟩
def C_z58:Code:=cO Tryz.f58
def R_z58:Array ResultVar:=Tryz.f58.results
theorem qCJ (n:Nat) (s0:List UInt8) (o0:Lab):evFnP E_z58 n C_z58 R_z58 [.dat (.sl .byte) s0 o0]=qxr n s0:=by
 kernel_rfl
theorem qsQ:qg G Tryz.prog 58 s_z58:=by
 refine qN G_stays (E:=E_z58) (fn:=Tryz.f58) (c:=C_z58) (qp rfl qdO) (fun w S hg=>⟨⟨(qb (qkR w S hg) (qb (qpq w S hg) qd)),fun f sp h=>qbw f sp h w S⟩,qbC w S hg,(fun _ _ h=>by cases h),(fun f sp h=>(qmU (qoY w S hg) qck) f sp h),(fun f it h=>qcl f it h),(fun t kt vt h=>(qmV (by kernel_rfl) qbG) t kt vt h)⟩) follows Tryz.func58 (by kernel_rfl) (by kernel_rfl) (by kernel_rfl) ?_
 intro avs r h
 unfold s_z58 at h
 split at h
 ·obtain ⟨hp,rfl⟩:=Prod.mk.inj h
  obtain ⟨n,hn⟩:=qwQ _ hp
  exact ⟨n,_,(qCJ n _ _).trans hn,.inl rfl⟩
 ·cases h
def E_z53:EnvP:=eQ [(58,s_z58)] 14 (some [2]) nC nC nP
def C_z53:Code:=cO Tryz.f53
def R_z53:Array ResultVar:=Tryz.f53.results
theorem qCK (n:Nat) (w0:(List UInt8)×(Int×((List UInt8)×Unit))) (o0:Lab):evFnP E_z53 n C_z53 R_z53 [.dat (.pair (.sl .byte) (.pair (.int .i64) (.pair (.sl .byte) .unit))) w0 o0]=qxs n w0:=by
 kernel_rfl
theorem qsR:qg G Tryz.prog 53 s_z53:=by
 refine sQ (E:=E_z53) (c:=C_z53) rfl (fun w S hg=>(qb (qsQ w S hg) qd)) Tryz.func53 ?_
 intro avs r h
 unfold s_z53 at h
 split at h
 ·obtain ⟨hp,rfl⟩:=Prod.mk.inj h
  obtain ⟨n,hn⟩:=qwR _ hp
  exact ⟨n,_,(qCK n _ _).trans hn,.inl rfl⟩
 ·cases h
def qAx:EnvP:=eQ [(192,s_z192)] 11 (some [2,3]) nC nC nP
def qAy:Code:=cO Tryz.f150
def qCL:Array ResultVar:=Tryz.f150.results
theorem qAz (n:Nat) (c0:UInt8) (o0:Lab):evFnP qAx n qAy qCL [.dat .byte c0 o0]=qvk n c0:=by
 kernel_rfl
theorem qpr:qg G Tryz.prog 150 s_z150:=by
 refine sQ (E:=qAx) (c:=qAy) rfl (fun w S hg=>(qb (qiq w S hg) qd)) Tryz.func150 ?_
 intro avs r h
 unfold s_z150 at h
 split at h <;> cases h
 obtain ⟨n,hn⟩:=qtt _
 exact ⟨n,_,(qAz n _ _).trans hn,.inl rfl⟩
def qdQ:EnvP:=eQ [(150,s_z150)] 28 (some [28,29]) (fun x=>if x=1 then some [0,7,8,9,28,29] else none) (fun x=>if x=0 then some [28,29] else if x=1 then some [0,7,8,9,28,29] else none) nP
def qps:Code:=cO Tryz.f219
def qpt:Array ResultVar:=Tryz.f219.results
theorem qpu (V:Sigma Inv) (K:Ex→Fr→Option AV):∀ (n:Nat) (s7:List UInt8) (s8:Int) (s9:Int) (xv:Den V.1) (s29:List UInt8),evLP qdQ n (sub qps [1,0,0]) K (frOf [(0,(.padr 28 [])),(7,(.dat (.sl .byte) s7 none)),(8,(.dat (.int .i64) s8 none)),(9,(.dat (.int .i64) s9 none)),(28,(.abs V.1 V.2 xv)),(29,(.pbox (.leaf (.sl .byte)) s29 none))])=(qds V) (fun xv s29=>K .ret (frOf [(28,(.abs V.1 V.2 xv)),(29,(.pbox (.leaf (.sl .byte)) s29 none))])) (fun xv s29=>K (.exit 0) (frOf [(28,(.abs V.1 V.2 xv)),(29,(.pbox (.leaf (.sl .byte)) s29 none))])) n s7 s8 s9 xv s29:=by
 intro n
 induction n with
 | zero=>intros; rfl
 | succ n IH =>
 intro s7 s8 s9 xv s29
 have ih:(fun s7 s8 s9 xv s29=>evLP qdQ n (sub qps [1,0,0]) K (frOf [(0,(.padr 28 [])),(7,(.dat (.sl .byte) s7 none)),(8,(.dat (.int .i64) s8 none)),(9,(.dat (.int .i64) s9 none)),(28,(.abs V.1 V.2 xv)),(29,(.pbox (.leaf (.sl .byte)) s29 none))]))=(qds V) (fun xv s29=>K .ret (frOf [(28,(.abs V.1 V.2 xv)),(29,(.pbox (.leaf (.sl .byte)) s29 none))])) (fun xv s29=>K (.exit 0) (frOf [(28,(.abs V.1 V.2 xv)),(29,(.pbox (.leaf (.sl .byte)) s29 none))])) n:=by
  funext s7 s8 s9 xv s29
  exact IH s7 s8 s9 xv s29
 show _=(qci V) (fun xv s29=>K .ret (frOf [(28,(.abs V.1 V.2 xv)),(29,(.pbox (.leaf (.sl .byte)) s29 none))])) (fun xv s29=>K (.exit 0) (frOf [(28,(.abs V.1 V.2 xv)),(29,(.pbox (.leaf (.sl .byte)) s29 none))])) ((qds V) (fun xv s29=>K .ret (frOf [(28,(.abs V.1 V.2 xv)),(29,(.pbox (.leaf (.sl .byte)) s29 none))])) (fun xv s29=>K (.exit 0) (frOf [(28,(.abs V.1 V.2 xv)),(29,(.pbox (.leaf (.sl .byte)) s29 none))])) n) n s7 s8 s9 xv s29
 rw [← ih]
 kernel_rfl
theorem qjK (V:Sigma Inv) (x0:Den V.1) (x1:List UInt8) (n:Nat) (xv:Den V.1) (s29:List UInt8):(qc 0 (qdQ.cutb 0) (kFnM qdQ qpt [.abs V.1 V.2 x0,.pbox (.leaf (.sl .byte)) x1 none])) (.exit 0) (frOf [(28,(.abs V.1 V.2 xv)),(29,(.pbox (.leaf (.sl .byte)) s29 none))])=(qbv V) n xv s29:=by
 kernel_rfl
theorem qAA (V:Sigma Inv) (n:Nat) (x0:Den V.1) (x1:List UInt8):evFnM qdQ n qps qpt [.abs V.1 V.2 x0,.pbox (.leaf (.sl .byte)) x1 none]=(qlx V) n x0 x1:=by
 unfold qlx
 rw [show (qds V) (qaE V) ((qbv V) n) n=(fun s7 s8 s9 xv s29=>evLP qdQ n (sub qps [1,0,0]) (qc 0 (qdQ.cutb 0) (kFnM qdQ qpt [.abs V.1 V.2 x0,.pbox (.leaf (.sl .byte)) x1 none])) (frOf [(0,(.padr 28 [])),(7,(.dat (.sl .byte) s7 none)),(8,(.dat (.int .i64) s8 none)),(9,(.dat (.int .i64) s9 none)),(28,(.abs V.1 V.2 xv)),(29,(.pbox (.leaf (.sl .byte)) s29 none))])) from by
  funext s7 s8 s9 xv s29
  refine Eq.trans ?_ ((qpu V) (qc 0 (qdQ.cutb 0) (kFnM qdQ qpt [.abs V.1 V.2 x0,.pbox (.leaf (.sl .byte)) x1 none])) n s7 s8 s9 xv s29).symm
  rw [show (fun xv s29=>(qc 0 (qdQ.cutb 0) (kFnM qdQ qpt [.abs V.1 V.2 x0,.pbox (.leaf (.sl .byte)) x1 none])) (.exit 0) (frOf [(28,(.abs V.1 V.2 xv)),(29,(.pbox (.leaf (.sl .byte)) s29 none))]))=((qbv V) n) from by
   funext xv s29
   exact (qjK V) x0 x1 n xv s29]
  all_goals kernel_rfl]
 kernel_rfl
theorem qmu:qnN G Tryz.prog 219 s_z219:=by
 refine qcw G_stays (E:=qdQ) (fn:=Tryz.f219) (c:=qps) (qp rfl qdO) (fun w S hg=>⟨⟨(qb (qpr w S hg) qd),fun f sp h=>qbw f sp h w S⟩,qbC w S hg,(fun _ _ h=>by cases h),(fun f sp h=>qck f sp h),(fun f it h=>qcl f it h),(fun t kt vt h=>qbG t kt vt h)⟩) follows Tryz.func219 (by kernel_rfl) (by kernel_rfl) (by kernel_rfl) ?_
 intro avs r h
 unfold s_z219 at h
 split at h
 ·rename_i s V x _
  simp only [Prod.mk.injEq] at h
  obtain ⟨hp,rfl⟩:=h
  obtain ⟨n,hn⟩:=qty ⟨s,V⟩ _ _ hp
  exact ⟨n,(qAA ⟨s,V⟩ n _ _).trans hn⟩
 ·cases h
theorem qpv:qyA G Tryz.prog 219 quP:=qlH qmu (enters_of Tryz.func219 (by kernel_rfl) rfl) (fun s V x x' y h=>by
 obtain ⟨h1,h2⟩:=Prod.mk.inj h
 subst h2
 refine ⟨_,_,Prod.ext h1 rfl⟩)
def qAB:EnvP:=eQ [] 4 (none) nC nC (fun x=>if x=1 then some (.leaf (.sl .byte)) else none)
def qAC:Code:=cO Tryz.f188
def qCM:Array ResultVar:=Tryz.f188.results
theorem qAD (n:Nat) (s0:List UInt8) (o0:Lab):evFnR qAB n qAC qCM [.dat (.sl .byte) s0 o0]=qBm n s0:=by
 kernel_rfl
theorem qpw:qvW G Tryz.prog 188 s_z188:=by
 refine qeX G_stays (E:=qAB) (fn:=Tryz.f188) (c:=qAC) (qp rfl qdO) (fun w S hg=>⟨⟨qd,fun f sp h=>qbw f sp h w S⟩,qbC w S hg,(fun _ _ h=>by cases h),(fun f sp h=>qck f sp h),(fun f it h=>qcl f it h),(fun t kt vt h=>qbG t kt vt h)⟩) follows Tryz.func188 (by kernel_rfl) (by kernel_rfl) (by kernel_rfl) ?_
 intro avs r h
 unfold s_z188 at h
 split at h
 ·simp only [Prod.mk.injEq,true_and] at h
  subst h
  exact ⟨0,qAD 0 _ _⟩
 ·cases h
def qAE:EnvP:=⟨⟨tiOf tis,fnsOf [],cnsOf [],[],39,(fun x=>if x=2000005 then some [4,5,6] else none),(fun x=>if x=0 then some [4,6] else if x=1 then some [1043,1044,1045] else none),some [1000002,3]⟩,(fun x=>if x=4 then some (.osl 5 .byte) else if x=5 then some (.leaf (.int .i64)) else if x=6 then some (.leaf (.int .i64)) else if x=25 then some (.osl 5 .byte) else if x=31 then some (.osl 5 .byte) else none),fun _=>none,fun _=>[],fun _=>none,(fun x=>if x=188 then some s_z188 else none),(fun x=>if x=219 then some quP else none),fun _=>none⟩
def qAF:Code:=cO Tryz.f143
def qCN:Array ResultVar:=Tryz.f143.results
theorem qAG (n:Nat) (s0:List UInt8) (o0:Lab):evFnP qAE n qAF qCN [.dat (.sl .byte) s0 o0]=qqW n s0:=by
 kernel_rfl
theorem qpx:qg G Tryz.prog 143 s_z143:=by
 refine qN G_stays (E:=qAE) (fn:=Tryz.f143) (c:=qAF) (qp rfl qdO) (fun w S hg=>⟨⟨qd,fun f sp h=>qbw f sp h w S⟩,qbC w S hg,(fun _ _ h=>by cases h),(fun f sp h=>(qmU (qpw w S hg) qck) f sp h),(fun f it h=>(qvB (qpv w S hg) qcl) f it h),(fun t kt vt h=>qbG t kt vt h)⟩) follows Tryz.func143 (by kernel_rfl) (by kernel_rfl) (by kernel_rfl) ?_
 intro avs r h
 unfold s_z143 at h
 split at h
 ·obtain ⟨hp,rfl⟩:=Prod.mk.inj h
  obtain ⟨n,hn⟩:=qtB _ hp
  exact ⟨n,_,(qAG n _ _).trans hn,.inl rfl⟩
 ·cases h
def E_z98:EnvP:=eQ [(143,s_z143)] 11 (some [2]) nC nC nP
def C_z98:Code:=cO Tryz.f98
def R_z98:Array ResultVar:=Tryz.f98.results
theorem qCO (n:Nat) (s0:List UInt8) (o0:Lab):evFnP E_z98 n C_z98 R_z98 [.dat (.sl .byte) s0 o0]=qxt n s0:=by
 kernel_rfl
theorem qsS:qg G Tryz.prog 98 s_z98:=by
 refine sQ (E:=E_z98) (c:=C_z98) rfl (fun w S hg=>(qb (qpx w S hg) qd)) Tryz.func98 ?_
 intro avs r h
 unfold s_z98 at h
 split at h
 ·obtain ⟨hp,rfl⟩:=Prod.mk.inj h
  obtain ⟨n,hn⟩:=qwV _ hp
  exact ⟨n,_,(qCO n _ _).trans hn,.inl rfl⟩
 ·cases h
def qAH:EnvP:=eQ [(126,s_z126),(129,s_z129)] 23 (some [2,3]) nC (fun x=>if x=0 then some [] else none) nP
def qAI:Code:=cO Tryz.f237
def qCP:Array ResultVar:=Tryz.f237.results
theorem qAJ (n:Nat) (c0:UInt8) (o0:Lab):evFnP qAH n qAI qCP [.dat .byte c0 o0]=qqX n c0:=by
 kernel_rfl
theorem qpy:qg G Tryz.prog 237 s_z237:=by
 refine sQ (E:=qAH) (c:=qAI) rfl (fun w S hg=>(qb (qip w S hg) (qb (qfy w S hg) qd))) Tryz.func237 ?_
 intro avs r h
 unfold s_z237 at h
 split at h <;> cases h
 obtain ⟨n,hn⟩:=qut _
 exact ⟨n,_,(qAJ n _ _).trans hn,.inl rfl⟩
def qAK:EnvP:=eQ [(237,s_z237)] 31 (some [4,5]) nC nC nP
def qAL:Code:=cO Tryz.f220
def qCQ:Array ResultVar:=Tryz.f220.results
theorem qAM (n:Nat) (a0:UInt8) (o0:Lab) (b1:UInt8) (o1:Lab):evFnP qAK n qAL qCQ [.dat .byte a0 o0,.dat .byte b1 o1]=qqY n a0 b1:=by
 kernel_rfl
theorem qpz:qg G Tryz.prog 220 s_z220:=by
 refine sQ (E:=qAK) (c:=qAL) rfl (fun w S hg=>(qb (qpy w S hg) qd)) Tryz.func220 ?_
 intro avs r h
 unfold s_z220 at h
 split at h <;> cases h
 obtain ⟨n,hn⟩:=quu _ _
 exact ⟨n,_,(qAM n _ _ _ _).trans hn,.inl rfl⟩
def qAN:EnvP:=eQ [(220,s_z220)] 38 (some [6,7]) nC nC nP
def qAO:Code:=cO Tryz.f189
def qCR:Array ResultVar:=Tryz.f189.results
theorem qAP (n:Nat) (s0:List UInt8) (o0:Lab) (at1:Int) (o1:Lab) (sign2:UInt8) (o2:Lab):evFnP qAN n qAO qCR [.dat (.sl .byte) s0 o0,.dat (.int .i64) at1 o1,.dat .byte sign2 o2]=qqZ n s0 at1 sign2:=by
 kernel_rfl
theorem qpA:qg G Tryz.prog 189 s_z189:=by
 refine sQ (E:=qAN) (c:=qAO) rfl (fun w S hg=>(qb (qpz w S hg) qd)) Tryz.func189 ?_
 intro avs r h
 unfold s_z189 at h
 split at h
 ·obtain ⟨hp,rfl⟩:=Prod.mk.inj h
  obtain ⟨n,hn⟩:=quv _ _ _ hp
  exact ⟨n,_,(qAP n _ _ _ _ _ _).trans hn,.inl rfl⟩
 ·cases h
def qbb:EnvP:=eQ [(189,s_z189)] 46 (some [2,3]) (fun x=>if x=4 then some [0,4,5,6] else none) (fun x=>if x=0 then some [4,5] else if x=1 then some [0,4,5,6] else if x=2 then some [0,4,5,6,7] else none) nP
def qht:Code:=cO Tryz.f144
def qpB:Array ResultVar:=Tryz.f144.results
theorem qpC (K:Ex→Fr→Option AV):∀ (n:Nat) (s0:List UInt8) (out4:List UInt8) (strange5:Int) (at6:Int),evLP qbb n (sub qht [1,0,1,1,1,1,0,0,0]) K (frOf [(0,(.dat (.sl .byte) s0 none)),(4,(.dat (.sl .byte) out4 (some (4,5)))),(5,(.dat (.int .i64) strange5 none)),(6,(.dat (.int .i64) at6 none))])=qfP (fun out4 strange5=>K (.exit 0) (frOf [(4,(.dat (.sl .byte) out4 (some (4,5)))),(5,(.dat (.int .i64) strange5 none))])) n s0 out4 strange5 at6:=by
 intro n
 induction n with
 | zero=>intros; rfl
 | succ n IH =>
 intro s0 out4 strange5 at6
 have ih:(fun s0 out4 strange5 at6=>evLP qbb n (sub qht [1,0,1,1,1,1,0,0,0]) K (frOf [(0,(.dat (.sl .byte) s0 none)),(4,(.dat (.sl .byte) out4 (some (4,5)))),(5,(.dat (.int .i64) strange5 none)),(6,(.dat (.int .i64) at6 none))]))=qfP (fun out4 strange5=>K (.exit 0) (frOf [(4,(.dat (.sl .byte) out4 (some (4,5)))),(5,(.dat (.int .i64) strange5 none))])) n:=by
  funext s0 out4 strange5 at6
  exact IH s0 out4 strange5 at6
 show _=qeU (fun out4 strange5=>K (.exit 0) (frOf [(4,(.dat (.sl .byte) out4 (some (4,5)))),(5,(.dat (.int .i64) strange5 none))])) (qfP (fun out4 strange5=>K (.exit 0) (frOf [(4,(.dat (.sl .byte) out4 (some (4,5)))),(5,(.dat (.int .i64) strange5 none))])) n) n s0 out4 strange5 at6
 rw [← ih]
 kernel_rfl
theorem qjL (n:Nat) (out4:List UInt8) (strange5:Int):(qc 0 (qbb.cutb 0) (kSeq (evCP qbb (evLP qbb n) (sub qht [1,0,1,1,1,1,1])) (kFnP qbb qpB))) (.exit 0) (frOf [(4,(.dat (.sl .byte) out4 (some (4,5)))),(5,(.dat (.int .i64) strange5 none))])=qdt n out4 strange5:=by
 kernel_rfl
theorem qAQ (n:Nat) (s0:List UInt8) (o0:Lab):evFnP qbb n qht qpB [.dat (.sl .byte) s0 o0]=qra n s0:=by
 unfold qra
 rw [show qfP (qdt n) n=(fun s0 out4 strange5 at6=>evLP qbb n (sub qht [1,0,1,1,1,1,0,0,0]) (qc 0 (qbb.cutb 0) (kSeq (evCP qbb (evLP qbb n) (sub qht [1,0,1,1,1,1,1])) (kFnP qbb qpB))) (frOf [(0,(.dat (.sl .byte) s0 none)),(4,(.dat (.sl .byte) out4 (some (4,5)))),(5,(.dat (.int .i64) strange5 none)),(6,(.dat (.int .i64) at6 none))])) from by
  funext s0 out4 strange5 at6
  refine Eq.trans ?_ (qpC (qc 0 (qbb.cutb 0) (kSeq (evCP qbb (evLP qbb n) (sub qht [1,0,1,1,1,1,1])) (kFnP qbb qpB))) n s0 out4 strange5 at6).symm
  rw [show (fun out4 strange5=>(qc 0 (qbb.cutb 0) (kSeq (evCP qbb (evLP qbb n) (sub qht [1,0,1,1,1,1,1])) (kFnP qbb qpB))) (.exit 0) (frOf [(4,(.dat (.sl .byte) out4 (some (4,5)))),(5,(.dat (.int .i64) strange5 none))]))=(qdt n) from by
   funext out4 strange5
   exact qjL n out4 strange5]
  all_goals kernel_rfl]
 kernel_rfl
theorem qpD:qg G Tryz.prog 144 s_z144:=by
 refine sQ (E:=qbb) (c:=qht) rfl (fun w S hg=>(qb (qpA w S hg) qd)) Tryz.func144 ?_
 intro avs r h
 unfold s_z144 at h
 split at h
 ·obtain ⟨hp,rfl⟩:=Prod.mk.inj h
  obtain ⟨n,hn⟩:=qtv _ hp
  exact ⟨n,_,(qAQ n _ _).trans hn,.inl rfl⟩
 ·cases h
def E_z99:EnvP:=eQ [(144,s_z144)] 11 (some [2]) nC nC nP
def C_z99:Code:=cO Tryz.f99
def R_z99:Array ResultVar:=Tryz.f99.results
theorem qCS (n:Nat) (s0:List UInt8) (o0:Lab):evFnP E_z99 n C_z99 R_z99 [.dat (.sl .byte) s0 o0]=qxu n s0:=by
 kernel_rfl
theorem qsT:qg G Tryz.prog 99 s_z99:=by
 refine sQ (E:=E_z99) (c:=C_z99) rfl (fun w S hg=>(qb (qpD w S hg) qd)) Tryz.func99 ?_
 intro avs r h
 unfold s_z99 at h
 split at h
 ·obtain ⟨hp,rfl⟩:=Prod.mk.inj h
  obtain ⟨n,hn⟩:=qwP _ hp
  exact ⟨n,_,(qCS n _ _).trans hn,.inl rfl⟩
 ·cases h
def E_z54:EnvP:=eQ [(98,s_z98),(99,s_z99)] 12 (some [2]) nC nC nP
def C_z54:Code:=cO Tryz.f54
def R_z54:Array ResultVar:=Tryz.f54.results
theorem qCT (n:Nat) (w0:(List UInt8)×(Int×((List UInt8)×Unit))) (o0:Lab):evFnP E_z54 n C_z54 R_z54 [.dat (.pair (.sl .byte) (.pair (.int .i64) (.pair (.sl .byte) .unit))) w0 o0]=qxv n w0:=by
 kernel_rfl
theorem qsU:qg G Tryz.prog 54 s_z54:=by
 refine sQ (E:=E_z54) (c:=C_z54) rfl (fun w S hg=>(qb (qsS w S hg) (qb (qsT w S hg) qd))) Tryz.func54 ?_
 intro avs r h
 unfold s_z54 at h
 split at h
 ·obtain ⟨hp,rfl⟩:=Prod.mk.inj h
  obtain ⟨n,hn⟩:=qwT _ hp
  exact ⟨n,_,(qCT n _ _).trans hn,.inl rfl⟩
 ·cases h
end
end Go.Av
