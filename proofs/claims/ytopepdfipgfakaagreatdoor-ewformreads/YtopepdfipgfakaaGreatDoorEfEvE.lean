import Derived.Test.YtopepdfipgfakaaGreatDoorEfEvD
import Derived.Test.YtopepdfipgfakaaGreatDoorEfLayX
import Derived.Test.YtopepdfipgfakaaGreatDoorProg
import Derived.KernelRfl
namespace Go.Av
noncomputable section
open Go.Proofs
set_option maxRecDepth 100000
def qbs:EnvP:=eQ [(238,s_z238)] 23 (some [4]) (fun x=>if x=1 then some [0,1] else none) (fun x=>if x=0 then some [0] else if x=1 then some [0,1] else none) nP
def qjJ:Code:=cO Tryz.f225
def qtL:Array ResultVar:=Tryz.f225.results
theorem qtM (K:Ex→Fr→OA):∀ (n:Nat) (s0:LU) (as1:List Bool),evLP qbs n (sub qjJ [1,0,0,0]) K (frOf [(0,(.dat (.sl .byte) s0 none)),(1,(.adr (.arr 256 .bool) as1))])=qfN (fun s0=>K (.exit 0) (frOf [(0,(.dat (.sl .byte) s0 none))])) n s0 as1:=by
 intro n
 induction n with
 | zero=>intros; rfl
 | succ n IH =>
 intro s0 as1
 have ih:(fun s0 as1=>evLP qbs n (sub qjJ [1,0,0,0]) K (frOf [(0,(.dat (.sl .byte) s0 none)),(1,(.adr (.arr 256 .bool) as1))]))=qfN (fun s0=>K (.exit 0) (frOf [(0,(.dat (.sl .byte) s0 none))])) n:=by
  funext s0 as1
  exact IH s0 as1
 show _=qgu (fun s0=>K (.exit 0) (frOf [(0,(.dat (.sl .byte) s0 none))])) (qfN (fun s0=>K (.exit 0) (frOf [(0,(.dat (.sl .byte) s0 none))])) n) n s0 as1
 rw [← ih]
 kernel_rfl
theorem qmJ (n:Nat) (s0:LU):(qb 0 (qbs.cutb 0) (kSeq (evCP qbs (evLP qbs n) (sub qjJ [1,1])) (kFnP qbs qtL))) (.exit 0) (frOf [(0,(.dat (.sl .byte) s0 none))])=qgv n s0:=by
 kernel_rfl
theorem qHR (n:Nat) (s0:LU) (o0:Lab) (as1:List Bool):evFnP qbs n qjJ qtL [.dat (.sl .byte) s0 o0,.adr (.arr 256 .bool) as1]=qpp n s0 as1:=by
 unfold qpp
 rw [show qfN (qgv n) n=(fun s0 as1=>evLP qbs n (sub qjJ [1,0,0,0]) (qb 0 (qbs.cutb 0) (kSeq (evCP qbs (evLP qbs n) (sub qjJ [1,1])) (kFnP qbs qtL))) (frOf [(0,(.dat (.sl .byte) s0 none)),(1,(.adr (.arr 256 .bool) as1))])) from by
  funext s0 as1
  refine Eq.trans ?_ (qtM (qb 0 (qbs.cutb 0) (kSeq (evCP qbs (evLP qbs n) (sub qjJ [1,1])) (kFnP qbs qtL))) n s0 as1).symm
  rw [show (fun s0=>(qb 0 (qbs.cutb 0) (kSeq (evCP qbs (evLP qbs n) (sub qjJ [1,1])) (kFnP qbs qtL))) (.exit 0) (frOf [(0,(.dat (.sl .byte) s0 none))]))=(qgv n) from by
   funext s0
   exact qmJ n s0]
  all_goals kernel_rfl]
 kernel_rfl
theorem qtN:qe G Tryz.prog 225 s_z225:=by
 refine sQ (E:=qbs) (c:=qjJ) rfl (fun w S hg=>(qa (qld w S hg) qd)) Tryz.func225 ?_
 intro avs r h
 unfold s_z225 at h
 split at h
 ·obtain ⟨hp,rfl⟩:=Prod.mk.inj h
  obtain ⟨n,hn⟩:=qAK _ _ hp
  exact ⟨n,_,(qHR n _ _ _).trans hn,.inl rfl⟩
 ·cases h
def qHS:EnvP:=⟨⟨tiOf tis,fnsOf [(221,s_z221),(222,s_z222),(223,s_z223),(224,s_z224),(225,s_z225),(226,s_z226),(227,s_z227)],cnsOf [],[],42,(fun _=>none),(fun _=>none),some [1000004]⟩,fun _=>none,fun _=>none,(fun x=>if x=500009 then [5] else []),fun _=>none,fun _=>none,fun _=>none,fun _=>none⟩
def qHT:Code:=cO Tryz.f190
def qKQ:Array ResultVar:=Tryz.f190.results
theorem qHU (n:Nat) (s0:LU) (o0:Lab) (cutset1:LU) (o1:Lab):evFnP qHS n qHT qKQ [.dat (.sl .byte) s0 o0,.dat .str cutset1 o1]=qwk n s0 cutset1:=by
 kernel_rfl
theorem qtO:qe G Tryz.prog 190 s_z190:=by
 refine qP G_stays (E:=qHS) (fn:=Tryz.f190) (c:=qHT) (qr rfl qfa) (fun w S hg=>⟨⟨(qa (qtB w S hg) (qa (qtE w S hg) (qa (qtH w S hg) (qa (qtK w S hg) (qa (qtN w S hg) (qa (qsL w S hg) (qa (qsM w S hg) qd))))))),fun f sp h=>qcg f sp h w S⟩,qcj w S hg,(fun _ _ h=>by cases h),(fun f sp h=>qdi f sp h),(fun f it h=>qdj f it h),(fun t kt vt h=>qcn t kt vt h)⟩) follows Tryz.func190 (by kernel_rfl) (by kernel_rfl) (by kernel_rfl) ?_
 intro avs r h
 unfold s_z190 at h
 split at h
 ·obtain ⟨hp,rfl⟩:=Prod.mk.inj h
  obtain ⟨n,hn⟩:=qAM _ _ hp
  exact ⟨n,_,(qHU n _ _ _ _).trans hn,.inl rfl⟩
 ·cases h
def qHV:EnvP:=eQ [(38,s_z38),(190,s_z190)] 6 (some [2]) nC nC nP
def qHW:Code:=cO Tryz.f148
def qKR:Array ResultVar:=Tryz.f148.results
theorem qHX (n:Nat) (s0:LU) (o0:Lab):evFnP qHV n qHW qKR [.dat (.sl .byte) s0 o0]=qwm n s0:=by
 kernel_rfl
theorem qtP:qe G Tryz.prog 148 s_z148:=by
 refine sQ (E:=qHV) (c:=qHW) rfl (fun w S hg=>(qa (qgj w S hg) (qa (qtO w S hg) qd))) Tryz.func148 ?_
 intro avs r h
 unfold s_z148 at h
 split at h
 ·obtain ⟨hp,rfl⟩:=Prod.mk.inj h
  obtain ⟨n,hn⟩:=qAV _ hp
  exact ⟨n,_,(qHX n _ _).trans hn,.inl rfl⟩
 ·cases h
def qHY:EnvP:=eQ [(109,s_z109),(148,s_z148)] 13 (some [2]) nC nC nP
def qHZ:Code:=cO Tryz.f107
def qKS:Array ResultVar:=Tryz.f107.results
theorem qIa (n:Nat) (s0:LU) (o0:Lab):evFnP qHY n qHZ qKS [.dat (.sl .byte) s0 o0]=qwn n s0:=by
 kernel_rfl
theorem qtQ:qe G Tryz.prog 107 s_z107:=by
 refine sQ (E:=qHY) (c:=qHZ) rfl (fun w S hg=>(qa (qkV w S hg) (qa (qtP w S hg) qd))) Tryz.func107 ?_
 intro avs r h
 unfold s_z107 at h
 split at h
 ·obtain ⟨hp,rfl⟩:=Prod.mk.inj h
  obtain ⟨n,hn⟩:=qzV _ hp
  exact ⟨n,_,(qIa n _ _).trans hn,.inl rfl⟩
 ·cases h
def E_z58:EnvP:=⟨⟨tiOf tis,fnsOf [(79,s_z79),(107,s_z107)],cnsOf [],[],18,(fun _=>none),(fun _=>none),some [2,3]⟩,fun _=>none,fun _=>none,fun _=>[],fun _=>none,(fun x=>if x=106 then some s_z106 else none),fun _=>none,(fun x=>if x=117 then some (9,3) else none)⟩
def C_z58:Code:=cO Tryz.f58
def R_z58:Array ResultVar:=Tryz.f58.results
theorem qKT (n:Nat) (s0:LU) (o0:Lab):evFnP E_z58 n C_z58 R_z58 [.dat (.sl .byte) s0 o0]=qEt n s0:=by
 kernel_rfl
theorem qox:qe G Tryz.prog 58 s_z58:=by
 refine qP G_stays (E:=E_z58) (fn:=Tryz.f58) (c:=C_z58) (qr rfl qfa) (fun w S hg=>⟨⟨(qa (qoq w S hg) (qa (qtQ w S hg) qd)),fun f sp h=>qcg f sp h w S⟩,qcj w S hg,(fun _ _ h=>by cases h),(fun f sp h=>(qrm (qty w S hg) qdi) f sp h),(fun f it h=>qdj f it h),(fun t kt vt h=>(qrn (by kernel_rfl) qcn) t kt vt h)⟩) follows Tryz.func58 (by kernel_rfl) (by kernel_rfl) (by kernel_rfl) ?_
 intro avs r h
 unfold s_z58 at h
 split at h
 ·obtain ⟨hp,rfl⟩:=Prod.mk.inj h
  obtain ⟨n,hn⟩:=qDR _ hp
  exact ⟨n,_,(qKT n _ _).trans hn,.inl rfl⟩
 ·cases h
def E_z53:EnvP:=eQ [(58,s_z58)] 14 (some [2]) nC nC nP
def C_z53:Code:=cO Tryz.f53
def R_z53:Array ResultVar:=Tryz.f53.results
theorem qKU (n:Nat) (w0:LU×(Int×(LU×Unit))) (o0:Lab):evFnP E_z53 n C_z53 R_z53 [.dat (.pair (.sl .byte) (.pair (.int .i64) (.pair (.sl .byte) .unit))) w0 o0]=qEu n w0:=by
 kernel_rfl
theorem qoy:qe G Tryz.prog 53 s_z53:=by
 refine sQ (E:=E_z53) (c:=C_z53) rfl (fun w S hg=>(qa (qox w S hg) qd)) Tryz.func53 ?_
 intro avs r h
 unfold s_z53 at h
 split at h
 ·obtain ⟨hp,rfl⟩:=Prod.mk.inj h
  obtain ⟨n,hn⟩:=qDS _ hp
  exact ⟨n,_,(qKU n _ _).trans hn,.inl rfl⟩
 ·cases h
def qIb:EnvP:=eQ [(192,s_z192)] 11 (some [2,3]) nC nC nP
def qIc:Code:=cO Tryz.f150
def qKV:Array ResultVar:=Tryz.f150.results
theorem qId (n:Nat) (c0:UInt8) (o0:Lab):evFnP qIb n qIc qKV [.dat .byte c0 o0]=qBX n c0:=by
 kernel_rfl
theorem qle:qe G Tryz.prog 150 s_z150:=by
 refine sQ (E:=qIb) (c:=qIc) rfl (fun w S hg=>(qa (qkX w S hg) qd)) Tryz.func150 ?_
 intro avs r h
 unfold s_z150 at h
 split at h <;> cases h
 obtain ⟨n,hn⟩:=qzL _
 exact ⟨n,_,(qId n _ _).trans hn,.inl rfl⟩
def qfc:EnvP:=eQ [(150,s_z150)] 28 (some [28,29]) (fun x=>if x=1 then some [0,7,8,9,28,29] else none) (fun x=>if x=0 then some [28,29] else if x=1 then some [0,7,8,9,28,29] else none) nP
def qtR:Code:=cO Tryz.f219
def qtS:Array ResultVar:=Tryz.f219.results
theorem qtT (V:Sigma Inv) (K:Ex→Fr→OA):∀ (n:Nat) (s7:LU) (s8:Int) (s9:Int) (xv:Den V.1) (s29:LU),evLP qfc n (sub qtR [1,0,0]) K (frOf [(0,(.padr 28 [])),(7,(.dat (.sl .byte) s7 none)),(8,(.dat (.int .i64) s8 none)),(9,(.dat (.int .i64) s9 none)),(28,(.abs V.1 V.2 xv)),(29,(.pbox (.leaf (.sl .byte)) s29 none))])=(qeu V) (fun xv s29=>K .ret (frOf [(28,(.abs V.1 V.2 xv)),(29,(.pbox (.leaf (.sl .byte)) s29 none))])) (fun xv s29=>K (.exit 0) (frOf [(28,(.abs V.1 V.2 xv)),(29,(.pbox (.leaf (.sl .byte)) s29 none))])) n s7 s8 s9 xv s29:=by
 intro n
 induction n with
 | zero=>intros; rfl
 | succ n IH =>
 intro s7 s8 s9 xv s29
 have ih:(fun s7 s8 s9 xv s29=>evLP qfc n (sub qtR [1,0,0]) K (frOf [(0,(.padr 28 [])),(7,(.dat (.sl .byte) s7 none)),(8,(.dat (.int .i64) s8 none)),(9,(.dat (.int .i64) s9 none)),(28,(.abs V.1 V.2 xv)),(29,(.pbox (.leaf (.sl .byte)) s29 none))]))=(qeu V) (fun xv s29=>K .ret (frOf [(28,(.abs V.1 V.2 xv)),(29,(.pbox (.leaf (.sl .byte)) s29 none))])) (fun xv s29=>K (.exit 0) (frOf [(28,(.abs V.1 V.2 xv)),(29,(.pbox (.leaf (.sl .byte)) s29 none))])) n:=by
  funext s7 s8 s9 xv s29
  exact IH s7 s8 s9 xv s29
 show _=(qcO V) (fun xv s29=>K .ret (frOf [(28,(.abs V.1 V.2 xv)),(29,(.pbox (.leaf (.sl .byte)) s29 none))])) (fun xv s29=>K (.exit 0) (frOf [(28,(.abs V.1 V.2 xv)),(29,(.pbox (.leaf (.sl .byte)) s29 none))])) ((qeu V) (fun xv s29=>K .ret (frOf [(28,(.abs V.1 V.2 xv)),(29,(.pbox (.leaf (.sl .byte)) s29 none))])) (fun xv s29=>K (.exit 0) (frOf [(28,(.abs V.1 V.2 xv)),(29,(.pbox (.leaf (.sl .byte)) s29 none))])) n) n s7 s8 s9 xv s29
 rw [← ih]
 kernel_rfl
theorem qmK (V:Sigma Inv) (x0:Den V.1) (x1:LU) (n:Nat) (xv:Den V.1) (s29:LU):(qb 0 (qfc.cutb 0) (kFnM qfc qtS [.abs V.1 V.2 x0,.pbox (.leaf (.sl .byte)) x1 none])) (.exit 0) (frOf [(28,(.abs V.1 V.2 xv)),(29,(.pbox (.leaf (.sl .byte)) s29 none))])=(qca V) n xv s29:=by
 kernel_rfl
theorem qIe (V:Sigma Inv) (n:Nat) (x0:Den V.1) (x1:LU):evFnM qfc n qtR qtS [.abs V.1 V.2 x0,.pbox (.leaf (.sl .byte)) x1 none]=(qpq V) n x0 x1:=by
 unfold qpq
 rw [show (qeu V) (qaR V) ((qca V) n) n=(fun s7 s8 s9 xv s29=>evLP qfc n (sub qtR [1,0,0]) (qb 0 (qfc.cutb 0) (kFnM qfc qtS [.abs V.1 V.2 x0,.pbox (.leaf (.sl .byte)) x1 none])) (frOf [(0,(.padr 28 [])),(7,(.dat (.sl .byte) s7 none)),(8,(.dat (.int .i64) s8 none)),(9,(.dat (.int .i64) s9 none)),(28,(.abs V.1 V.2 xv)),(29,(.pbox (.leaf (.sl .byte)) s29 none))])) from by
  funext s7 s8 s9 xv s29
  refine Eq.trans ?_ ((qtT V) (qb 0 (qfc.cutb 0) (kFnM qfc qtS [.abs V.1 V.2 x0,.pbox (.leaf (.sl .byte)) x1 none])) n s7 s8 s9 xv s29).symm
  rw [show (fun xv s29=>(qb 0 (qfc.cutb 0) (kFnM qfc qtS [.abs V.1 V.2 x0,.pbox (.leaf (.sl .byte)) x1 none])) (.exit 0) (frOf [(28,(.abs V.1 V.2 xv)),(29,(.pbox (.leaf (.sl .byte)) s29 none))]))=((qca V) n) from by
   funext xv s29
   exact (qmK V) x0 x1 n xv s29]
  all_goals kernel_rfl]
 kernel_rfl
theorem qqB:qse G Tryz.prog 219 s_z219:=by
 refine qdx G_stays (E:=qfc) (fn:=Tryz.f219) (c:=qtR) (qr rfl qfa) (fun w S hg=>⟨⟨(qa (qle w S hg) qd),fun f sp h=>qcg f sp h w S⟩,qcj w S hg,(fun _ _ h=>by cases h),(fun f sp h=>qdi f sp h),(fun f it h=>qdj f it h),(fun t kt vt h=>qcn t kt vt h)⟩) follows Tryz.func219 (by kernel_rfl) (by kernel_rfl) (by kernel_rfl) ?_
 intro avs r h
 unfold s_z219 at h
 split at h
 ·rename_i s V x _
  simp only [Prod.mk.injEq] at h
  obtain ⟨hp,rfl⟩:=h
  obtain ⟨n,hn⟩:=qzW ⟨s,V⟩ _ _ hp
  exact ⟨n,(qIe ⟨s,V⟩ n _ _).trans hn⟩
 ·cases h
theorem qtU:qFT G Tryz.prog 219 qBz:=qpP qqB (enters_of Tryz.func219 (by kernel_rfl) rfl) (fun s V x x' y h=>by
 obtain ⟨h1,h2⟩:=Prod.mk.inj h
 subst h2
 refine ⟨_,_,Prod.ext h1 rfl⟩)
def qIf:EnvP:=eQ [] 4 (none) nC nC (fun x=>if x=1 then some (.leaf (.sl .byte)) else none)
def qIg:Code:=cO Tryz.f188
def qKW:Array ResultVar:=Tryz.f188.results
theorem qIh (n:Nat) (s0:LU) (o0:Lab):evFnR qIf n qIg qKW [.dat (.sl .byte) s0 o0]=qJs n s0:=by
 kernel_rfl
theorem qtV:qCJ G Tryz.prog 188 s_z188:=by
 refine qgB G_stays (E:=qIf) (fn:=Tryz.f188) (c:=qIg) (qr rfl qfa) (fun w S hg=>⟨⟨qd,fun f sp h=>qcg f sp h w S⟩,qcj w S hg,(fun _ _ h=>by cases h),(fun f sp h=>qdi f sp h),(fun f it h=>qdj f it h),(fun t kt vt h=>qcn t kt vt h)⟩) follows Tryz.func188 (by kernel_rfl) (by kernel_rfl) (by kernel_rfl) ?_
 intro avs r h
 unfold s_z188 at h
 split at h
 ·simp only [Prod.mk.injEq,true_and] at h
  subst h
  exact ⟨0,qIh 0 _ _⟩
 ·cases h
def qIi:EnvP:=⟨⟨tiOf tis,fnsOf [],cnsOf [],[],39,(fun x=>if x=2000005 then some [4,5,6] else none),(fun x=>if x=0 then some [4,6] else if x=1 then some [1043,1044,1045] else none),some [1000002,3]⟩,(fun x=>if x=4 then some (.osl 5 .byte) else if x=5 then some (.leaf (.int .i64)) else if x=6 then some (.leaf (.int .i64)) else if x=25 then some (.osl 5 .byte) else if x=31 then some (.osl 5 .byte) else none),fun _=>none,fun _=>[],fun _=>none,(fun x=>if x=188 then some s_z188 else none),(fun x=>if x=219 then some qBz else none),fun _=>none⟩
def qIj:Code:=cO Tryz.f143
def qKX:Array ResultVar:=Tryz.f143.results
theorem qIk (n:Nat) (s0:LU) (o0:Lab):evFnP qIi n qIj qKX [.dat (.sl .byte) s0 o0]=qwq n s0:=by
 kernel_rfl
theorem qtW:qe G Tryz.prog 143 s_z143:=by
 refine qP G_stays (E:=qIi) (fn:=Tryz.f143) (c:=qIj) (qr rfl qfa) (fun w S hg=>⟨⟨qd,fun f sp h=>qcg f sp h w S⟩,qcj w S hg,(fun _ _ h=>by cases h),(fun f sp h=>(qrm (qtV w S hg) qdi) f sp h),(fun f it h=>(qCp (qtU w S hg) qdj) f it h),(fun t kt vt h=>qcn t kt vt h)⟩) follows Tryz.func143 (by kernel_rfl) (by kernel_rfl) (by kernel_rfl) ?_
 intro avs r h
 unfold s_z143 at h
 split at h
 ·obtain ⟨hp,rfl⟩:=Prod.mk.inj h
  obtain ⟨n,hn⟩:=qzY _ hp
  exact ⟨n,_,(qIk n _ _).trans hn,.inl rfl⟩
 ·cases h
def E_z98:EnvP:=eQ [(143,s_z143)] 11 (some [2]) nC nC nP
def C_z98:Code:=cO Tryz.f98
def R_z98:Array ResultVar:=Tryz.f98.results
theorem qKY (n:Nat) (s0:LU) (o0:Lab):evFnP E_z98 n C_z98 R_z98 [.dat (.sl .byte) s0 o0]=qEv n s0:=by
 kernel_rfl
theorem qyE:qe G Tryz.prog 98 s_z98:=by
 refine sQ (E:=E_z98) (c:=C_z98) rfl (fun w S hg=>(qa (qtW w S hg) qd)) Tryz.func98 ?_
 intro avs r h
 unfold s_z98 at h
 split at h
 ·obtain ⟨hp,rfl⟩:=Prod.mk.inj h
  obtain ⟨n,hn⟩:=qDV _ hp
  exact ⟨n,_,(qKY n _ _).trans hn,.inl rfl⟩
 ·cases h
def qIl:EnvP:=eQ [(126,s_z126),(129,s_z129)] 23 (some [2,3]) nC (fun x=>if x=0 then some [] else none) nP
def qIm:Code:=cO Tryz.f237
def qKZ:Array ResultVar:=Tryz.f237.results
theorem qIn (n:Nat) (c0:UInt8) (o0:Lab):evFnP qIl n qIm qKZ [.dat .byte c0 o0]=qwr n c0:=by
 kernel_rfl
theorem qtX:qe G Tryz.prog 237 s_z237:=by
 refine sQ (E:=qIl) (c:=qIm) rfl (fun w S hg=>(qa (qkW w S hg) (qa (qhd w S hg) qd))) Tryz.func237 ?_
 intro avs r h
 unfold s_z237 at h
 split at h <;> cases h
 obtain ⟨n,hn⟩:=qAY _
 exact ⟨n,_,(qIn n _ _).trans hn,.inl rfl⟩
def qIo:EnvP:=eQ [(237,s_z237)] 31 (some [4,5]) nC nC nP
def qIp:Code:=cO Tryz.f220
def qLa:Array ResultVar:=Tryz.f220.results
theorem qIq (n:Nat) (a0:UInt8) (o0:Lab) (b1:UInt8) (o1:Lab):evFnP qIo n qIp qLa [.dat .byte a0 o0,.dat .byte b1 o1]=qws n a0 b1:=by
 kernel_rfl
theorem qtY:qe G Tryz.prog 220 s_z220:=by
 refine sQ (E:=qIo) (c:=qIp) rfl (fun w S hg=>(qa (qtX w S hg) qd)) Tryz.func220 ?_
 intro avs r h
 unfold s_z220 at h
 split at h <;> cases h
 obtain ⟨n,hn⟩:=qBc _ _
 exact ⟨n,_,(qIq n _ _ _ _).trans hn,.inl rfl⟩
def qIr:EnvP:=eQ [(220,s_z220)] 38 (some [6,7]) nC nC nP
def qIs:Code:=cO Tryz.f189
def qLb:Array ResultVar:=Tryz.f189.results
theorem qIt (n:Nat) (s0:LU) (o0:Lab) (at1:Int) (o1:Lab) (sign2:UInt8) (o2:Lab):evFnP qIr n qIs qLb [.dat (.sl .byte) s0 o0,.dat (.int .i64) at1 o1,.dat .byte sign2 o2]=qwt n s0 at1 sign2:=by
 kernel_rfl
theorem qtZ:qe G Tryz.prog 189 s_z189:=by
 refine sQ (E:=qIr) (c:=qIs) rfl (fun w S hg=>(qa (qtY w S hg) qd)) Tryz.func189 ?_
 intro avs r h
 unfold s_z189 at h
 split at h
 ·obtain ⟨hp,rfl⟩:=Prod.mk.inj h
  obtain ⟨n,hn⟩:=qBd _ _ _ hp
  exact ⟨n,_,(qIt n _ _ _ _ _ _).trans hn,.inl rfl⟩
 ·cases h
def qbt:EnvP:=eQ [(189,s_z189)] 46 (some [2,3]) (fun x=>if x=4 then some [0,4,5,6] else none) (fun x=>if x=0 then some [4,5] else if x=1 then some [0,4,5,6] else if x=2 then some [0,4,5,6,7] else none) nP
def qjK:Code:=cO Tryz.f144
def qua:Array ResultVar:=Tryz.f144.results
theorem qub (K:Ex→Fr→OA):∀ (n:Nat) (s0:LU) (out4:LU) (strange5:Int) (at6:Int),evLP qbt n (sub qjK [1,0,1,1,1,1,0,0,0]) K (frOf [(0,(.dat (.sl .byte) s0 none)),(4,(.dat (.sl .byte) out4 (some (4,5)))),(5,(.dat (.int .i64) strange5 none)),(6,(.dat (.int .i64) at6 none))])=qhB (fun out4 strange5=>K (.exit 0) (frOf [(4,(.dat (.sl .byte) out4 (some (4,5)))),(5,(.dat (.int .i64) strange5 none))])) n s0 out4 strange5 at6:=by
 intro n
 induction n with
 | zero=>intros; rfl
 | succ n IH =>
 intro s0 out4 strange5 at6
 have ih:(fun s0 out4 strange5 at6=>evLP qbt n (sub qjK [1,0,1,1,1,1,0,0,0]) K (frOf [(0,(.dat (.sl .byte) s0 none)),(4,(.dat (.sl .byte) out4 (some (4,5)))),(5,(.dat (.int .i64) strange5 none)),(6,(.dat (.int .i64) at6 none))]))=qhB (fun out4 strange5=>K (.exit 0) (frOf [(4,(.dat (.sl .byte) out4 (some (4,5)))),(5,(.dat (.int .i64) strange5 none))])) n:=by
  funext s0 out4 strange5 at6
  exact IH s0 out4 strange5 at6
 show _=qgw (fun out4 strange5=>K (.exit 0) (frOf [(4,(.dat (.sl .byte) out4 (some (4,5)))),(5,(.dat (.int .i64) strange5 none))])) (qhB (fun out4 strange5=>K (.exit 0) (frOf [(4,(.dat (.sl .byte) out4 (some (4,5)))),(5,(.dat (.int .i64) strange5 none))])) n) n s0 out4 strange5 at6
 rw [← ih]
 kernel_rfl
theorem qmL (n:Nat) (out4:LU) (strange5:Int):(qb 0 (qbt.cutb 0) (kSeq (evCP qbt (evLP qbt n) (sub qjK [1,0,1,1,1,1,1])) (kFnP qbt qua))) (.exit 0) (frOf [(4,(.dat (.sl .byte) out4 (some (4,5)))),(5,(.dat (.int .i64) strange5 none))])=qev n out4 strange5:=by
 kernel_rfl
theorem qIu (n:Nat) (s0:LU) (o0:Lab):evFnP qbt n qjK qua [.dat (.sl .byte) s0 o0]=qwu n s0:=by
 unfold qwu
 rw [show qhB (qev n) n=(fun s0 out4 strange5 at6=>evLP qbt n (sub qjK [1,0,1,1,1,1,0,0,0]) (qb 0 (qbt.cutb 0) (kSeq (evCP qbt (evLP qbt n) (sub qjK [1,0,1,1,1,1,1])) (kFnP qbt qua))) (frOf [(0,(.dat (.sl .byte) s0 none)),(4,(.dat (.sl .byte) out4 (some (4,5)))),(5,(.dat (.int .i64) strange5 none)),(6,(.dat (.int .i64) at6 none))])) from by
  funext s0 out4 strange5 at6
  refine Eq.trans ?_ (qub (qb 0 (qbt.cutb 0) (kSeq (evCP qbt (evLP qbt n) (sub qjK [1,0,1,1,1,1,1])) (kFnP qbt qua))) n s0 out4 strange5 at6).symm
  rw [show (fun out4 strange5=>(qb 0 (qbt.cutb 0) (kSeq (evCP qbt (evLP qbt n) (sub qjK [1,0,1,1,1,1,1])) (kFnP qbt qua))) (.exit 0) (frOf [(4,(.dat (.sl .byte) out4 (some (4,5)))),(5,(.dat (.int .i64) strange5 none))]))=(qev n) from by
   funext out4 strange5
   exact qmL n out4 strange5]
  all_goals kernel_rfl]
 kernel_rfl
theorem qlf:qe G Tryz.prog 144 s_z144:=by
 refine sQ (E:=qbt) (c:=qjK) rfl (fun w S hg=>(qa (qtZ w S hg) qd)) Tryz.func144 ?_
 intro avs r h
 unfold s_z144 at h
 split at h
 ·obtain ⟨hp,rfl⟩:=Prod.mk.inj h
  obtain ⟨n,hn⟩:=qzS _ hp
  exact ⟨n,_,(qIu n _ _).trans hn,.inl rfl⟩
 ·cases h
def E_z99:EnvP:=eQ [(144,s_z144)] 11 (some [2]) nC nC nP
def C_z99:Code:=cO Tryz.f99
def R_z99:Array ResultVar:=Tryz.f99.results
theorem qLc (n:Nat) (s0:LU) (o0:Lab):evFnP E_z99 n C_z99 R_z99 [.dat (.sl .byte) s0 o0]=qEw n s0:=by
 kernel_rfl
theorem qyF:qe G Tryz.prog 99 s_z99:=by
 refine sQ (E:=E_z99) (c:=C_z99) rfl (fun w S hg=>(qa (qlf w S hg) qd)) Tryz.func99 ?_
 intro avs r h
 unfold s_z99 at h
 split at h
 ·obtain ⟨hp,rfl⟩:=Prod.mk.inj h
  obtain ⟨n,hn⟩:=qDP _ hp
  exact ⟨n,_,(qLc n _ _).trans hn,.inl rfl⟩
 ·cases h
def E_z54:EnvP:=eQ [(98,s_z98),(99,s_z99)] 12 (some [2]) nC nC nP
def C_z54:Code:=cO Tryz.f54
def R_z54:Array ResultVar:=Tryz.f54.results
theorem qLd (n:Nat) (w0:LU×(Int×(LU×Unit))) (o0:Lab):evFnP E_z54 n C_z54 R_z54 [.dat (.pair (.sl .byte) (.pair (.int .i64) (.pair (.sl .byte) .unit))) w0 o0]=qEx n w0:=by
 kernel_rfl
theorem qyG:qe G Tryz.prog 54 s_z54:=by
 refine sQ (E:=E_z54) (c:=C_z54) rfl (fun w S hg=>(qa (qyE w S hg) (qa (qyF w S hg) qd))) Tryz.func54 ?_
 intro avs r h
 unfold s_z54 at h
 split at h
 ·obtain ⟨hp,rfl⟩:=Prod.mk.inj h
  obtain ⟨n,hn⟩:=qDT _ hp
  exact ⟨n,_,(qLd n _ _).trans hn,.inl rfl⟩
 ·cases h
def E_z19:EnvP:=eQ [(11,s_z11),(52,s_z52),(53,s_z53),(54,s_z54)] 18 (some [1000002,3]) nC nC nP
def C_z19:Code:=cO Tryz.f19
def R_z19:Array ResultVar:=Tryz.f19.results
theorem qLe (n:Nat) (s0:LU) (o0:Lab):evFnP E_z19 n C_z19 R_z19 [.dat (.sl .byte) s0 o0]=qEy n s0:=by
 kernel_rfl
theorem qoz:qe G Tryz.prog 19 s_z19:=by
 refine sQ (E:=E_z19) (c:=C_z19) rfl (fun w S hg=>(qa (qgk w S hg) (qa (qyD w S hg) (qa (qoy w S hg) (qa (qyG w S hg) qd))))) Tryz.func19 ?_
 intro avs r h
 unfold s_z19 at h
 split at h
 ·obtain ⟨hp,rfl⟩:=Prod.mk.inj h
  obtain ⟨n,hn⟩:=qDB _ hp
  exact ⟨n,_,(qLe n _ _).trans hn,.inl rfl⟩
 ·cases h
def E_z10:EnvP:=eQ [(14,s_z14),(15,s_z15),(17,s_z17),(19,s_z19)] 47 (some [0]) nC nC nP
def C_z10:Code:=cO Tryz.f10
def R_z10:Array ResultVar:=Tryz.f10.results
theorem qLf (n:Nat)  : evFnP E_z10 n C_z10 R_z10 []=qJt n  := by
 kernel_rfl
theorem qyH:qe G Tryz.prog 10 s_z10:=by
 refine sQ (E:=E_z10) (c:=C_z10) rfl (fun w S hg=>(qa (qyi w S hg) (qa (qyt w S hg) (qa (qyu w S hg) (qa (qoz w S hg) qd))))) Tryz.func10 ?_
 intro avs r h
 unfold s_z10 at h
 split at h <;> cases h
 obtain ⟨n,hn⟩:=qDJ
 exact ⟨n,_,(qLf n ).trans hn,.inl rfl⟩
end
end Go.Av
