import Derived.Test.YtmdadpepccbpcaaGreatDoorPoEvD
import Derived.Test.YtmdadpepccbpcaaGreatDoorPoD
import Derived.Test.YtmdadpepccbpcaaGreatDoorAvE
import Derived.Test.YtmdadpepccbpcaaGreatDoorProg
import Derived.KernelRfl
namespace Go.Av
set_option linter.unusedSimpArgs false
set_option linter.unusedVariables false
section
open UInt8 (ofNat)
noncomputable section
open Go.Proofs
set_option maxRecDepth 100000
set_option linter.unusedVariables false
def E_z8:EnvP:=eQ [(12,s_z12),(13,s_z13),(24,s_z24),(25,s_z25)] 53 (some [2,3,1000004,5]) (fun x=>if x=5 then some [0,6,8] else none) (fun x=>if x=0 then some [0,6] else if x=1 then some [0,6,8] else none) nP
def C_z8:Code:=cO Tryz.f8
def R_z8:Array ResultVar:=Tryz.f8.results
noncomputable def qOi (K:KT):=fun s2 s3 s4 s5=>K .ret (frOf [(2,dc s2),(3,dc s3),(4,da s4),(5,dc s5)])
noncomputable def qOj (K:KT):=fun t0 charset6=>K (.exit 0) (frOf [(0,(.dat (.sl (.int .i32)) t0 none)),(6,dc charset6)])
def qWS (n:Nat):KT:=qf 0 (E_z8.cutb 0) (kSeq (evCP E_z8 (evLP E_z8 n) (sub C_z8 [1,1,1,1])) (kFnP E_z8 R_z8))
def qWT (t0:LI) (charset6:Int) (coding8:Int):Fr:=frOf [(0,(.dat (.sl (.int .i32)) t0 none)),(6,dc charset6),(8,dc coding8)]
theorem qOk (K:KT) (n:Nat):(fun t0 charset6 coding8=>evLP E_z8 n (sub C_z8 [1,1,1,0,1,0,0]) K (qWT t0 charset6 coding8))=z8_l5 (qOi K) (qOj K) n:=by
 induction n
 kernel_rfl;rename_i n ih;show _=qkM (qOi K) (qOj K) (z8_l5 (qOi K) (qOj K) n) n;rw[← ih];kernel_rfl
theorem z8_ev (n:Nat) (t0:LI) (o0:Lab):evFnP E_z8 n C_z8 R_z8 [.dat (.sl (.int .i32)) t0 o0]=z8_sh n t0:=by
 unfold z8_sh;rw[(Eq.trans (by kernel_rfl) (qOk (qWS n) n).symm:z8_l5 qmz (qjE n) n=_)];kernel_rfl
theorem qAD:gG 8 s_z8:=sQ (E:=E_z8) (c:=C_z8) rfl (fC qlV (fC qtB (fC qGF (fC qGH fN)))) Tryz.func8 fun avs r h=>by
 unfold s_z8 at h;split at h
 ·obtain⟨hp,rfl⟩:=yj h;exact eX (qUx _ hp) fun n=>z8_ev n _ _
 ·cases h
def E_z11:EnvP:=eQ [] 26 (some [4]) (fun x=>if x=4 then some [0,1,5] else none) (fun x=>if x=0 then some [] else if x=1 then some [0,1,5] else none) nP
def C_z11:Code:=cO Tryz.f11
def R_z11:Array ResultVar:=Tryz.f11.results
noncomputable def qAE (K:KT):=fun s4=>K .ret (frOf [(4,dg s4)])
def qTz (n:Nat):KT:=qf 0 (E_z11.cutb 0) (kSeq (evCP E_z11 (evLP E_z11 n) (sub C_z11 [1,1,1])) (kFnP E_z11 R_z11))
def qTA (a0:LI) (b1:LI) (i5:Int):Fr:=frOf [(0,(.dat (.sl (.int .i32)) a0 none)),(1,(.dat (.sl (.int .i32)) b1 none)),(5,dc i5)]
theorem qGI (K:KT) (n:Nat):(fun a0 b1 i5=>evLP E_z11 n (sub C_z11 [1,1,0,1,0,0]) K (qTA a0 b1 i5))=qpd (qAE K) (K (.exit 0) (frOf [])) n:=by
 induction n
 kernel_rfl;rename_i n ih;show _=qgP (qAE K) (K (.exit 0) (frOf [])) (qpd (qAE K) (K (.exit 0) (frOf [])) n) n;rw[← ih];kernel_rfl
theorem qWU (n:Nat) (a0:LI) (o0:Lab) (b1:LI) (o1:Lab):evFnP E_z11 n C_z11 R_z11 [.dat (.sl (.int .i32)) a0 o0,.dat (.sl (.int .i32)) b1 o1]=qHY n a0 b1:=by
 unfold qHY;rw[(Eq.trans (by kernel_rfl) (qGI (qTz n) n).symm:qpd qBy (qCw n) n=_)];kernel_rfl
theorem qlZ:gG 11 s_z11:=sQ (E:=E_z11) (c:=C_z11) rfl fN Tryz.func11 fun avs r h=>by
 unfold s_z11 at h;split at h
 ·obtain⟨hp,rfl⟩:=yj h;exact eX (qPN _ _ hp) fun n=>qWU n _ _ _ _
 ·cases h
def E_z7:EnvP:=eQ [(8,s_z8),(11,s_z11),(12,s_z12),(13,s_z13)] 60 (some [0]) nC nC nP
def C_z7:Code:=cO Tryz.f7
def R_z7:Array ResultVar:=Tryz.f7.results
theorem z7_ev:evFnP E_z7 300 C_z7 R_z7 []=some (dg true):=by
 kernel_rfl
theorem qOl:gG 7 s_z7:=sQ (E:=E_z7) (c:=C_z7) rfl (fC qAD (fC qlZ (fC qlV (fC qtB fN)))) Tryz.func7 fun avs r h=>by
 unfold s_z7 at h;split at h
 ·simp only[yb,true_and] at h;subst h;exact⟨300,_,z7_ev,.inl rfl⟩
 ·cases h
theorem qGJ:gG 77 s_z77:=sY [] 9 (some [2]) fN Tryz.func77 fun avs r h=>by
 unfold s_z77 at h;split at h <;> cases h
 exact eX (qPx _)
theorem qtC:gG 36 s_z36:=sY [(77,s_z77)] 14 (some [2]) (fC qGJ fN) Tryz.func36 fun avs r h=>by
 unfold s_z36 at h;split at h <;> cases h
 exact eX (qPy _)
theorem qAF:gG 187 s_z187:=sY [] 5 (some [2]) fN Tryz.func187 fun avs r h=>by
 unfold s_z187 at h;split at h <;> cases h
 exact eX (qIy _)
def qrf:EnvP:=eQ [(187,s_z187)] 20 (some [2,3]) (fun x=>if x=2 then some [0,4] else none) (fun x=>if x=0 then some [] else if x=1 then some [0,4] else none) nP
def qGK:Code:=cO Tryz.f132
def qTB:Array ResultVar:=Tryz.f132.results
noncomputable def qrg (K:KT):=fun s2 s3=>K .ret (frOf [(2,dn s2),(3,dg s3)])
def qOm (n:Nat):KT:=qf 0 (qrf.cutb 0) (kSeq (evCP qrf (evLP qrf n) (sub qGK [1,1])) (kFnP qrf qTB))
def qOn (c0:Int) (n4:Int):Fr:=frOf [(0,di c0),(4,dc n4)]
theorem qAG (K:KT) (n:Nat):(fun c0 n4=>evLP qrf n (sub qGK [1,0,1,0,0]) K (qOn c0 n4))=qjF (qrg K) (K (.exit 0) (frOf [])) n:=by
 induction n
 kernel_rfl;rename_i n ih;show _=qig (qrg K) (K (.exit 0) (frOf [])) (qjF (qrg K) (K (.exit 0) (frOf [])) n) n;rw[← ih];kernel_rfl
theorem qTC (n:Nat) (c0:Int) (o0:Lab):evFnP qrf n qGK qTB [dm c0 o0]=quv n c0:=by
 unfold quv;rw[(Eq.trans (by kernel_rfl) (qAG (qOm n) n).symm:qjF qmj (quu n) n=_)];kernel_rfl
theorem qoC:gG 132 s_z132:=sQ (E:=qrf) (c:=qGK) rfl (fC qAF fN) Tryz.func132 fun avs r h=>by
 unfold s_z132 at h;split at h <;> cases h
 exact eX (qIz _) fun n=>qTC n _ _
theorem qtD:gG 90 s_z90:=sZ [] 22 (some [2]) nC (fun x=>if x=0 then some [0] else none) nP fN Tryz.func90 fun avs r h=>by
 unfold s_z90 at h;split at h <;> cases h
 exact eX (qPv _)
def qrh:EnvP:=eQ [(90,s_z90)] 20 (some [2,3]) (fun x=>if x=2 then some [0,4] else none) (fun x=>if x=0 then some [] else if x=1 then some [0,4] else none) nP
def qGL:Code:=cO Tryz.f133
def qTD:Array ResultVar:=Tryz.f133.results
noncomputable def qri (K:KT):=fun s2 s3=>K .ret (frOf [(2,dn s2),(3,dg s3)])
def qOo (n:Nat):KT:=qf 0 (qrh.cutb 0) (kSeq (evCP qrh (evLP qrh n) (sub qGL [1,1])) (kFnP qrh qTD))
def qOp (c0:Int) (n4:Int):Fr:=frOf [(0,di c0),(4,dc n4)]
theorem qAH (K:KT) (n:Nat):(fun c0 n4=>evLP qrh n (sub qGL [1,0,1,0,0]) K (qOp c0 n4))=qkO (qri K) (K (.exit 0) (frOf [])) n:=by
 induction n
 kernel_rfl;rename_i n ih;show _=qih (qri K) (K (.exit 0) (frOf [])) (qkO (qri K) (K (.exit 0) (frOf [])) n) n;rw[← ih];kernel_rfl
theorem qTE (n:Nat) (c0:Int) (o0:Lab):evFnP qrh n qGL qTD [dm c0 o0]=quw n c0:=by
 unfold quw;rw[(Eq.trans (by kernel_rfl) (qAH (qOo n) n).symm:qkO qmj (qmB n) n=_)];kernel_rfl
theorem qoD:gG 133 s_z133:=sQ (E:=qrh) (c:=qGL) rfl (fC qtD fN) Tryz.func133 fun avs r h=>by
 unfold s_z133 at h;split at h <;> cases h
 exact eX (qIA _) fun n=>qTE n _ _
theorem qtE:gG 91 s_z91:=sY [] 18 (some [2]) fN Tryz.func91 fun avs r h=>by
 unfold s_z91 at h;split at h <;> cases h
 exact eX (qPw _)
def qrj:EnvP:=eQ [(91,s_z91)] 20 (some [2,3]) (fun x=>if x=2 then some [0,4] else none) (fun x=>if x=0 then some [] else if x=1 then some [0,4] else none) nP
def qGM:Code:=cO Tryz.f134
def qTF:Array ResultVar:=Tryz.f134.results
noncomputable def qrk (K:KT):=fun s2 s3=>K .ret (frOf [(2,dn s2),(3,dg s3)])
def qOq (n:Nat):KT:=qf 0 (qrj.cutb 0) (kSeq (evCP qrj (evLP qrj n) (sub qGM [1,1])) (kFnP qrj qTF))
def qOr (c0:Int) (n4:Int):Fr:=frOf [(0,di c0),(4,dc n4)]
theorem qAI (K:KT) (n:Nat):(fun c0 n4=>evLP qrj n (sub qGM [1,0,1,0,0]) K (qOr c0 n4))=qkP (qrk K) (K (.exit 0) (frOf [])) n:=by
 induction n
 kernel_rfl;rename_i n ih;show _=qii (qrk K) (K (.exit 0) (frOf [])) (qkP (qrk K) (K (.exit 0) (frOf [])) n) n;rw[← ih];kernel_rfl
theorem qTG (n:Nat) (c0:Int) (o0:Lab):evFnP qrj n qGM qTF [dm c0 o0]=quy n c0:=by
 unfold quy;rw[(Eq.trans (by kernel_rfl) (qAI (qOq n) n).symm:qkP qmj (qmD n) n=_)];kernel_rfl
theorem qoE:gG 134 s_z134:=sQ (E:=qrj) (c:=qGM) rfl (fC qtE fN) Tryz.func134 fun avs r h=>by
 unfold s_z134 at h;split at h <;> cases h
 exact eX (qIB _) fun n=>qTG n _ _
theorem qoF:gG 131 s_z131:=sZ [(36,s_z36),(132,s_z132),(133,s_z133),(134,s_z134)] 41 (some [4]) nC (fun x=>if x=0 then some [5] else none) nP (fC qtC (fC qoC (fC qoD (fC qoE fN)))) Tryz.func131 fun avs r h=>by
 unfold s_z131 at h;split at h <;> cases h
 exact eX (qIC _ _)
theorem qAJ:gG 135 s_z135:=sY [(36,s_z36)] 60 (some [2]) (fC qtC fN) Tryz.func135 fun avs r h=>by
 unfold s_z135 at h;split at h <;> cases h
 exact eX (qIx _)
theorem qGN:gG 71 s_z71:=sZ [(131,s_z131),(132,s_z132),(133,s_z133),(134,s_z134),(135,s_z135)] 40 (some [4]) nC (fun x=>if x=0 then some [5] else none) nP (fC qoF (fC qoC (fC qoD (fC qoE (fC qAJ fN))))) Tryz.func71 fun avs r h=>by
 unfold s_z71 at h;split at h <;> cases h
 exact eX (qPA _ _)
def E_z32:EnvP:=eQ [(71,s_z71)] 34 (some [4,5]) (fun x=>if x=5 then some [0,1,6,7] else none) (fun x=>if x=0 then some [6] else if x=1 then some [0,1,6,7] else none) nP
def C_z32:Code:=cO Tryz.f32
def R_z32:Array ResultVar:=Tryz.f32.results
noncomputable def qAK (K:KT):=fun s4 s5=>K .ret (frOf [(4,(db s4 (some (4,5)))),(5,dc s5)])
noncomputable def qAL (K:KT):=fun out6=>K (.exit 0) (frOf [(6,(db out6 (some (6,5))))])
def qTH (n:Nat):KT:=qf 0 (E_z32.cutb 0) (kSeq (evCP E_z32 (evLP E_z32 n) (sub C_z32 [1,1,1,1])) (kFnP E_z32 R_z32))
def qTI (charset0:Int) (t1:LI) (out6:LU) (i7:Int):Fr:=frOf [(0,dc charset0),(1,(.dat (.sl (.int .i32)) t1 none)),(6,(db out6 (some (6,5)))),(7,dc i7)]
theorem qGO (K:KT) (n:Nat):(fun charset0 t1 out6 i7=>evLP E_z32 n (sub C_z32 [1,1,1,0,1,0,0]) K (qTI charset0 t1 out6 i7))=qwB (qAK K) (qAL K) n:=by
 induction n
 kernel_rfl;rename_i n ih;show _=qgR (qAK K) (qAL K) (qwB (qAK K) (qAL K) n) n;rw[← ih];kernel_rfl
theorem qWV (n:Nat) (charset0:Int) (o0:Lab) (t1:LI) (o1:Lab):evFnP E_z32 n C_z32 R_z32 [de charset0 o0,.dat (.sl (.int .i32)) t1 o1]=qHZ n charset0 t1:=by
 unfold qHZ;rw[(Eq.trans (by kernel_rfl) (qGO (qTH n) n).symm:qwB qBM (qmE n) n=_)];kernel_rfl
theorem qGP:gG 32 s_z32:=sQ (E:=E_z32) (c:=C_z32) rfl (fC qGN fN) Tryz.func32 fun avs r h=>by
 unfold s_z32 at h;split at h
 ·obtain⟨hp,rfl⟩:=yj h;exact eX (qPB _ _ hp) fun n=>qWV n _ _ _ _
 ·cases h
def E_z72:EnvP:=eQ [] 56 (some [2]) (fun x=>if x=3 then some [0,3,4] else none) (fun x=>if x=0 then some [3] else if x=1 then some [0,3,4] else none) nP
def C_z72:Code:=cO Tryz.f72
def R_z72:Array ResultVar:=Tryz.f72.results
noncomputable def qAM (K:KT):=fun out3=>K (.exit 0) (frOf [(3,(db out3 (some (3,5))))])
def qTJ (n:Nat):KT:=qf 0 (E_z72.cutb 0) (kSeq (evCP E_z72 (evLP E_z72 n) (sub C_z72 [1,1,1])) (kFnP E_z72 R_z72))
def qTK (s0:LU) (out3:LU) (i4:Int):Fr:=frOf [(0,da s0),(3,(db out3 (some (3,5)))),(4,dc i4)]
theorem qGQ (K:KT) (n:Nat):(fun s0 out3 i4=>evLP E_z72 n (sub C_z72 [1,1,0,1,0,0]) K (qTK s0 out3 i4))=qrU (qAM K) n:=by
 induction n
 kernel_rfl;rename_i n ih;show _=qgS (qAM K) (qrU (qAM K) n) n;rw[← ih];kernel_rfl
theorem qWW (n:Nat) (s0:LU) (o0:Lab):evFnP E_z72 n C_z72 R_z72 [db s0 o0]=qIa n s0:=by
 unfold qIa;rw[(Eq.trans (by kernel_rfl) (qGQ (qTJ n) n).symm:qrU (qrV n) n=_)];kernel_rfl
theorem qGR:gG 72 s_z72:=sQ (E:=E_z72) (c:=C_z72) rfl fN Tryz.func72 fun avs r h=>by
 unfold s_z72 at h;split at h
 ·obtain⟨hp,rfl⟩:=yj h;exact eX (qQA _ hp) fun n=>qWW n _ _
 ·cases h
def qrl:EnvP:=eQ [] 17 (some [4]) (fun x=>if x=2 then some [0,1,5] else none) (fun x=>if x=0 then some [] else if x=1 then some [0,1,5] else none) nP
def qGS:Code:=cO Tryz.f225
def qTL:Array ResultVar:=Tryz.f225.results
noncomputable def qrm (K:KT):=fun s4=>K .ret (frOf [(4,dg s4)])
def qOs (n:Nat):KT:=qf 0 (qrl.cutb 0) (kSeq (evCP qrl (evLP qrl n) (sub qGS [1,1])) (kFnP qrl qTL))
def qOt (s0:LU) (c1:UInt8) (i5:Int):Fr:=frOf [(0,(df s0 none)),(1,dn c1),(5,dc i5)]
theorem qAN (K:KT) (n:Nat):(fun s0 c1 i5=>evLP qrl n (sub qGS [1,0,1,0,0]) K (qOt s0 c1 i5))=qhy (qrm K) (K (.exit 0) (frOf [])) n:=by
 induction n
 kernel_rfl;rename_i n ih;show _=qep (qrm K) (K (.exit 0) (frOf [])) (qhy (qrm K) (K (.exit 0) (frOf [])) n) n;rw[← ih];kernel_rfl
theorem qTM (n:Nat) (s0:LU) (o0:Lab) (c1:UInt8) (o1:Lab):evFnP qrl n qGS qTL [df s0 o0,dp c1 o1]=qpe n s0 c1:=by
 unfold qpe;rw[(Eq.trans (by kernel_rfl) (qAN (qOs n) n).symm:qhy qBy (qmF n) n=_)];kernel_rfl
theorem qAO:gG 225 s_z225:=sQ (E:=qrl) (c:=qGS) rfl fN Tryz.func225 fun avs r h=>by
 unfold s_z225 at h;split at h
 ·obtain⟨hp,rfl⟩:=yj h;exact eX (qIq _ _ hp) fun n=>qTM n _ _ _ _
 ·cases h
def qbP:EnvP:=eQ [(225,s_z225)] 104 (some [2]) nC nC nP
def qcf:Code:=cO Tryz.f188
def qcg:Array ResultVar:=Tryz.f188.results
def resI:OA→Int→Bool
 | some (dc x),v=>x==v
 | _,_=>false
theorem qTN {o:OA} {v:Int} (h:resI o v=true):o=some (dc v):=by
 unfold resI at h;split at h
 ·simp only[beq_iff_eq] at h;subst h;rfl
 ·cases h
theorem qWX:∀ i:Fin 16,resI (evFnP qbP 1 qcf qcg [dp (ofNat (0+i.val)) none]) (z188 (ofNat (0+i.val)))=true:=by decide +kernel
theorem qWY:∀ i:Fin 16,resI (evFnP qbP 1 qcf qcg [dp (ofNat (16+i.val)) none]) (z188 (ofNat (16+i.val)))=true:=by decide +kernel
theorem qWZ:∀ i:Fin 16,resI (evFnP qbP 1 qcf qcg [dp (ofNat (32+i.val)) none]) (z188 (ofNat (32+i.val)))=true:=by decide +kernel
theorem qXa:∀ i:Fin 16,resI (evFnP qbP 1 qcf qcg [dp (ofNat (48+i.val)) none]) (z188 (ofNat (48+i.val)))=true:=by decide +kernel
theorem qXb:∀ i:Fin 16,resI (evFnP qbP 1 qcf qcg [dp (ofNat (64+i.val)) none]) (z188 (ofNat (64+i.val)))=true:=by decide +kernel
theorem qXc:∀ i:Fin 16,resI (evFnP qbP 1 qcf qcg [dp (ofNat (80+i.val)) none]) (z188 (ofNat (80+i.val)))=true:=by decide +kernel
theorem qXd:∀ i:Fin 16,resI (evFnP qbP 1 qcf qcg [dp (ofNat (96+i.val)) none]) (z188 (ofNat (96+i.val)))=true:=by decide +kernel
theorem qXe:∀ i:Fin 16,resI (evFnP qbP 1 qcf qcg [dp (ofNat (112+i.val)) none]) (z188 (ofNat (112+i.val)))=true:=by decide +kernel
theorem qXf:∀ i:Fin 16,resI (evFnP qbP 1 qcf qcg [dp (ofNat (128+i.val)) none]) (z188 (ofNat (128+i.val)))=true:=by decide +kernel
theorem qXg:∀ i:Fin 16,resI (evFnP qbP 1 qcf qcg [dp (ofNat (144+i.val)) none]) (z188 (ofNat (144+i.val)))=true:=by decide +kernel
theorem qTO:∀ i:Fin 16,resI (evFnP qbP 1 qcf qcg [dp (ofNat (160+i.val)) none]) (z188 (ofNat (160+i.val)))=true:=by decide +kernel
theorem qTP:∀ i:Fin 16,resI (evFnP qbP 1 qcf qcg [dp (ofNat (176+i.val)) none]) (z188 (ofNat (176+i.val)))=true:=by decide +kernel
theorem qTQ:∀ i:Fin 16,resI (evFnP qbP 1 qcf qcg [dp (ofNat (192+i.val)) none]) (z188 (ofNat (192+i.val)))=true:=by decide +kernel
theorem qTR:∀ i:Fin 16,resI (evFnP qbP 1 qcf qcg [dp (ofNat (208+i.val)) none]) (z188 (ofNat (208+i.val)))=true:=by decide +kernel
theorem qTS:∀ i:Fin 16,resI (evFnP qbP 1 qcf qcg [dp (ofNat (224+i.val)) none]) (z188 (ofNat (224+i.val)))=true:=by decide +kernel
theorem qTT:∀ i:Fin 16,resI (evFnP qbP 1 qcf qcg [dp (ofNat (240+i.val)) none]) (z188 (ofNat (240+i.val)))=true:=by decide +kernel
theorem qOu:∀ i:Fin 256,resI (evFnP qbP 1 qcf qcg [dp (ofNat (i.val)) none]) (z188 (ofNat (i.val)))=true:=fun ⟨i,hi⟩=>by
 rcases (show i / 16=0∨i / 16=1∨i / 16=2∨i / 16=3∨i / 16=4∨i / 16=5∨i / 16=6∨i / 16=7∨i / 16=8∨i / 16=9∨i / 16=10∨i / 16=11∨i / 16=12∨i / 16=13∨i / 16=14∨i / 16=15 by omega) with e | e | e | e | e | e | e | e | e | e | e | e | e | e | e | e
 ·have h:=qWX ⟨i - 0,by omega⟩;have e2:0+(i - 0)=i:=by omega
  simp only[e2] at h;exact h
 ·have h:=qWY ⟨i - 16,by omega⟩;have e2:16+(i - 16)=i:=by omega
  simp only[e2] at h;exact h
 ·have h:=qWZ ⟨i - 32,by omega⟩;have e2:32+(i - 32)=i:=by omega
  simp only[e2] at h;exact h
 ·have h:=qXa ⟨i - 48,by omega⟩;have e2:48+(i - 48)=i:=by omega
  simp only[e2] at h;exact h
 ·have h:=qXb ⟨i - 64,by omega⟩;have e2:64+(i - 64)=i:=by omega
  simp only[e2] at h;exact h
 ·have h:=qXc ⟨i - 80,by omega⟩;have e2:80+(i - 80)=i:=by omega
  simp only[e2] at h;exact h
 ·have h:=qXd ⟨i - 96,by omega⟩;have e2:96+(i - 96)=i:=by omega
  simp only[e2] at h;exact h
 ·have h:=qXe ⟨i - 112,by omega⟩;have e2:112+(i - 112)=i:=by omega
  simp only[e2] at h;exact h
 ·have h:=qXf ⟨i - 128,by omega⟩;have e2:128+(i - 128)=i:=by omega
  simp only[e2] at h;exact h
 ·have h:=qXg ⟨i - 144,by omega⟩;have e2:144+(i - 144)=i:=by omega
  simp only[e2] at h;exact h
 ·have h:=qTO ⟨i - 160,by omega⟩;have e2:160+(i - 160)=i:=by omega
  simp only[e2] at h;exact h
 ·have h:=qTP ⟨i - 176,by omega⟩;have e2:176+(i - 176)=i:=by omega
  simp only[e2] at h;exact h
 ·have h:=qTQ ⟨i - 192,by omega⟩;have e2:192+(i - 192)=i:=by omega
  simp only[e2] at h;exact h
 ·have h:=qTR ⟨i - 208,by omega⟩;have e2:208+(i - 208)=i:=by omega
  simp only[e2] at h;exact h
 ·have h:=qTS ⟨i - 224,by omega⟩;have e2:224+(i - 224)=i:=by omega
  simp only[e2] at h;exact h
 ·have h:=qTT ⟨i - 240,by omega⟩;have e2:240+(i - 240)=i:=by omega
  simp only[e2] at h;exact h
theorem qTU (c:UInt8) (o:Lab):evFnP qbP 1 qcf qcg [dp c o]=some (de (z188 c) none):=by
 have h:resI (evFnP qbP 1 qcf qcg [dp c none]) (z188 c)=true:=qVo (P:=fun c=>resI (evFnP qbP 1 qcf qcg [dp c none]) (z188 c)=true) qOu c;have e:evFnP qbP 1 qcf qcg [dp c o]=evFnP qbP 1 qcf qcg [dp c none]:=by
  unfold evFnP;have:(fun t=>(([dp c o]:List AV).getD t .bad).strip)=fun t=>(([dp c none]:List AV).getD t .bad).strip:=by
   funext t;match t with
   | 0=>rfl
   | t+1=>rfl
  rw[this];rfl
 rw[e];exact qTN h
theorem qAP:gG 188 s_z188:=sG (E:=qbP) (fun w S hg=>⟨⟨(qF (qAO w S hg) qaE),fun f sp h=>qaD f sp h w S⟩,qaO w S hg,(fun _ _ h=>by cases h),(fun _ _ h=>by cases h),(fun _ _ h=>by cases h),(fun t kt vt h=>qaR t kt vt h)⟩) Tryz.func188 fun avs r h=>by
 unfold s_z188 at h;split at h
 ·simp only[yb,true_and] at h;subst h;exact⟨1,_,qTU _ _,.inl rfl⟩
 ·cases h
theorem qoG:gG 136 s_z136:=sY [(188,s_z188)] 10 (some [4]) (fC qAP fN) Tryz.func136 fun avs r h=>by
 unfold s_z136 at h;split at h <;> cases h
 exact eX (qIr _ _)
theorem qoH:gG 189 s_z189:=sY [] 17 (some [2]) fN Tryz.func189 fun avs r h=>by
 unfold s_z189 at h;split at h
 ·obtain⟨hp,rfl⟩:=yj h;exact eX (qIs _ hp)
 ·cases h
theorem qAQ:gG 137 s_z137:=sY [(189,s_z189)] 20 (some [6]) (fC qoH fN) Tryz.func137 fun avs r h=>by
 unfold s_z137 at h;split at h
 ·obtain⟨hp,rfl⟩:=yj h;exact eX (qIt _ _ _ hp)
 ·cases h
theorem qGT:gG 73 s_z73:=sY [(136,s_z136),(137,s_z137)] 23 (some [4]) (fC qoG (fC qAQ fN)) Tryz.func73 fun avs r h=>by
 unfold s_z73 at h;split at h <;> cases h
 exact eX (qQw _ _)
end
end
end Go.Av
