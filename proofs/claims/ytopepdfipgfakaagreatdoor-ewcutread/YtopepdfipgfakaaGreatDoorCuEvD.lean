import Derived.Test.YtopepdfipgfakaaGreatDoorCuEvC
import Derived.Test.YtopepdfipgfakaaGreatDoorCuC
import Derived.Test.YtopepdfipgfakaaGreatDoorProg
import Derived.KernelRfl
namespace Go.Av
set_option linter.unusedSimpArgs false
noncomputable section
open Go.Proofs
set_option maxRecDepth 100000
set_option linter.unusedVariables false
def qjK:EnvP:=eQ [(184,s_z184)] 25 (some [2,3]) (fun x=>if x=2 then some [0,4] else none) (fun x=>if x=0 then some [] else if x=1 then some [0,4] else none) nP
def qsB:Code:=cO Tryz.f146
def qJo:Array ResultVar:=Tryz.f146.results
noncomputable def qjL (K:Ex→Fr→Option AV):=fun s2 s3=>K .ret (frOf [(2,(.dat (.int .i64) s2 none)),(3,(.dat .bool s3 none))])
def qjM (n:Nat):Ex→Fr→Option AV:=qo 0 (qjK.cutb 0) (kSeq (evCP qjK (evLP qjK n) (sub qsB [1,1])) (kFnP qjK qJo))
def qny (c0:UInt8) (n4:Int):Fr:=frOf [(0,(.dat .byte c0 none)),(4,(.dat (.int .i64) n4 none))]
theorem qvw (K:Ex→Fr→Option AV):∀ (n:Nat) (c0:UInt8) (n4:Int),evLP qjK n (sub qsB [1,0,1,0,0]) K (qny c0 n4)=qdY (qjL K) (K (.exit 0) (frOf [])) n c0 n4:=by
 intro n
 induction n with
 | zero=>intros; rfl
 | succ n IH =>
 intro c0 n4
 have ih:(fun c0 n4=>evLP qjK n (sub qsB [1,0,1,0,0]) K (qny c0 n4))=qdY (qjL K) (K (.exit 0) (frOf [])) n:=by
  funext c0 n4
  exact IH c0 n4
 show _=qcu (qjL K) (K (.exit 0) (frOf [])) (qdY (qjL K) (K (.exit 0) (frOf [])) n) n c0 n4
 rw [← ih]
 kernel_rfl
theorem qnz (n:Nat)  : (qjM n) (.exit 0) (frOf [])=qdZ n  := by
 kernel_rfl
theorem qJp (n:Nat) (c0:UInt8) (o0:Lab):evFnP qjK n qsB qJo [.dat .byte c0 o0]=qxu n c0:=by
 unfold qxu
 rw [show qdY qhk (qdZ n) n=(fun c0 n4=>evLP qjK n (sub qsB [1,0,1,0,0]) (qjM n) (qny c0 n4)) from by
  funext c0 n4
  refine Eq.trans ?_ (qvw (qjM n) n c0 n4).symm
  rw [show ((qjM n) (.exit 0) (frOf []))=(qdZ n) from by
   exact qnz n ]
  all_goals kernel_rfl]
 kernel_rfl
theorem qvx:qe Gc Tryz.prog 146 s_z146:=by
 refine sQ (E:=qjK) (c:=qsB) rfl (fun w S hg=>(qb (qvv w S hg) qc)) Tryz.func146 ?_
 intro avs r h
 unfold s_z146 at h
 split at h <;> cases h
 obtain ⟨n,hn⟩:=qCg _
 exact ⟨n,_,(qJp n _ _).trans hn,.inl rfl⟩
def qJq:EnvP:=eQ [(146,s_z146)] 58 (some [6,7]) nC nC nP
def qJr:Code:=cO Tryz.f103
def qNE:Array ResultVar:=Tryz.f103.results
theorem qJs (n:Nat) (s0:List UInt8) (o0:Lab) (at1:Int) (o1:Lab) (sign2:UInt8) (o2:Lab):evFnP qJq n qJr qNE [.dat (.sl .byte) s0 o0,.dat (.int .i64) at1 o1,.dat .byte sign2 o2]=qxv n s0 at1 sign2:=by
 kernel_rfl
theorem qvy:qe Gc Tryz.prog 103 s_z103:=by
 refine sQ (E:=qJq) (c:=qJr) rfl (fun w S hg=>(qb (qvx w S hg) qc)) Tryz.func103 ?_
 intro avs r h
 unfold s_z103 at h
 split at h
 ·obtain ⟨hp,rfl⟩:=Prod.mk.inj h
  obtain ⟨n,hn⟩:=qCj _ _ _ hp
  exact ⟨n,_,(qJs n _ _ _ _ _ _).trans hn,.inl rfl⟩
 ·cases h
def E_z56:EnvP:=eQ [(103,s_z103)] 58 (some [2,3]) (fun x=>if x=4 then some [0,4,5,6] else none) (fun x=>if x=0 then some [4,5] else if x=1 then some [0,4,5,6] else if x=2 then some [0,4,5,6] else none) nP
def C_z56:Code:=cO Tryz.f56
def R_z56:Array ResultVar:=Tryz.f56.results
noncomputable def qlG (K:Ex→Fr→Option AV):=fun out4 strange5=>K (.exit 0) (frOf [(4,(.dat (.sl .byte) out4 (some (4,5)))),(5,(.dat (.int .i64) strange5 none))])
def qpN (n:Nat):Ex→Fr→Option AV:=qo 0 (E_z56.cutb 0) (kSeq (evCP E_z56 (evLP E_z56 n) (sub C_z56 [1,1,1,1])) (kFnP E_z56 R_z56))
def qvz (s0:List UInt8) (out4:List UInt8) (strange5:Int) (i6:Int):Fr:=frOf [(0,(.dat (.sl .byte) s0 none)),(4,(.dat (.sl .byte) out4 (some (4,5)))),(5,(.dat (.int .i64) strange5 none)),(6,(.dat (.int .i64) i6 none))]
theorem qAG (K:Ex→Fr→Option AV):∀ (n:Nat) (s0:List UInt8) (out4:List UInt8) (strange5:Int) (i6:Int),evLP E_z56 n (sub C_z56 [1,1,1,0,1,0,0]) K (qvz s0 out4 strange5 i6)=qoh (qlG K) n s0 out4 strange5 i6:=by
 intro n
 induction n with
 | zero=>intros; rfl
 | succ n IH =>
 intro s0 out4 strange5 i6
 have ih:(fun s0 out4 strange5 i6=>evLP E_z56 n (sub C_z56 [1,1,1,0,1,0,0]) K (qvz s0 out4 strange5 i6))=qoh (qlG K) n:=by
  funext s0 out4 strange5 i6
  exact IH s0 out4 strange5 i6
 show _=qky (qlG K) (qoh (qlG K) n) n s0 out4 strange5 i6
 rw [← ih]
 kernel_rfl
theorem qsC (n:Nat) (out4:List UInt8) (strange5:Int):(qpN n) (.exit 0) (frOf [(4,(.dat (.sl .byte) out4 (some (4,5)))),(5,(.dat (.int .i64) strange5 none))])=qhl n out4 strange5:=by
 kernel_rfl
theorem qNF (n:Nat) (s0:List UInt8) (o0:Lab):evFnP E_z56 n C_z56 R_z56 [.dat (.sl .byte) s0 o0]=qGi n s0:=by
 unfold qGi
 rw [show qoh (qhl n) n=(fun s0 out4 strange5 i6=>evLP E_z56 n (sub C_z56 [1,1,1,0,1,0,0]) (qpN n) (qvz s0 out4 strange5 i6)) from by
  funext s0 out4 strange5 i6
  refine Eq.trans ?_ (qAG (qpN n) n s0 out4 strange5 i6).symm
  rw [show (qlG (qpN n))=(qhl n) from by
   funext out4 strange5
   exact qsC n out4 strange5]
  all_goals kernel_rfl]
 kernel_rfl
theorem qpO:qe Gc Tryz.prog 56 s_z56:=by
 refine sQ (E:=E_z56) (c:=C_z56) rfl (fun w S hg=>(qb (qvy w S hg) qc)) Tryz.func56 ?_
 intro avs r h
 unfold s_z56 at h
 split at h
 ·obtain ⟨hp,rfl⟩:=Prod.mk.inj h
  obtain ⟨n,hn⟩:=qHn _ hp
  exact ⟨n,_,(qNF n _ _).trans hn,.inl rfl⟩
 ·cases h
def E_z20:EnvP:=eQ [(12,s_z12),(23,s_z23),(26,s_z26),(55,s_z55),(56,s_z56)] 33 (some [1000002,3]) nC nC nP
def C_z20:Code:=cO Tryz.f20
def R_z20:Array ResultVar:=Tryz.f20.results
theorem qNG (n:Nat) (s0:List UInt8) (o0:Lab):evFnP E_z20 n C_z20 R_z20 [.dat (.sl .byte) s0 o0]=qGj n s0:=by
 kernel_rfl
theorem qAH:qe Gc Tryz.prog 20 s_z20:=by
 refine sQ (E:=E_z20) (c:=C_z20) rfl (fun w S hg=>(qb (qjo w S hg) (qb (qpK w S hg) (qb (qAE w S hg) (qb (qAF w S hg) (qb (qpO w S hg) qc)))))) Tryz.func20 ?_
 intro avs r h
 unfold s_z20 at h
 split at h
 ·obtain ⟨hp,rfl⟩:=Prod.mk.inj h
  obtain ⟨n,hn⟩:=qHu _ hp
  exact ⟨n,_,(qNG n _ _).trans hn,.inl rfl⟩
 ·cases h
def E_z21:EnvP:=eQ [] 26 (some [4]) (fun x=>if x=4 then some [0,1,5] else none) (fun x=>if x=0 then some [] else if x=1 then some [0,1,5] else none) nP
def C_z21:Code:=cO Tryz.f21
def R_z21:Array ResultVar:=Tryz.f21.results
noncomputable def qpP (K:Ex→Fr→Option AV):=fun s4=>K .ret (frOf [(4,(.dat .bool s4 none))])
def qpQ (n:Nat):Ex→Fr→Option AV:=qo 0 (E_z21.cutb 0) (kSeq (evCP E_z21 (evLP E_z21 n) (sub C_z21 [1,1,1])) (kFnP E_z21 R_z21))
def qvA (a0:List Int) (b1:List Int) (i5:Int):Fr:=frOf [(0,(.dat (.sl (.int .i32)) a0 none)),(1,(.dat (.sl (.int .i32)) b1 none)),(5,(.dat (.int .i64) i5 none))]
theorem qAI (K:Ex→Fr→Option AV):∀ (n:Nat) (a0:List Int) (b1:List Int) (i5:Int),evLP E_z21 n (sub C_z21 [1,1,0,1,0,0]) K (qvA a0 b1 i5)=qkz (qpP K) (K (.exit 0) (frOf [])) n a0 b1 i5:=by
 intro n
 induction n with
 | zero=>intros; rfl
 | succ n IH =>
 intro a0 b1 i5
 have ih:(fun a0 b1 i5=>evLP E_z21 n (sub C_z21 [1,1,0,1,0,0]) K (qvA a0 b1 i5))=qkz (qpP K) (K (.exit 0) (frOf [])) n:=by
  funext a0 b1 i5
  exact IH a0 b1 i5
 show _=qeO (qpP K) (K (.exit 0) (frOf [])) (qkz (qpP K) (K (.exit 0) (frOf [])) n) n a0 b1 i5
 rw [← ih]
 kernel_rfl
theorem qsD (n:Nat)  : (qpQ n) (.exit 0) (frOf [])=qkA n  := by
 kernel_rfl
theorem qNH (n:Nat) (a0:List Int) (o0:Lab) (b1:List Int) (o1:Lab):evFnP E_z21 n C_z21 R_z21 [.dat (.sl (.int .i32)) a0 o0,.dat (.sl (.int .i32)) b1 o1]=qBN n a0 b1:=by
 unfold qBN
 rw [show qkz qio (qkA n) n=(fun a0 b1 i5=>evLP E_z21 n (sub C_z21 [1,1,0,1,0,0]) (qpQ n) (qvA a0 b1 i5)) from by
  funext a0 b1 i5
  refine Eq.trans ?_ (qAI (qpQ n) n a0 b1 i5).symm
  rw [show ((qpQ n) (.exit 0) (frOf []))=(qkA n) from by
   exact qsD n ]
  all_goals kernel_rfl]
 kernel_rfl
theorem qAJ:qe Gc Tryz.prog 21 s_z21:=by
 refine sQ (E:=E_z21) (c:=C_z21) rfl (fun w S hg=>qc) Tryz.func21 ?_
 intro avs r h
 unfold s_z21 at h
 split at h
 ·obtain ⟨hp,rfl⟩:=Prod.mk.inj h
  obtain ⟨n,hn⟩:=qHj _ _ hp
  exact ⟨n,_,(qNH n _ _ _ _).trans hn,.inl rfl⟩
 ·cases h
def E_z61:EnvP:=eQ [(101,s_z101),(102,s_z102)] 51 (some [1000002,3]) (fun x=>if x=3 then some [0,4,5] else none) (fun x=>if x=0 then some [0,4] else if x=1 then some [0,4,5] else none) nP
def C_z61:Code:=cO Tryz.f61
def R_z61:Array ResultVar:=Tryz.f61.results
noncomputable def qlH (K:Ex→Fr→Option AV):=fun s0 end4=>K (.exit 0) (frOf [(0,(.dat (.sl .byte) s0 none)),(4,(.dat (.int .i64) end4 none))])
def qpR (n:Nat):Ex→Fr→Option AV:=qo 0 (E_z61.cutb 0) (kSeq (evCP E_z61 (evLP E_z61 n) (sub C_z61 [1,1,1])) (kFnP E_z61 R_z61))
def qvB (s0:List UInt8) (end4:Int) (k5:Int):Fr:=frOf [(0,(.dat (.sl .byte) s0 none)),(4,(.dat (.int .i64) end4 none)),(5,(.dat (.int .i64) k5 none))]
theorem qAK (K:Ex→Fr→Option AV):∀ (n:Nat) (s0:List UInt8) (end4:Int) (k5:Int),evLP E_z61 n (sub C_z61 [1,1,0,1,0,0]) K (qvB s0 end4 k5)=qhW (qlH K) n s0 end4 k5:=by
 intro n
 induction n with
 | zero=>intros; rfl
 | succ n IH =>
 intro s0 end4 k5
 have ih:(fun s0 end4 k5=>evLP E_z61 n (sub C_z61 [1,1,0,1,0,0]) K (qvB s0 end4 k5))=qhW (qlH K) n:=by
  funext s0 end4 k5
  exact IH s0 end4 k5
 show _=qeP (qlH K) (qhW (qlH K) n) n s0 end4 k5
 rw [← ih]
 kernel_rfl
theorem qsE (n:Nat) (s0:List UInt8) (end4:Int):(qpR n) (.exit 0) (frOf [(0,(.dat (.sl .byte) s0 none)),(4,(.dat (.int .i64) end4 none))])=qaJ n s0 end4:=by
 kernel_rfl
theorem qNI (n:Nat) (s0:List UInt8) (o0:Lab):evFnP E_z61 n C_z61 R_z61 [.dat (.sl .byte) s0 o0]=qGk n s0:=by
 unfold qGk
 rw [show qhW (qaJ n) n=(fun s0 end4 k5=>evLP E_z61 n (sub C_z61 [1,1,0,1,0,0]) (qpR n) (qvB s0 end4 k5)) from by
  funext s0 end4 k5
  refine Eq.trans ?_ (qAK (qpR n) n s0 end4 k5).symm
  rw [show (qlH (qpR n))=(qaJ n) from by
   funext s0 end4
   exact qsE n s0 end4]
  all_goals kernel_rfl]
 kernel_rfl
theorem qAL:qe Gc Tryz.prog 61 s_z61:=by
 refine sQ (E:=E_z61) (c:=C_z61) rfl (fun w S hg=>(qb (qlE w S hg) (qb (qlF w S hg) qc))) Tryz.func61 ?_
 intro avs r h
 unfold s_z61 at h
 split at h
 ·obtain ⟨hp,rfl⟩:=Prod.mk.inj h
  obtain ⟨n,hn⟩:=qHr _ hp
  exact ⟨n,_,(qNI n _ _).trans hn,.inl rfl⟩
 ·cases h
def E_z62:EnvP:=eQ [(56,s_z56),(82,s_z82)] 32 (some [2]) (fun x=>if x=2 then some [0,3] else none) (fun x=>if x=0 then some [0] else if x=1 then some [0,3] else none) nP
def C_z62:Code:=cO Tryz.f62
def R_z62:Array ResultVar:=Tryz.f62.results
noncomputable def qlI (K:Ex→Fr→Option AV):=fun s0=>K (.exit 0) (frOf [(0,(.dat (.sl .byte) s0 none))])
noncomputable def qpS (K:Ex→Fr→Option AV):=fun s2=>K .ret (frOf [(2,(.dat (.int .i64) s2 none))])
def qpT (n:Nat):Ex→Fr→Option AV:=qo 0 (E_z62.cutb 0) (kSeq (evCP E_z62 (evLP E_z62 n) (sub C_z62 [1,1])) (kFnP E_z62 R_z62))
def qvC (s0:List UInt8) (i3:Int):Fr:=frOf [(0,(.dat (.sl .byte) s0 none)),(3,(.dat (.int .i64) i3 none))]
theorem qAM (K:Ex→Fr→Option AV):∀ (n:Nat) (s0:List UInt8) (i3:Int),evLP E_z62 n (sub C_z62 [1,0,1,0,0]) K (qvC s0 i3)=qoi (qpS K) (qlI K) n s0 i3:=by
 intro n
 induction n with
 | zero=>intros; rfl
 | succ n IH =>
 intro s0 i3
 have ih:(fun s0 i3=>evLP E_z62 n (sub C_z62 [1,0,1,0,0]) K (qvC s0 i3))=qoi (qpS K) (qlI K) n:=by
  funext s0 i3
  exact IH s0 i3
 show _=qeQ (qpS K) (qlI K) (qoi (qpS K) (qlI K) n) n s0 i3
 rw [← ih]
 kernel_rfl
theorem qsF (n:Nat) (s0:List UInt8):(qpT n) (.exit 0) (frOf [(0,(.dat (.sl .byte) s0 none))])=qdi n s0:=by
 kernel_rfl
theorem qNJ (n:Nat) (s0:List UInt8) (o0:Lab):evFnP E_z62 n C_z62 R_z62 [.dat (.sl .byte) s0 o0]=qGl n s0:=by
 unfold qGl
 rw [show qoi qfp (qdi n) n=(fun s0 i3=>evLP E_z62 n (sub C_z62 [1,0,1,0,0]) (qpT n) (qvC s0 i3)) from by
  funext s0 i3
  refine Eq.trans ?_ (qAM (qpT n) n s0 i3).symm
  rw [show (qlI (qpT n))=(qdi n) from by
   funext s0
   exact qsF n s0]
  all_goals kernel_rfl]
 kernel_rfl
theorem qAN:qe Gc Tryz.prog 62 s_z62:=by
 refine sQ (E:=E_z62) (c:=C_z62) rfl (fun w S hg=>(qb (qpO w S hg) (qb (qjn w S hg) qc))) Tryz.func62 ?_
 intro avs r h
 unfold s_z62 at h
 split at h
 ·obtain ⟨hp,rfl⟩:=Prod.mk.inj h
  obtain ⟨n,hn⟩:=qHp _ hp
  exact ⟨n,_,(qNJ n _ _).trans hn,.inl rfl⟩
 ·cases h
def E_z25:EnvP:=eQ [(12,s_z12),(57,s_z57),(61,s_z61),(62,s_z62)] 39 (some [2]) nC nC nP
def C_z25:Code:=cO Tryz.f25
def R_z25:Array ResultVar:=Tryz.f25.results
theorem qNK (n:Nat) (s0:List UInt8) (o0:Lab):evFnP E_z25 n C_z25 R_z25 [.dat (.sl .byte) s0 o0]=qGm n s0:=by
 kernel_rfl
theorem qAO:qe Gc Tryz.prog 25 s_z25:=by
 refine sQ (E:=E_z25) (c:=C_z25) rfl (fun w S hg=>(qb (qjo w S hg) (qb (qpJ w S hg) (qb (qAL w S hg) (qb (qAN w S hg) qc))))) Tryz.func25 ?_
 intro avs r h
 unfold s_z25 at h
 split at h
 ·obtain ⟨hp,rfl⟩:=Prod.mk.inj h
  obtain ⟨n,hn⟩:=qHv _ hp
  exact ⟨n,_,(qNK n _ _).trans hn,.inl rfl⟩
 ·cases h
def E_z44:EnvP:=eQ [] 9 (some [2]) nC nC nP
def C_z44:Code:=cO Tryz.f44
def R_z44:Array ResultVar:=Tryz.f44.results
theorem qNL (n:Nat) (n0:Int) (o0:Lab):evFnP E_z44 n C_z44 R_z44 [.dat (.int .i64) n0 o0]=qGn n n0:=by
 kernel_rfl
theorem qpU:qe Gc Tryz.prog 44 s_z44:=by
 refine sQ (E:=E_z44) (c:=C_z44) rfl (fun w S hg=>qc) Tryz.func44 ?_
 intro avs r h
 unfold s_z44 at h
 split at h <;> cases h
 obtain ⟨n,hn⟩:=qGT _
 exact ⟨n,_,(qNL n _ _).trans hn,.inl rfl⟩
def E_z45:EnvP:=eQ [] 8 (some [2]) nC (fun x=>if x=0 then some [] else none) nP
def C_z45:Code:=cO Tryz.f45
def R_z45:Array ResultVar:=Tryz.f45.results
theorem qNM (n:Nat) (n0:Int) (o0:Lab):evFnP E_z45 n C_z45 R_z45 [.dat (.int .i64) n0 o0]=qGo n n0:=by
 kernel_rfl
theorem qpV:qe Gc Tryz.prog 45 s_z45:=by
 refine sQ (E:=E_z45) (c:=C_z45) rfl (fun w S hg=>qc) Tryz.func45 ?_
 intro avs r h
 unfold s_z45 at h
 split at h <;> cases h
 obtain ⟨n,hn⟩:=qGU _
 exact ⟨n,_,(qNM n _ _).trans hn,.inl rfl⟩
def qJt:EnvP:=eQ [] 19 (some [2]) nC (fun x=>if x=0 then some [] else none) nP
def qJu:Code:=cO Tryz.f133
def qNN:Array ResultVar:=Tryz.f133.results
theorem qJv (n:Nat) (charset0:Int) (o0:Lab):evFnP qJt n qJu qNN [.dat (.int .i64) charset0 o0]=qxx n charset0:=by
 kernel_rfl
theorem qvD:qe Gc Tryz.prog 133 s_z133:=by
 refine sQ (E:=qJt) (c:=qJu) rfl (fun w S hg=>qc) Tryz.func133 ?_
 intro avs r h
 unfold s_z133 at h
 split at h <;> cases h
 obtain ⟨n,hn⟩:=qCo _
 exact ⟨n,_,(qJv n _ _).trans hn,.inl rfl⟩
def E_z89:EnvP:=eQ [(133,s_z133)] 12 (some [2]) nC nC nP
def C_z89:Code:=cO Tryz.f89
def R_z89:Array ResultVar:=Tryz.f89.results
theorem qNO (n:Nat) (charset0:Int) (o0:Lab):evFnP E_z89 n C_z89 R_z89 [.dat (.int .i64) charset0 o0]=qGp n charset0:=by
 kernel_rfl
theorem qAP:qe Gc Tryz.prog 89 s_z89:=by
 refine sQ (E:=E_z89) (c:=C_z89) rfl (fun w S hg=>(qb (qvD w S hg) qc)) Tryz.func89 ?_
 intro avs r h
 unfold s_z89 at h
 split at h <;> cases h
 obtain ⟨n,hn⟩:=qGS _
 exact ⟨n,_,(qNO n _ _).trans hn,.inl rfl⟩
def E_z48:EnvP:=eQ [(45,s_z45),(89,s_z89)] 13 (some [4]) nC nC nP
def C_z48:Code:=cO Tryz.f48
def R_z48:Array ResultVar:=Tryz.f48.results
theorem qNP (n:Nat) (charset0:Int) (o0:Lab) (code1:Int) (o1:Lab):evFnP E_z48 n C_z48 R_z48 [.dat (.int .i64) charset0 o0,.dat (.int .i64) code1 o1]=qGq n charset0 code1:=by
 kernel_rfl
theorem qpW:qe Gc Tryz.prog 48 s_z48:=by
 refine sQ (E:=E_z48) (c:=C_z48) rfl (fun w S hg=>(qb (qpV w S hg) (qb (qAP w S hg) qc))) Tryz.func48 ?_
 intro avs r h
 unfold s_z48 at h
 split at h <;> cases h
 obtain ⟨n,hn⟩:=qGV _ _
 exact ⟨n,_,(qNP n _ _ _ _).trans hn,.inl rfl⟩
def E_z17:EnvP:=eQ [(44,s_z44),(48,s_z48)] 11 (some [2]) nC nC nP
def C_z17:Code:=cO Tryz.f17
def R_z17:Array ResultVar:=Tryz.f17.results
theorem qNQ (n:Nat) (charset0:Int) (o0:Lab):evFnP E_z17 n C_z17 R_z17 [.dat (.int .i64) charset0 o0]=qGr n charset0:=by
 kernel_rfl
theorem qAQ:qe Gc Tryz.prog 17 s_z17:=by
 refine sQ (E:=E_z17) (c:=C_z17) rfl (fun w S hg=>(qb (qpU w S hg) (qb (qpW w S hg) qc))) Tryz.func17 ?_
 intro avs r h
 unfold s_z17 at h
 split at h <;> cases h
 obtain ⟨n,hn⟩:=qGW _
 exact ⟨n,_,(qNQ n _ _).trans hn,.inl rfl⟩
def qJw:EnvP:=eQ [] 13 (some [2]) nC (fun x=>if x=0 then some [] else none) nP
def qJx:Code:=cO Tryz.f161
def qNR:Array ResultVar:=Tryz.f161.results
theorem qJy (n:Nat) (charset0:Int) (o0:Lab):evFnP qJw n qJx qNR [.dat (.int .i64) charset0 o0]=qxz n charset0:=by
 kernel_rfl
theorem qlJ:qe Gc Tryz.prog 161 s_z161:=by
 refine sQ (E:=qJw) (c:=qJx) rfl (fun w S hg=>qc) Tryz.func161 ?_
 intro avs r h
 unfold s_z161 at h
 split at h <;> cases h
 obtain ⟨n,hn⟩:=qDg _
 exact ⟨n,_,(qJy n _ _).trans hn,.inl rfl⟩
end
end Go.Av
