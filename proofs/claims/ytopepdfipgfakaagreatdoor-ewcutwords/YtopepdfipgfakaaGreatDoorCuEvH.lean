import Derived.Test.YtopepdfipgfakaaGreatDoorCuEvG
import Derived.Test.YtopepdfipgfakaaGreatDoorCuC
import Derived.Test.YtopepdfipgfakaaGreatDoorProg
import Derived.KernelRfl
namespace Go.Av
set_option linter.unusedSimpArgs false
noncomputable section
open Go.Proofs
set_option maxRecDepth 100000
set_option linter.unusedVariables false
def E_z64:EnvP:=eQ [] 22 (some [2]) nC (fun x=>if x=0 then some [0] else none) nP
def C_z64:Code:=cO Tryz.f64
def R_z64:Array ResultVar:=Tryz.f64.results
theorem qLH (n:Nat) (x0:UInt8) (o0:Lab):evFnP E_z64 n C_z64 R_z64 [.dat .byte x0 o0]=qDM n x0:=by
 kernel_rfl
theorem qyW:qe Gc Tryz.prog 64 s_z64:=by
 refine sQ (E:=E_z64) (c:=C_z64) rfl (fun w S hg=>qc) Tryz.func64 ?_
 intro avs r h
 unfold s_z64 at h
 split at h <;> cases h
 obtain ⟨n,hn⟩:=qDX _
 exact ⟨n,_,(qLH n _ _).trans hn,.inl rfl⟩
def qjb:EnvP:=eQ [(64,s_z64)] 20 (some [2,3]) (fun x=>if x=2 then some [0,4] else none) (fun x=>if x=0 then some [] else if x=1 then some [0,4] else none) nP
def qry:Code:=cO Tryz.f169
def qIL:Array ResultVar:=Tryz.f169.results
noncomputable def qjc (K:Ex→Fr→Option AV):=fun s2 s3=>K .ret (frOf [(2,(.dat .byte s2 none)),(3,(.dat .bool s3 none))])
def qjd (n:Nat):Ex→Fr→Option AV:=qm 0 (qjb.cutb 0) (kSeq (evCP qjb (evLP qjb n) (sub qry [1,1])) (kFnP qjb qIL))
def qmC (c0:Int) (n4:Int):Fr:=frOf [(0,(.dat (.int .i32) c0 none)),(4,(.dat (.int .i64) n4 none))]
theorem quR (K:Ex→Fr→Option AV):∀ (n:Nat) (c0:Int) (n4:Int),evLP qjb n (sub qry [1,0,1,0,0]) K (qmC c0 n4)=qgG (qjc K) (K (.exit 0) (frOf [])) n c0 n4:=by
 intro n
 induction n with
 | zero=>intros; rfl
 | succ n IH =>
 intro c0 n4
 have ih:(fun c0 n4=>evLP qjb n (sub qry [1,0,1,0,0]) K (qmC c0 n4))=qgG (qjc K) (K (.exit 0) (frOf [])) n:=by
  funext c0 n4
  exact IH c0 n4
 show _=qfh (qjc K) (K (.exit 0) (frOf [])) (qgG (qjc K) (K (.exit 0) (frOf [])) n) n c0 n4
 rw [← ih]
 kernel_rfl
theorem qmD (n:Nat)  : (qjd n) (.exit 0) (frOf [])=qdA n  := by
 kernel_rfl
theorem qIM (n:Nat) (c0:Int) (o0:Lab):evFnP qjb n qry qIL [.dat (.int .i32) c0 o0]=qpH n c0:=by
 unfold qpH
 rw [show qgG qgF (qdA n) n=(fun c0 n4=>evLP qjb n (sub qry [1,0,1,0,0]) (qjd n) (qmC c0 n4)) from by
  funext c0 n4
  refine Eq.trans ?_ (quR (qjd n) n c0 n4).symm
  rw [show ((qjd n) (.exit 0) (frOf []))=(qdA n) from by
   exact qmD n ]
  all_goals kernel_rfl]
 kernel_rfl
theorem qkI:qe Gc Tryz.prog 169 s_z169:=by
 refine sQ (E:=qjb) (c:=qry) rfl (fun w S hg=>(qb (qyW w S hg) qc)) Tryz.func169 ?_
 intro avs r h
 unfold s_z169 at h
 split at h <;> cases h
 obtain ⟨n,hn⟩:=qAI _
 exact ⟨n,_,(qIM n _ _).trans hn,.inl rfl⟩
def E_z65:EnvP:=eQ [] 18 (some [2]) nC nC nP
def C_z65:Code:=cO Tryz.f65
def R_z65:Array ResultVar:=Tryz.f65.results
theorem qLI (n:Nat) (x0:UInt8) (o0:Lab):evFnP E_z65 n C_z65 R_z65 [.dat .byte x0 o0]=qDN n x0:=by
 kernel_rfl
theorem qyX:qe Gc Tryz.prog 65 s_z65:=by
 refine sQ (E:=E_z65) (c:=C_z65) rfl (fun w S hg=>qc) Tryz.func65 ?_
 intro avs r h
 unfold s_z65 at h
 split at h <;> cases h
 obtain ⟨n,hn⟩:=qDY _
 exact ⟨n,_,(qLI n _ _).trans hn,.inl rfl⟩
def qje:EnvP:=eQ [(65,s_z65)] 20 (some [2,3]) (fun x=>if x=2 then some [0,4] else none) (fun x=>if x=0 then some [] else if x=1 then some [0,4] else none) nP
def qrz:Code:=cO Tryz.f170
def qIN:Array ResultVar:=Tryz.f170.results
noncomputable def qjf (K:Ex→Fr→Option AV):=fun s2 s3=>K .ret (frOf [(2,(.dat .byte s2 none)),(3,(.dat .bool s3 none))])
def qjg (n:Nat):Ex→Fr→Option AV:=qm 0 (qje.cutb 0) (kSeq (evCP qje (evLP qje n) (sub qrz [1,1])) (kFnP qje qIN))
def qmE (c0:Int) (n4:Int):Fr:=frOf [(0,(.dat (.int .i32) c0 none)),(4,(.dat (.int .i64) n4 none))]
theorem quS (K:Ex→Fr→Option AV):∀ (n:Nat) (c0:Int) (n4:Int),evLP qje n (sub qrz [1,0,1,0,0]) K (qmE c0 n4)=qgI (qjf K) (K (.exit 0) (frOf [])) n c0 n4:=by
 intro n
 induction n with
 | zero=>intros; rfl
 | succ n IH =>
 intro c0 n4
 have ih:(fun c0 n4=>evLP qje n (sub qrz [1,0,1,0,0]) K (qmE c0 n4))=qgI (qjf K) (K (.exit 0) (frOf [])) n:=by
  funext c0 n4
  exact IH c0 n4
 show _=qfi (qjf K) (K (.exit 0) (frOf [])) (qgI (qjf K) (K (.exit 0) (frOf [])) n) n c0 n4
 rw [← ih]
 kernel_rfl
theorem qmF (n:Nat)  : (qjg n) (.exit 0) (frOf [])=qdB n  := by
 kernel_rfl
theorem qIO (n:Nat) (c0:Int) (o0:Lab):evFnP qje n qrz qIN [.dat (.int .i32) c0 o0]=qpJ n c0:=by
 unfold qpJ
 rw [show qgI qgH (qdB n) n=(fun c0 n4=>evLP qje n (sub qrz [1,0,1,0,0]) (qjg n) (qmE c0 n4)) from by
  funext c0 n4
  refine Eq.trans ?_ (quS (qjg n) n c0 n4).symm
  rw [show ((qjg n) (.exit 0) (frOf []))=(qdB n) from by
   exact qmF n ]
  all_goals kernel_rfl]
 kernel_rfl
theorem qkJ:qe Gc Tryz.prog 170 s_z170:=by
 refine sQ (E:=qje) (c:=qrz) rfl (fun w S hg=>(qb (qyX w S hg) qc)) Tryz.func170 ?_
 intro avs r h
 unfold s_z170 at h
 split at h <;> cases h
 obtain ⟨n,hn⟩:=qAJ _
 exact ⟨n,_,(qIO n _ _).trans hn,.inl rfl⟩
def qIP:EnvP:=eQ [] 9 (some [2]) nC nC nP
def qIQ:Code:=cO Tryz.f234
def qLJ:Array ResultVar:=Tryz.f234.results
theorem qIR (n:Nat) (c0:Int) (o0:Lab):evFnP qIP n qIQ qLJ [.dat (.int .i32) c0 o0]=qwC n c0:=by
 kernel_rfl
theorem quT:qe Gc Tryz.prog 234 s_z234:=by
 refine sQ (E:=qIP) (c:=qIQ) rfl (fun w S hg=>qc) Tryz.func234 ?_
 intro avs r h
 unfold s_z234 at h
 split at h <;> cases h
 obtain ⟨n,hn⟩:=qAo _
 exact ⟨n,_,(qIR n _ _).trans hn,.inl rfl⟩
def qIS:EnvP:=eQ [(234,s_z234)] 14 (some [2]) nC nC nP
def qIT:Code:=cO Tryz.f209
def qLK:Array ResultVar:=Tryz.f209.results
theorem qIU (n:Nat) (c0:Int) (o0:Lab):evFnP qIS n qIT qLK [.dat (.int .i32) c0 o0]=qwD n c0:=by
 kernel_rfl
theorem qkK:qe Gc Tryz.prog 209 s_z209:=by
 refine sQ (E:=qIS) (c:=qIT) rfl (fun w S hg=>(qb (quT w S hg) qc)) Tryz.func209 ?_
 intro avs r h
 unfold s_z209 at h
 split at h <;> cases h
 obtain ⟨n,hn⟩:=qAp _
 exact ⟨n,_,(qIU n _ _).trans hn,.inl rfl⟩
def qIV:EnvP:=eQ [(168,s_z168),(169,s_z169),(170,s_z170),(209,s_z209)] 41 (some [4]) nC (fun x=>if x=0 then some [5] else none) nP
def qIW:Code:=cO Tryz.f167
def qLL:Array ResultVar:=Tryz.f167.results
theorem qIX (n:Nat) (charset0:Int) (o0:Lab) (c1:Int) (o1:Lab):evFnP qIV n qIW qLL [.dat (.int .i64) charset0 o0,.dat (.int .i32) c1 o1]=qwE n charset0 c1:=by
 kernel_rfl
theorem qkL:qe Gc Tryz.prog 167 s_z167:=by
 refine sQ (E:=qIV) (c:=qIW) rfl (fun w S hg=>(qb (qkH w S hg) (qb (qkI w S hg) (qb (qkJ w S hg) (qb (qkK w S hg) qc))))) Tryz.func167 ?_
 intro avs r h
 unfold s_z167 at h
 split at h <;> cases h
 obtain ⟨n,hn⟩:=qAL _ _
 exact ⟨n,_,(qIX n _ _ _ _).trans hn,.inl rfl⟩
def qIY:EnvP:=eQ [(209,s_z209)] 60 (some [2]) nC nC nP
def qIZ:Code:=cO Tryz.f171
def qLM:Array ResultVar:=Tryz.f171.results
theorem qJa (n:Nat) (c0:Int) (o0:Lab):evFnP qIY n qIZ qLM [.dat (.int .i32) c0 o0]=qwF n c0:=by
 kernel_rfl
theorem quU:qe Gc Tryz.prog 171 s_z171:=by
 refine sQ (E:=qIY) (c:=qIZ) rfl (fun w S hg=>(qb (qkK w S hg) qc)) Tryz.func171 ?_
 intro avs r h
 unfold s_z171 at h
 split at h <;> cases h
 obtain ⟨n,hn⟩:=qAz _
 exact ⟨n,_,(qJa n _ _).trans hn,.inl rfl⟩
def qJb:EnvP:=eQ [(167,s_z167),(168,s_z168),(169,s_z169),(170,s_z170),(171,s_z171)] 40 (some [4]) nC (fun x=>if x=0 then some [5] else none) nP
def qJc:Code:=cO Tryz.f121
def qLN:Array ResultVar:=Tryz.f121.results
theorem qJd (n:Nat) (charset0:Int) (o0:Lab) (c1:Int) (o1:Lab):evFnP qJb n qJc qLN [.dat (.int .i64) charset0 o0,.dat (.int .i32) c1 o1]=qwG n charset0 c1:=by
 kernel_rfl
theorem quV:qe Gc Tryz.prog 121 s_z121:=by
 refine sQ (E:=qJb) (c:=qJc) rfl (fun w S hg=>(qb (qkL w S hg) (qb (qkH w S hg) (qb (qkI w S hg) (qb (qkJ w S hg) (qb (quU w S hg) qc)))))) Tryz.func121 ?_
 intro avs r h
 unfold s_z121 at h
 split at h <;> cases h
 obtain ⟨n,hn⟩:=qAS _ _
 exact ⟨n,_,(qJd n _ _ _ _).trans hn,.inl rfl⟩
def E_z76:EnvP:=eQ [(121,s_z121)] 34 (some [4,5]) (fun x=>if x=5 then some [0,1,6,7] else none) (fun x=>if x=0 then some [6] else if x=1 then some [0,1,6,7] else none) nP
def C_z76:Code:=cO Tryz.f76
def R_z76:Array ResultVar:=Tryz.f76.results
noncomputable def qoK (K:Ex→Fr→Option AV):=fun s4 s5=>K .ret (frOf [(4,(.dat (.sl .byte) s4 (some (4,5)))),(5,(.dat (.int .i64) s5 none))])
noncomputable def qkM (K:Ex→Fr→Option AV):=fun out6=>K (.exit 0) (frOf [(6,(.dat (.sl .byte) out6 (some (6,5))))])
def qoL (n:Nat):Ex→Fr→Option AV:=qm 0 (E_z76.cutb 0) (kSeq (evCP E_z76 (evLP E_z76 n) (sub C_z76 [1,1,1,1])) (kFnP E_z76 R_z76))
def quW (charset0:Int) (t1:List Int) (out6:List UInt8) (i7:Int):Fr:=frOf [(0,(.dat (.int .i64) charset0 none)),(1,(.dat (.sl (.int .i32)) t1 none)),(6,(.dat (.sl .byte) out6 (some (6,5)))),(7,(.dat (.int .i64) i7 none))]
theorem qyY (K:Ex→Fr→Option AV):∀ (n:Nat) (charset0:Int) (t1:List Int) (out6:List UInt8) (i7:Int),evLP E_z76 n (sub C_z76 [1,1,1,0,1,0,0]) K (quW charset0 t1 out6 i7)=qmZ (qoK K) (qkM K) n charset0 t1 out6 i7:=by
 intro n
 induction n with
 | zero=>intros; rfl
 | succ n IH =>
 intro charset0 t1 out6 i7
 have ih:(fun charset0 t1 out6 i7=>evLP E_z76 n (sub C_z76 [1,1,1,0,1,0,0]) K (quW charset0 t1 out6 i7))=qmZ (qoK K) (qkM K) n:=by
  funext charset0 t1 out6 i7
  exact IH charset0 t1 out6 i7
 show _=qep (qoK K) (qkM K) (qmZ (qoK K) (qkM K) n) n charset0 t1 out6 i7
 rw [← ih]
 kernel_rfl
theorem qrA (n:Nat) (out6:List UInt8):(qoL n) (.exit 0) (frOf [(6,(.dat (.sl .byte) out6 (some (6,5))))])=qeq n out6:=by
 kernel_rfl
theorem qLO (n:Nat) (charset0:Int) (o0:Lab) (t1:List Int) (o1:Lab):evFnP E_z76 n C_z76 R_z76 [.dat (.int .i64) charset0 o0,.dat (.sl (.int .i32)) t1 o1]=qzI n charset0 t1:=by
 unfold qzI
 rw [show qmZ qeI (qeq n) n=(fun charset0 t1 out6 i7=>evLP E_z76 n (sub C_z76 [1,1,1,0,1,0,0]) (qoL n) (quW charset0 t1 out6 i7)) from by
  funext charset0 t1 out6 i7
  refine Eq.trans ?_ (qyY (qoL n) n charset0 t1 out6 i7).symm
  rw [show (qkM (qoL n))=(qeq n) from by
   funext out6
   exact qrA n out6]
  all_goals kernel_rfl]
 kernel_rfl
theorem qoM:qe Gc Tryz.prog 76 s_z76:=by
 refine sQ (E:=E_z76) (c:=C_z76) rfl (fun w S hg=>(qb (quV w S hg) qc)) Tryz.func76 ?_
 intro avs r h
 unfold s_z76 at h
 split at h
 ·obtain ⟨hp,rfl⟩:=Prod.mk.inj h
  obtain ⟨n,hn⟩:=qEv _ _ hp
  exact ⟨n,_,(qLO n _ _ _ _).trans hn,.inl rfl⟩
 ·cases h
def E_z69:EnvP:=eQ [(18,s_z18),(49,s_z49),(50,s_z50),(76,s_z76)] 42 (some [6,7]) nC nC nP
def C_z69:Code:=cO Tryz.f69
def R_z69:Array ResultVar:=Tryz.f69.results
theorem qLP (n:Nat) (charset0:Int) (o0:Lab) (code1:Int) (o1:Lab) (t2:List Int) (o2:Lab):evFnP E_z69 n C_z69 R_z69 [.dat (.int .i64) charset0 o0,.dat (.int .i64) code1 o1,.dat (.sl (.int .i32)) t2 o2]=qDO n charset0 code1 t2:=by
 kernel_rfl
theorem qjh:qe Gc Tryz.prog 69 s_z69:=by
 refine sQ (E:=E_z69) (c:=C_z69) rfl (fun w S hg=>(qb (qyV w S hg) (qb (qoG w S hg) (qb (qoI w S hg) (qb (qoM w S hg) qc))))) Tryz.func69 ?_
 intro avs r h
 unfold s_z69 at h
 split at h
 ·obtain ⟨hp,rfl⟩:=Prod.mk.inj h
  obtain ⟨n,hn⟩:=qEz _ _ _ hp
  exact ⟨n,_,(qLP n _ _ _ _ _ _).trans hn,.inl rfl⟩
 ·cases h
def qJe:EnvP:=eQ [(69,s_z69)] 34 (some [8]) nC nC nP
def qJf:Code:=cO Tryz.f115
def qLQ:Array ResultVar:=Tryz.f115.results
theorem qJg (n:Nat) (charset0:Int) (o0:Lab) (code1:Int) (o1:Lab) (t2:List Int) (o2:Lab) (room3:Int) (o3:Lab):evFnP qJe n qJf qLQ [.dat (.int .i64) charset0 o0,.dat (.int .i64) code1 o1,.dat (.sl (.int .i32)) t2 o2,.dat (.int .i64) room3 o3]=qwH n charset0 code1 t2 room3:=by
 kernel_rfl
theorem quX:qe Gc Tryz.prog 115 s_z115:=by
 refine sQ (E:=qJe) (c:=qJf) rfl (fun w S hg=>(qb (qjh w S hg) qc)) Tryz.func115 ?_
 intro avs r h
 unfold s_z115 at h
 split at h
 ·obtain ⟨hp,rfl⟩:=Prod.mk.inj h
  obtain ⟨n,hn⟩:=qBd _ _ _ _ hp
  exact ⟨n,_,(qJg n _ _ _ _ _ _ _ _).trans hn,.inl rfl⟩
 ·cases h
def E_z70:EnvP:=eQ [(115,s_z115)] 28 (some [8]) (fun x=>if x=2 then some [0,1,2,3,9] else none) (fun x=>if x=0 then some [2] else if x=1 then some [0,1,2,3,9] else none) nP
def C_z70:Code:=cO Tryz.f70
def R_z70:Array ResultVar:=Tryz.f70.results
noncomputable def qkN (K:Ex→Fr→Option AV):=fun t2=>K (.exit 0) (frOf [(2,(.dat (.sl (.int .i32)) t2 none))])
noncomputable def qoN (K:Ex→Fr→Option AV):=fun s8=>K .ret (frOf [(8,(.dat (.int .i64) s8 none))])
def qoO (n:Nat):Ex→Fr→Option AV:=qm 0 (E_z70.cutb 0) (kSeq (evCP E_z70 (evLP E_z70 n) (sub C_z70 [1,1])) (kFnP E_z70 R_z70))
def quY (charset0:Int) (code1:Int) (t2:List Int) (room3:Int) (n9:Int):Fr:=frOf [(0,(.dat (.int .i64) charset0 none)),(1,(.dat (.int .i64) code1 none)),(2,(.dat (.sl (.int .i32)) t2 none)),(3,(.dat (.int .i64) room3 none)),(9,(.dat (.int .i64) n9 none))]
theorem qyZ (K:Ex→Fr→Option AV):∀ (n:Nat) (charset0:Int) (code1:Int) (t2:List Int) (room3:Int) (n9:Int),evLP E_z70 n (sub C_z70 [1,0,1,0,0]) K (quY charset0 code1 t2 room3 n9)=qna (qoN K) (qkN K) n charset0 code1 t2 room3 n9:=by
 intro n
 induction n with
 | zero=>intros; rfl
 | succ n IH =>
 intro charset0 code1 t2 room3 n9
 have ih:(fun charset0 code1 t2 room3 n9=>evLP E_z70 n (sub C_z70 [1,0,1,0,0]) K (quY charset0 code1 t2 room3 n9))=qna (qoN K) (qkN K) n:=by
  funext charset0 code1 t2 room3 n9
  exact IH charset0 code1 t2 room3 n9
 show _=qer (qoN K) (qkN K) (qna (qoN K) (qkN K) n) n charset0 code1 t2 room3 n9
 rw [← ih]
 kernel_rfl
theorem qrB (n:Nat) (t2:List Int):(qoO n) (.exit 0) (frOf [(2,(.dat (.sl (.int .i32)) t2 none))])=qgK n t2:=by
 kernel_rfl
theorem qLR (n:Nat) (charset0:Int) (o0:Lab) (code1:Int) (o1:Lab) (t2:List Int) (o2:Lab) (room3:Int) (o3:Lab):evFnP E_z70 n C_z70 R_z70 [.dat (.int .i64) charset0 o0,.dat (.int .i64) code1 o1,.dat (.sl (.int .i32)) t2 o2,.dat (.int .i64) room3 o3]=qzJ n charset0 code1 t2 room3:=by
 unfold qzJ
 rw [show qna qlc (qgK n) n=(fun charset0 code1 t2 room3 n9=>evLP E_z70 n (sub C_z70 [1,0,1,0,0]) (qoO n) (quY charset0 code1 t2 room3 n9)) from by
  funext charset0 code1 t2 room3 n9
  refine Eq.trans ?_ (qyZ (qoO n) n charset0 code1 t2 room3 n9).symm
  rw [show (qkN (qoO n))=(qgK n) from by
   funext t2
   exact qrB n t2]
  all_goals kernel_rfl]
 kernel_rfl
theorem qza:qe Gc Tryz.prog 70 s_z70:=by
 refine sQ (E:=E_z70) (c:=C_z70) rfl (fun w S hg=>(qb (quX w S hg) qc)) Tryz.func70 ?_
 intro avs r h
 unfold s_z70 at h
 split at h
 ·obtain ⟨hp,rfl⟩:=Prod.mk.inj h
  obtain ⟨n,hn⟩:=qEB _ _ _ _ hp
  exact ⟨n,_,(qLR n _ _ _ _ _ _ _ _).trans hn,.inl rfl⟩
 ·cases h
def E_z29:EnvP:=eQ [(69,s_z69),(70,s_z70)] 46 (some [8,9]) (fun x=>if x=6 then some [0,1,2,12,13] else none) (fun x=>if x=0 then some [12] else if x=1 then some [0,1,2,12,13] else none) nP
def C_z29:Code:=cO Tryz.f29
def R_z29:Array ResultVar:=Tryz.f29.results
noncomputable def qoP (K:Ex→Fr→Option AV):=fun s8 s9=>K .ret (frOf [(8,(.dat (.sl (.sl (.int .i32))) s8 (some (8,40)))),(9,(.dat (.int .i64) s9 none))])
noncomputable def qkO (K:Ex→Fr→Option AV):=fun out12=>K (.exit 0) (frOf [(12,(.dat (.sl (.sl (.int .i32))) out12 (some (12,40))))])
def qoQ (n:Nat):Ex→Fr→Option AV:=qm 0 (E_z29.cutb 0) (kSeq (evCP E_z29 (evLP E_z29 n) (sub C_z29 [1,1,1,1,1])) (kFnP E_z29 R_z29))
def quZ (charset0:Int) (code1:Int) (t2:List Int) (out12:List (List Int)) (room13:Int):Fr:=frOf [(0,(.dat (.int .i64) charset0 none)),(1,(.dat (.int .i64) code1 none)),(2,(.dat (.sl (.int .i32)) t2 none)),(12,(.dat (.sl (.sl (.int .i32))) out12 (some (12,40)))),(13,(.dat (.int .i64) room13 none))]
theorem qzb (K:Ex→Fr→Option AV):∀ (n:Nat) (charset0:Int) (code1:Int) (t2:List Int) (out12:List (List Int)) (room13:Int),evLP E_z29 n (sub C_z29 [1,1,1,1,0,0,0]) K (quZ charset0 code1 t2 out12 room13)=qnb (qoP K) (qkO K) n charset0 code1 t2 out12 room13:=by
 intro n
 induction n with
 | zero=>intros; rfl
 | succ n IH =>
 intro charset0 code1 t2 out12 room13
 have ih:(fun charset0 code1 t2 out12 room13=>evLP E_z29 n (sub C_z29 [1,1,1,1,0,0,0]) K (quZ charset0 code1 t2 out12 room13))=qnb (qoP K) (qkO K) n:=by
  funext charset0 code1 t2 out12 room13
  exact IH charset0 code1 t2 out12 room13
 show _=qjs (qoP K) (qkO K) (qnb (qoP K) (qkO K) n) n charset0 code1 t2 out12 room13
 rw [← ih]
 kernel_rfl
theorem qrC (n:Nat) (out12:List (List Int)):(qoQ n) (.exit 0) (frOf [(12,(.dat (.sl (.sl (.int .i32))) out12 (some (12,40))))])=qgL n out12:=by
 kernel_rfl
theorem qLS (n:Nat) (charset0:Int) (o0:Lab) (code1:Int) (o1:Lab) (t2:List Int) (o2:Lab) (first3:Int) (o3:Lab):evFnP E_z29 n C_z29 R_z29 [.dat (.int .i64) charset0 o0,.dat (.int .i64) code1 o1,.dat (.sl (.int .i32)) t2 o2,.dat (.int .i64) first3 o3]=qzK n charset0 code1 t2 first3:=by
 unfold qzK
 rw [show qnb qbl (qgL n) n=(fun charset0 code1 t2 out12 room13=>evLP E_z29 n (sub C_z29 [1,1,1,1,0,0,0]) (qoQ n) (quZ charset0 code1 t2 out12 room13)) from by
  funext charset0 code1 t2 out12 room13
  refine Eq.trans ?_ (qzb (qoQ n) n charset0 code1 t2 out12 room13).symm
  rw [show (qkO (qoQ n))=(qgL n) from by
   funext out12
   exact qrC n out12]
  all_goals kernel_rfl]
 kernel_rfl
theorem qzc:qe Gc Tryz.prog 29 s_z29:=by
 refine sQ (E:=E_z29) (c:=C_z29) rfl (fun w S hg=>(qb (qjh w S hg) (qb (qza w S hg) qc))) Tryz.func29 ?_
 intro avs r h
 unfold s_z29 at h
 split at h
 ·obtain ⟨hp,rfl⟩:=Prod.mk.inj h
  obtain ⟨n,hn⟩:=qDe _ _ _ _ hp
  exact ⟨n,_,(qLS n _ _ _ _ _ _ _ _).trans hn,.inl rfl⟩
 ·cases h
end
end Go.Av
