import Derived.Test.YtopepdfipgfakaaGreatDoorCuEvG
import Derived.Test.YtopepdfipgfakaaGreatDoorCuC
import Derived.Test.YtopepdfipgfakaaGreatDoorProg
import Derived.KernelRfl
namespace Go.Av
set_option linter.unusedSimpArgs false
noncomputable section
open Go.Proofs
set_option maxRecDepth 100000
set_option linter.unusedVariables false
def E_z64:EnvP:=eQ [] 22 (some [2]) nC (fun x=>if x=0 then some [0] else none) nP
def C_z64:Code:=cO Tryz.f64
def R_z64:Array ResultVar:=Tryz.f64.results
theorem qKH (n:Nat) (x0:UInt8) (o0:Lab):evFnP E_z64 n C_z64 R_z64 [.dat .byte x0 o0]=qCQ n x0:=by
 kernel_rfl
theorem qyc:qe Gc Tryz.prog 64 s_z64:=by
 refine sQ (E:=E_z64) (c:=C_z64) rfl (fun w S hg=>qc) Tryz.func64 ?_
 intro avs r h
 unfold s_z64 at h
 split at h <;> cases h
 obtain ⟨n,hn⟩:=qDa _
 exact ⟨n,_,(qKH n _ _).trans hn,.inl rfl⟩
def qiN:EnvP:=eQ [(64,s_z64)] 20 (some [2,3]) (fun x=>if x=2 then some [0,4] else none) (fun x=>if x=0 then some [] else if x=1 then some [0,4] else none) nP
def qqI:Code:=cO Tryz.f169
def qHP:Array ResultVar:=Tryz.f169.results
noncomputable def qiO (K:Ex→Fr→Option AV):=fun s2 s3=>K .ret (frOf [(2,(.dat .byte s2 none)),(3,(.dat .bool s3 none))])
def qiP (n:Nat):Ex→Fr→Option AV:=qm 0 (qiN.cutb 0) (kSeq (evCP qiN (evLP qiN n) (sub qqI [1,1])) (kFnP qiN qHP))
def qmi (c0:Int) (n4:Int):Fr:=frOf [(0,(.dat (.int .i32) c0 none)),(4,(.dat (.int .i64) n4 none))]
theorem qua (K:Ex→Fr→Option AV):∀ (n:Nat) (c0:Int) (n4:Int),evLP qiN n (sub qqI [1,0,1,0,0]) K (qmi c0 n4)=qgx (qiO K) (K (.exit 0) (frOf [])) n c0 n4:=by
 intro n
 induction n with
 | zero=>intros; rfl
 | succ n IH =>
 intro c0 n4
 have ih:(fun c0 n4=>evLP qiN n (sub qqI [1,0,1,0,0]) K (qmi c0 n4))=qgx (qiO K) (K (.exit 0) (frOf [])) n:=by
  funext c0 n4
  exact IH c0 n4
 show _=qeZ (qiO K) (K (.exit 0) (frOf [])) (qgx (qiO K) (K (.exit 0) (frOf [])) n) n c0 n4
 rw [← ih]
 kernel_rfl
theorem qmj (n:Nat)  : (qiP n) (.exit 0) (frOf [])=qdw n  := by
 kernel_rfl
theorem qHQ (n:Nat) (c0:Int) (o0:Lab):evFnP qiN n qqI qHP [.dat (.int .i32) c0 o0]=qoX n c0:=by
 unfold qoX
 rw [show qgx qgw (qdw n) n=(fun c0 n4=>evLP qiN n (sub qqI [1,0,1,0,0]) (qiP n) (qmi c0 n4)) from by
  funext c0 n4
  refine Eq.trans ?_ (qua (qiP n) n c0 n4).symm
  rw [show ((qiP n) (.exit 0) (frOf []))=(qdw n) from by
   exact qmj n ]
  all_goals kernel_rfl]
 kernel_rfl
theorem qkp:qe Gc Tryz.prog 169 s_z169:=by
 refine sQ (E:=qiN) (c:=qqI) rfl (fun w S hg=>(qb (qyc w S hg) qc)) Tryz.func169 ?_
 intro avs r h
 unfold s_z169 at h
 split at h <;> cases h
 obtain ⟨n,hn⟩:=qzO _
 exact ⟨n,_,(qHQ n _ _).trans hn,.inl rfl⟩
def E_z65:EnvP:=eQ [] 18 (some [2]) nC nC nP
def C_z65:Code:=cO Tryz.f65
def R_z65:Array ResultVar:=Tryz.f65.results
theorem qKI (n:Nat) (x0:UInt8) (o0:Lab):evFnP E_z65 n C_z65 R_z65 [.dat .byte x0 o0]=qCR n x0:=by
 kernel_rfl
theorem qyd:qe Gc Tryz.prog 65 s_z65:=by
 refine sQ (E:=E_z65) (c:=C_z65) rfl (fun w S hg=>qc) Tryz.func65 ?_
 intro avs r h
 unfold s_z65 at h
 split at h <;> cases h
 obtain ⟨n,hn⟩:=qDb _
 exact ⟨n,_,(qKI n _ _).trans hn,.inl rfl⟩
def qiQ:EnvP:=eQ [(65,s_z65)] 20 (some [2,3]) (fun x=>if x=2 then some [0,4] else none) (fun x=>if x=0 then some [] else if x=1 then some [0,4] else none) nP
def qqJ:Code:=cO Tryz.f170
def qHR:Array ResultVar:=Tryz.f170.results
noncomputable def qiR (K:Ex→Fr→Option AV):=fun s2 s3=>K .ret (frOf [(2,(.dat .byte s2 none)),(3,(.dat .bool s3 none))])
def qiS (n:Nat):Ex→Fr→Option AV:=qm 0 (qiQ.cutb 0) (kSeq (evCP qiQ (evLP qiQ n) (sub qqJ [1,1])) (kFnP qiQ qHR))
def qmk (c0:Int) (n4:Int):Fr:=frOf [(0,(.dat (.int .i32) c0 none)),(4,(.dat (.int .i64) n4 none))]
theorem qub (K:Ex→Fr→Option AV):∀ (n:Nat) (c0:Int) (n4:Int),evLP qiQ n (sub qqJ [1,0,1,0,0]) K (qmk c0 n4)=qgz (qiR K) (K (.exit 0) (frOf [])) n c0 n4:=by
 intro n
 induction n with
 | zero=>intros; rfl
 | succ n IH =>
 intro c0 n4
 have ih:(fun c0 n4=>evLP qiQ n (sub qqJ [1,0,1,0,0]) K (qmk c0 n4))=qgz (qiR K) (K (.exit 0) (frOf [])) n:=by
  funext c0 n4
  exact IH c0 n4
 show _=qfa (qiR K) (K (.exit 0) (frOf [])) (qgz (qiR K) (K (.exit 0) (frOf [])) n) n c0 n4
 rw [← ih]
 kernel_rfl
theorem qml (n:Nat)  : (qiS n) (.exit 0) (frOf [])=qdx n  := by
 kernel_rfl
theorem qHS (n:Nat) (c0:Int) (o0:Lab):evFnP qiQ n qqJ qHR [.dat (.int .i32) c0 o0]=qoZ n c0:=by
 unfold qoZ
 rw [show qgz qgy (qdx n) n=(fun c0 n4=>evLP qiQ n (sub qqJ [1,0,1,0,0]) (qiS n) (qmk c0 n4)) from by
  funext c0 n4
  refine Eq.trans ?_ (qub (qiS n) n c0 n4).symm
  rw [show ((qiS n) (.exit 0) (frOf []))=(qdx n) from by
   exact qml n ]
  all_goals kernel_rfl]
 kernel_rfl
theorem qkq:qe Gc Tryz.prog 170 s_z170:=by
 refine sQ (E:=qiQ) (c:=qqJ) rfl (fun w S hg=>(qb (qyd w S hg) qc)) Tryz.func170 ?_
 intro avs r h
 unfold s_z170 at h
 split at h <;> cases h
 obtain ⟨n,hn⟩:=qzP _
 exact ⟨n,_,(qHS n _ _).trans hn,.inl rfl⟩
def qHT:EnvP:=eQ [] 9 (some [2]) nC nC nP
def qHU:Code:=cO Tryz.f234
def qKJ:Array ResultVar:=Tryz.f234.results
theorem qHV (n:Nat) (c0:Int) (o0:Lab):evFnP qHT n qHU qKJ [.dat (.int .i32) c0 o0]=qvJ n c0:=by
 kernel_rfl
theorem quc:qe Gc Tryz.prog 234 s_z234:=by
 refine sQ (E:=qHT) (c:=qHU) rfl (fun w S hg=>qc) Tryz.func234 ?_
 intro avs r h
 unfold s_z234 at h
 split at h <;> cases h
 obtain ⟨n,hn⟩:=qzu _
 exact ⟨n,_,(qHV n _ _).trans hn,.inl rfl⟩
def qHW:EnvP:=eQ [(234,s_z234)] 14 (some [2]) nC nC nP
def qHX:Code:=cO Tryz.f209
def qKK:Array ResultVar:=Tryz.f209.results
theorem qHY (n:Nat) (c0:Int) (o0:Lab):evFnP qHW n qHX qKK [.dat (.int .i32) c0 o0]=qvK n c0:=by
 kernel_rfl
theorem qkr:qe Gc Tryz.prog 209 s_z209:=by
 refine sQ (E:=qHW) (c:=qHX) rfl (fun w S hg=>(qb (quc w S hg) qc)) Tryz.func209 ?_
 intro avs r h
 unfold s_z209 at h
 split at h <;> cases h
 obtain ⟨n,hn⟩:=qzv _
 exact ⟨n,_,(qHY n _ _).trans hn,.inl rfl⟩
def qHZ:EnvP:=eQ [(168,s_z168),(169,s_z169),(170,s_z170),(209,s_z209)] 41 (some [4]) nC (fun x=>if x=0 then some [5] else none) nP
def qIa:Code:=cO Tryz.f167
def qKL:Array ResultVar:=Tryz.f167.results
theorem qIb (n:Nat) (charset0:Int) (o0:Lab) (c1:Int) (o1:Lab):evFnP qHZ n qIa qKL [.dat (.int .i64) charset0 o0,.dat (.int .i32) c1 o1]=qvL n charset0 c1:=by
 kernel_rfl
theorem qks:qe Gc Tryz.prog 167 s_z167:=by
 refine sQ (E:=qHZ) (c:=qIa) rfl (fun w S hg=>(qb (qko w S hg) (qb (qkp w S hg) (qb (qkq w S hg) (qb (qkr w S hg) qc))))) Tryz.func167 ?_
 intro avs r h
 unfold s_z167 at h
 split at h <;> cases h
 obtain ⟨n,hn⟩:=qzR _ _
 exact ⟨n,_,(qIb n _ _ _ _).trans hn,.inl rfl⟩
def qIc:EnvP:=eQ [(209,s_z209)] 60 (some [2]) nC nC nP
def qId:Code:=cO Tryz.f171
def qKM:Array ResultVar:=Tryz.f171.results
theorem qIe (n:Nat) (c0:Int) (o0:Lab):evFnP qIc n qId qKM [.dat (.int .i32) c0 o0]=qvM n c0:=by
 kernel_rfl
theorem qud:qe Gc Tryz.prog 171 s_z171:=by
 refine sQ (E:=qIc) (c:=qId) rfl (fun w S hg=>(qb (qkr w S hg) qc)) Tryz.func171 ?_
 intro avs r h
 unfold s_z171 at h
 split at h <;> cases h
 obtain ⟨n,hn⟩:=qzF _
 exact ⟨n,_,(qIe n _ _).trans hn,.inl rfl⟩
def qIf:EnvP:=eQ [(167,s_z167),(168,s_z168),(169,s_z169),(170,s_z170),(171,s_z171)] 40 (some [4]) nC (fun x=>if x=0 then some [5] else none) nP
def qIg:Code:=cO Tryz.f121
def qKN:Array ResultVar:=Tryz.f121.results
theorem qIh (n:Nat) (charset0:Int) (o0:Lab) (c1:Int) (o1:Lab):evFnP qIf n qIg qKN [.dat (.int .i64) charset0 o0,.dat (.int .i32) c1 o1]=qvN n charset0 c1:=by
 kernel_rfl
theorem que:qe Gc Tryz.prog 121 s_z121:=by
 refine sQ (E:=qIf) (c:=qIg) rfl (fun w S hg=>(qb (qks w S hg) (qb (qko w S hg) (qb (qkp w S hg) (qb (qkq w S hg) (qb (qud w S hg) qc)))))) Tryz.func121 ?_
 intro avs r h
 unfold s_z121 at h
 split at h <;> cases h
 obtain ⟨n,hn⟩:=qzY _ _
 exact ⟨n,_,(qIh n _ _ _ _).trans hn,.inl rfl⟩
def E_z76:EnvP:=eQ [(121,s_z121)] 34 (some [4,5]) (fun x=>if x=5 then some [0,1,6,7] else none) (fun x=>if x=0 then some [6] else if x=1 then some [0,1,6,7] else none) nP
def C_z76:Code:=cO Tryz.f76
def R_z76:Array ResultVar:=Tryz.f76.results
noncomputable def qoh (K:Ex→Fr→Option AV):=fun s4 s5=>K .ret (frOf [(4,(.dat (.sl .byte) s4 (some (4,5)))),(5,(.dat (.int .i64) s5 none))])
noncomputable def qkt (K:Ex→Fr→Option AV):=fun out6=>K (.exit 0) (frOf [(6,(.dat (.sl .byte) out6 (some (6,5))))])
def qoi (n:Nat):Ex→Fr→Option AV:=qm 0 (E_z76.cutb 0) (kSeq (evCP E_z76 (evLP E_z76 n) (sub C_z76 [1,1,1,1])) (kFnP E_z76 R_z76))
def quf (charset0:Int) (t1:List Int) (out6:List UInt8) (i7:Int):Fr:=frOf [(0,(.dat (.int .i64) charset0 none)),(1,(.dat (.sl (.int .i32)) t1 none)),(6,(.dat (.sl .byte) out6 (some (6,5)))),(7,(.dat (.int .i64) i7 none))]
theorem qye (K:Ex→Fr→Option AV):∀ (n:Nat) (charset0:Int) (t1:List Int) (out6:List UInt8) (i7:Int),evLP E_z76 n (sub C_z76 [1,1,1,0,1,0,0]) K (quf charset0 t1 out6 i7)=qmG (qoh K) (qkt K) n charset0 t1 out6 i7:=by
 intro n
 induction n with
 | zero=>intros; rfl
 | succ n IH =>
 intro charset0 t1 out6 i7
 have ih:(fun charset0 t1 out6 i7=>evLP E_z76 n (sub C_z76 [1,1,1,0,1,0,0]) K (quf charset0 t1 out6 i7))=qmG (qoh K) (qkt K) n:=by
  funext charset0 t1 out6 i7
  exact IH charset0 t1 out6 i7
 show _=qek (qoh K) (qkt K) (qmG (qoh K) (qkt K) n) n charset0 t1 out6 i7
 rw [← ih]
 kernel_rfl
theorem qqK (n:Nat) (out6:List UInt8):(qoi n) (.exit 0) (frOf [(6,(.dat (.sl .byte) out6 (some (6,5))))])=qel n out6:=by
 kernel_rfl
theorem qKO (n:Nat) (charset0:Int) (o0:Lab) (t1:List Int) (o1:Lab):evFnP E_z76 n C_z76 R_z76 [.dat (.int .i64) charset0 o0,.dat (.sl (.int .i32)) t1 o1]=qyQ n charset0 t1:=by
 unfold qyQ
 rw [show qmG qeC (qel n) n=(fun charset0 t1 out6 i7=>evLP E_z76 n (sub C_z76 [1,1,1,0,1,0,0]) (qoi n) (quf charset0 t1 out6 i7)) from by
  funext charset0 t1 out6 i7
  refine Eq.trans ?_ (qye (qoi n) n charset0 t1 out6 i7).symm
  rw [show (qkt (qoi n))=(qel n) from by
   funext out6
   exact qqK n out6]
  all_goals kernel_rfl]
 kernel_rfl
theorem qyf:qe Gc Tryz.prog 76 s_z76:=by
 refine sQ (E:=E_z76) (c:=C_z76) rfl (fun w S hg=>(qb (que w S hg) qc)) Tryz.func76 ?_
 intro avs r h
 unfold s_z76 at h
 split at h
 ·obtain ⟨hp,rfl⟩:=Prod.mk.inj h
  obtain ⟨n,hn⟩:=qDz _ _ hp
  exact ⟨n,_,(qKO n _ _ _ _).trans hn,.inl rfl⟩
 ·cases h
def E_z69:EnvP:=eQ [(18,s_z18),(49,s_z49),(50,s_z50),(76,s_z76)] 42 (some [6,7]) nC nC nP
def C_z69:Code:=cO Tryz.f69
def R_z69:Array ResultVar:=Tryz.f69.results
theorem qKP (n:Nat) (charset0:Int) (o0:Lab) (code1:Int) (o1:Lab) (t2:List Int) (o2:Lab):evFnP E_z69 n C_z69 R_z69 [.dat (.int .i64) charset0 o0,.dat (.int .i64) code1 o1,.dat (.sl (.int .i32)) t2 o2]=qCS n charset0 code1 t2:=by
 kernel_rfl
theorem qiT:qe Gc Tryz.prog 69 s_z69:=by
 refine sQ (E:=E_z69) (c:=C_z69) rfl (fun w S hg=>(qb (qxS w S hg) (qb (qxX w S hg) (qb (qyb w S hg) (qb (qyf w S hg) qc))))) Tryz.func69 ?_
 intro avs r h
 unfold s_z69 at h
 split at h
 ·obtain ⟨hp,rfl⟩:=Prod.mk.inj h
  obtain ⟨n,hn⟩:=qDD _ _ _ hp
  exact ⟨n,_,(qKP n _ _ _ _ _ _).trans hn,.inl rfl⟩
 ·cases h
def qIi:EnvP:=eQ [(69,s_z69)] 34 (some [8]) nC nC nP
def qIj:Code:=cO Tryz.f115
def qKQ:Array ResultVar:=Tryz.f115.results
theorem qIk (n:Nat) (charset0:Int) (o0:Lab) (code1:Int) (o1:Lab) (t2:List Int) (o2:Lab) (room3:Int) (o3:Lab):evFnP qIi n qIj qKQ [.dat (.int .i64) charset0 o0,.dat (.int .i64) code1 o1,.dat (.sl (.int .i32)) t2 o2,.dat (.int .i64) room3 o3]=qvO n charset0 code1 t2 room3:=by
 kernel_rfl
theorem qug:qe Gc Tryz.prog 115 s_z115:=by
 refine sQ (E:=qIi) (c:=qIj) rfl (fun w S hg=>(qb (qiT w S hg) qc)) Tryz.func115 ?_
 intro avs r h
 unfold s_z115 at h
 split at h
 ·obtain ⟨hp,rfl⟩:=Prod.mk.inj h
  obtain ⟨n,hn⟩:=qAk _ _ _ _ hp
  exact ⟨n,_,(qIk n _ _ _ _ _ _ _ _).trans hn,.inl rfl⟩
 ·cases h
def E_z70:EnvP:=eQ [(115,s_z115)] 28 (some [8]) (fun x=>if x=2 then some [0,1,2,3,9] else none) (fun x=>if x=0 then some [2] else if x=1 then some [0,1,2,3,9] else none) nP
def C_z70:Code:=cO Tryz.f70
def R_z70:Array ResultVar:=Tryz.f70.results
noncomputable def qku (K:Ex→Fr→Option AV):=fun t2=>K (.exit 0) (frOf [(2,(.dat (.sl (.int .i32)) t2 none))])
noncomputable def qoj (K:Ex→Fr→Option AV):=fun s8=>K .ret (frOf [(8,(.dat (.int .i64) s8 none))])
def qok (n:Nat):Ex→Fr→Option AV:=qm 0 (E_z70.cutb 0) (kSeq (evCP E_z70 (evLP E_z70 n) (sub C_z70 [1,1])) (kFnP E_z70 R_z70))
def quh (charset0:Int) (code1:Int) (t2:List Int) (room3:Int) (n9:Int):Fr:=frOf [(0,(.dat (.int .i64) charset0 none)),(1,(.dat (.int .i64) code1 none)),(2,(.dat (.sl (.int .i32)) t2 none)),(3,(.dat (.int .i64) room3 none)),(9,(.dat (.int .i64) n9 none))]
theorem qyg (K:Ex→Fr→Option AV):∀ (n:Nat) (charset0:Int) (code1:Int) (t2:List Int) (room3:Int) (n9:Int),evLP E_z70 n (sub C_z70 [1,0,1,0,0]) K (quh charset0 code1 t2 room3 n9)=qmH (qoj K) (qku K) n charset0 code1 t2 room3 n9:=by
 intro n
 induction n with
 | zero=>intros; rfl
 | succ n IH =>
 intro charset0 code1 t2 room3 n9
 have ih:(fun charset0 code1 t2 room3 n9=>evLP E_z70 n (sub C_z70 [1,0,1,0,0]) K (quh charset0 code1 t2 room3 n9))=qmH (qoj K) (qku K) n:=by
  funext charset0 code1 t2 room3 n9
  exact IH charset0 code1 t2 room3 n9
 show _=qem (qoj K) (qku K) (qmH (qoj K) (qku K) n) n charset0 code1 t2 room3 n9
 rw [← ih]
 kernel_rfl
theorem qqL (n:Nat) (t2:List Int):(qok n) (.exit 0) (frOf [(2,(.dat (.sl (.int .i32)) t2 none))])=qgB n t2:=by
 kernel_rfl
theorem qKR (n:Nat) (charset0:Int) (o0:Lab) (code1:Int) (o1:Lab) (t2:List Int) (o2:Lab) (room3:Int) (o3:Lab):evFnP E_z70 n C_z70 R_z70 [.dat (.int .i64) charset0 o0,.dat (.int .i64) code1 o1,.dat (.sl (.int .i32)) t2 o2,.dat (.int .i64) room3 o3]=qyR n charset0 code1 t2 room3:=by
 unfold qyR
 rw [show qmH qkH (qgB n) n=(fun charset0 code1 t2 room3 n9=>evLP E_z70 n (sub C_z70 [1,0,1,0,0]) (qok n) (quh charset0 code1 t2 room3 n9)) from by
  funext charset0 code1 t2 room3 n9
  refine Eq.trans ?_ (qyg (qok n) n charset0 code1 t2 room3 n9).symm
  rw [show (qku (qok n))=(qgB n) from by
   funext t2
   exact qqL n t2]
  all_goals kernel_rfl]
 kernel_rfl
theorem qyh:qe Gc Tryz.prog 70 s_z70:=by
 refine sQ (E:=E_z70) (c:=C_z70) rfl (fun w S hg=>(qb (qug w S hg) qc)) Tryz.func70 ?_
 intro avs r h
 unfold s_z70 at h
 split at h
 ·obtain ⟨hp,rfl⟩:=Prod.mk.inj h
  obtain ⟨n,hn⟩:=qDF _ _ _ _ hp
  exact ⟨n,_,(qKR n _ _ _ _ _ _ _ _).trans hn,.inl rfl⟩
 ·cases h
def E_z29:EnvP:=eQ [(69,s_z69),(70,s_z70)] 46 (some [8,9]) (fun x=>if x=6 then some [0,1,2,12,13] else none) (fun x=>if x=0 then some [12] else if x=1 then some [0,1,2,12,13] else none) nP
def C_z29:Code:=cO Tryz.f29
def R_z29:Array ResultVar:=Tryz.f29.results
noncomputable def qol (K:Ex→Fr→Option AV):=fun s8 s9=>K .ret (frOf [(8,(.dat (.sl (.sl (.int .i32))) s8 (some (8,40)))),(9,(.dat (.int .i64) s9 none))])
noncomputable def qkv (K:Ex→Fr→Option AV):=fun out12=>K (.exit 0) (frOf [(12,(.dat (.sl (.sl (.int .i32))) out12 (some (12,40))))])
def qom (n:Nat):Ex→Fr→Option AV:=qm 0 (E_z29.cutb 0) (kSeq (evCP E_z29 (evLP E_z29 n) (sub C_z29 [1,1,1,1,1])) (kFnP E_z29 R_z29))
def qui (charset0:Int) (code1:Int) (t2:List Int) (out12:List (List Int)) (room13:Int):Fr:=frOf [(0,(.dat (.int .i64) charset0 none)),(1,(.dat (.int .i64) code1 none)),(2,(.dat (.sl (.int .i32)) t2 none)),(12,(.dat (.sl (.sl (.int .i32))) out12 (some (12,40)))),(13,(.dat (.int .i64) room13 none))]
theorem qyi (K:Ex→Fr→Option AV):∀ (n:Nat) (charset0:Int) (code1:Int) (t2:List Int) (out12:List (List Int)) (room13:Int),evLP E_z29 n (sub C_z29 [1,1,1,1,0,0,0]) K (qui charset0 code1 t2 out12 room13)=qmI (qol K) (qkv K) n charset0 code1 t2 out12 room13:=by
 intro n
 induction n with
 | zero=>intros; rfl
 | succ n IH =>
 intro charset0 code1 t2 out12 room13
 have ih:(fun charset0 code1 t2 out12 room13=>evLP E_z29 n (sub C_z29 [1,1,1,1,0,0,0]) K (qui charset0 code1 t2 out12 room13))=qmI (qol K) (qkv K) n:=by
  funext charset0 code1 t2 out12 room13
  exact IH charset0 code1 t2 out12 room13
 show _=qjd (qol K) (qkv K) (qmI (qol K) (qkv K) n) n charset0 code1 t2 out12 room13
 rw [← ih]
 kernel_rfl
theorem qqM (n:Nat) (out12:List (List Int)):(qom n) (.exit 0) (frOf [(12,(.dat (.sl (.sl (.int .i32))) out12 (some (12,40))))])=qgC n out12:=by
 kernel_rfl
theorem qKS (n:Nat) (charset0:Int) (o0:Lab) (code1:Int) (o1:Lab) (t2:List Int) (o2:Lab) (first3:Int) (o3:Lab):evFnP E_z29 n C_z29 R_z29 [.dat (.int .i64) charset0 o0,.dat (.int .i64) code1 o1,.dat (.sl (.int .i32)) t2 o2,.dat (.int .i64) first3 o3]=qyS n charset0 code1 t2 first3:=by
 unfold qyS
 rw [show qmI qbj (qgC n) n=(fun charset0 code1 t2 out12 room13=>evLP E_z29 n (sub C_z29 [1,1,1,1,0,0,0]) (qom n) (qui charset0 code1 t2 out12 room13)) from by
  funext charset0 code1 t2 out12 room13
  refine Eq.trans ?_ (qyi (qom n) n charset0 code1 t2 out12 room13).symm
  rw [show (qkv (qom n))=(qgC n) from by
   funext out12
   exact qqM n out12]
  all_goals kernel_rfl]
 kernel_rfl
theorem qyj:qe Gc Tryz.prog 29 s_z29:=by
 refine sQ (E:=E_z29) (c:=C_z29) rfl (fun w S hg=>(qb (qiT w S hg) (qb (qyh w S hg) qc))) Tryz.func29 ?_
 intro avs r h
 unfold s_z29 at h
 split at h
 ·obtain ⟨hp,rfl⟩:=Prod.mk.inj h
  obtain ⟨n,hn⟩:=qCl _ _ _ _ hp
  exact ⟨n,_,(qKS n _ _ _ _ _ _ _ _).trans hn,.inl rfl⟩
 ·cases h
end
end Go.Av
