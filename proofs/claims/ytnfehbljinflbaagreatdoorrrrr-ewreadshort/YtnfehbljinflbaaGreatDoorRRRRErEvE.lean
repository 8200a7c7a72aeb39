import Derived.Test.YtnfehbljinflbaaGreatDoorRRRRErEvD
import Derived.Test.YtnfehbljinflbaaGreatDoorRRRREtN
import Derived.Test.YtnfehbljinflbaaGreatDoorRRRRProg
import Derived.KernelRfl
namespace Go.Av
set_option linter.unusedSimpArgs false
noncomputable section
open Go.Proofs
set_option maxRecDepth 100000
set_option linter.unusedVariables false
def qGF:EnvP:=eQ [(175,s_z175)] 31 (some [4,5]) nC nC nP
def qGG:Code:=cO Tryz.f167
def qJB:Array ResultVar:=Tryz.f167.results
theorem qGH (n:Nat) (a0:UInt8) (o0:Lab) (b1:UInt8) (o1:Lab):evFnP qGF n qGG qJB [dm a0 o0,dm b1 o1]=qwp n a0 b1:=by
 kernel_rfl
theorem quJ:qg G Tryz.prog 167 s_z167:=by
 refine sQ (E:=qGF) (c:=qGG) rfl (fun w S hg=>(qb (quI w S hg) qc)) Tryz.func167 ?_;intro avs r h;unfold s_z167 at h;split at h <;> cases h
 obtain ⟨n,hn⟩:=qAn _ _;exact ⟨n,_,(qGH n _ _ _ _).trans hn,.inl rfl⟩
def qGI:EnvP:=eQ [(167,s_z167)] 38 (some [6,7]) nC nC nP
def qGJ:Code:=cO Tryz.f144
def qJC:Array ResultVar:=Tryz.f144.results
theorem qGK (n:Nat) (s0:List UInt8) (o0:Lab) (at1:Int) (o1:Lab) (sign2:UInt8) (o2:Lab):evFnP qGI n qGJ qJC [db s0 o0,de at1 o1,dm sign2 o2]=qwq n s0 at1 sign2:=by
 kernel_rfl
theorem quK:qg G Tryz.prog 144 s_z144:=by
 refine sQ (E:=qGI) (c:=qGJ) rfl (fun w S hg=>(qb (quJ w S hg) qc)) Tryz.func144 ?_;intro avs r h;unfold s_z144 at h;split at h
 ·obtain ⟨hp,rfl⟩:=yj h;obtain ⟨n,hn⟩:=qAo _ _ _ hp;exact ⟨n,_,(qGK n _ _ _ _ _ _).trans hn,.inl rfl⟩
 ·cases h
def qkj:EnvP:=eQ [(144,s_z144)] 46 (some [2,3]) (fun x=>if x=4 then some [0,4,5,6] else none) (fun x=>if x=0 then some [4,5] else if x=1 then some [0,4,5,6] else if x=2 then some [0,4,5,6,7] else none) nP
def qrM:Code:=cO Tryz.f124
def qGL:Array ResultVar:=Tryz.f124.results
noncomputable def qhr (K:Ex→Fr→Option AV):=fun out4 strange5=>K (.exit 0) (frOf [(4,(db out4 (some (4,5)))),(5,dc strange5)])
def qkk (n:Nat):Ex→Fr→Option AV:=qo 0 (qkj.cutb 0) (kSeq (evCP qkj (evLP qkj n) (sub qrM [1,0,1,1,1,1,1])) (kFnP qkj qGL))
def qnL (s0:List UInt8) (out4:List UInt8) (strange5:Int) (at6:Int):Fr:=frOf [(0,da s0),(4,(db out4 (some (4,5)))),(5,dc strange5),(6,dc at6)]
theorem quL (K:Ex→Fr→Option AV):∀ (n:Nat) (s0:List UInt8) (out4:List UInt8) (strange5:Int) (at6:Int),evLP qkj n (sub qrM [1,0,1,1,1,1,0,0,0]) K (qnL s0 out4 strange5 at6)=qhL (qhr K) n s0 out4 strange5 at6:=by
 intro n;induction n with
 | zero=>intros; rfl
 | succ n IH =>
 intro s0 out4 strange5 at6;have ih:(fun s0 out4 strange5 at6=>evLP qkj n (sub qrM [1,0,1,1,1,1,0,0,0]) K (qnL s0 out4 strange5 at6))=qhL (qhr K) n:=by
  funext s0 out4 strange5 at6;exact IH s0 out4 strange5 at6
 show _=qgs (qhr K) (qhL (qhr K) n) n s0 out4 strange5 at6;rw [← ih];kernel_rfl
theorem qnM (n:Nat) (out4:List UInt8) (strange5:Int):(qkk n) (.exit 0) (frOf [(4,(db out4 (some (4,5)))),(5,dc strange5)])=qeJ n out4 strange5:=by
 kernel_rfl
theorem qGM (n:Nat) (s0:List UInt8) (o0:Lab):evFnP qkj n qrM qGL [db s0 o0]=qwr n s0:=by
 unfold qwr;rw [show qhL (qeJ n) n=(fun s0 out4 strange5 at6=>evLP qkj n (sub qrM [1,0,1,1,1,1,0,0,0]) (qkk n) (qnL s0 out4 strange5 at6)) from by
  funext s0 out4 strange5 at6;refine Eq.trans ?_ (quL (qkk n) n s0 out4 strange5 at6).symm;rw [show (qhr (qkk n))=(qeJ n) from by
   funext out4 strange5;exact qnM n out4 strange5]
  all_goals kernel_rfl]
 kernel_rfl
theorem qmd:qg G Tryz.prog 124 s_z124:=by
 refine sQ (E:=qkj) (c:=qrM) rfl (fun w S hg=>(qb (quK w S hg) qc)) Tryz.func124 ?_;intro avs r h;unfold s_z124 at h;split at h
 ·obtain ⟨hp,rfl⟩:=yj h;obtain ⟨n,hn⟩:=qAG _ hp;exact ⟨n,_,(qGM n _ _).trans hn,.inl rfl⟩
 ·cases h
def E_z92:EnvP:=eQ [(124,s_z124)] 11 (some [2]) nC nC nP
def C_z92:Code:=cO Tryz.f92
def R_z92:Array ResultVar:=Tryz.f92.results
theorem qJD (n:Nat) (s0:List UInt8) (o0:Lab):evFnP E_z92 n C_z92 R_z92 [db s0 o0]=qDJ n s0:=by
 kernel_rfl
theorem qze:qg G Tryz.prog 92 s_z92:=by
 refine sQ (E:=E_z92) (c:=C_z92) rfl (fun w S hg=>(qb (qmd w S hg) qc)) Tryz.func92 ?_;intro avs r h;unfold s_z92 at h;split at h
 ·obtain ⟨hp,rfl⟩:=yj h;obtain ⟨n,hn⟩:=qEw _ hp;exact ⟨n,_,(qJD n _ _).trans hn,.inl rfl⟩
 ·cases h
def E_z55:EnvP:=eQ [(90,s_z90),(91,s_z91),(92,s_z92)] 16 (some [2]) nC nC nP
def C_z55:Code:=cO Tryz.f55
def R_z55:Array ResultVar:=Tryz.f55.results
theorem qJE (n:Nat) (s0:List UInt8) (o0:Lab):evFnP E_z55 n C_z55 R_z55 [db s0 o0]=qDK n s0:=by
 kernel_rfl
theorem qzf:qg G Tryz.prog 55 s_z55:=by
 refine sQ (E:=E_z55) (c:=C_z55) rfl (fun w S hg=>(qb (qpN w S hg) (qb (qpK w S hg) (qb (qze w S hg) qc)))) Tryz.func55 ?_;intro avs r h;unfold s_z55 at h;split at h
 ·obtain ⟨hp,rfl⟩:=yj h;obtain ⟨n,hn⟩:=qEx _ hp;exact ⟨n,_,(qJE n _ _).trans hn,.inl rfl⟩
 ·cases h
def E_z33:EnvP:=eQ [(51,s_z51),(53,s_z53),(54,s_z54),(55,s_z55)] 36 (some [2]) nC nC nP
def C_z33:Code:=cO Tryz.f33
def R_z33:Array ResultVar:=Tryz.f33.results
theorem qJF (n:Nat) (s0:List UInt8) (o0:Lab):evFnP E_z33 n C_z33 R_z33 [db s0 o0]=qDL n s0:=by
 kernel_rfl
theorem qzg:qg G Tryz.prog 33 s_z33:=by
 refine sQ (E:=E_z33) (c:=C_z33) rfl (fun w S hg=>(qb (qgj w S hg) (qb (qpQ w S hg) (qb (qzd w S hg) (qb (qzf w S hg) qc))))) Tryz.func33 ?_;intro avs r h;unfold s_z33 at h;split at h
 ·obtain ⟨hp,rfl⟩:=yj h;obtain ⟨n,hn⟩:=qEJ _ hp;exact ⟨n,_,(qJF n _ _).trans hn,.inl rfl⟩
 ·cases h
def E_z32:EnvP:=eQ [(33,s_z33)] 8 (some [9]) nC nC nP
def C_z32:Code:=cO Tryz.f32
def R_z32:Array ResultVar:=Tryz.f32.results
theorem qJG (n:Nat) (w0:List UInt8) (o0:Lab) (x1:Int):evFnM E_z32 n C_z32 R_z32 [db w0 o0,.pbox (.leaf (.int .i64)) x1 none]=qDM n w0 x1:=by
 kernel_rfl
theorem qzh:qfO G Tryz.prog 32 s_z32:=by
 refine qP G_stays (E:=E_z32) (fn:=Tryz.f32) (c:=C_z32) (qf rfl qaS) (fun w S hg=>⟨⟨(qb (qzg w S hg) qc),fun f sp h=>qZ f sp h w S⟩,qae w S hg,(fun _ _ h=>by cases h),(fun f sp h=>qat f sp h),(fun f it h=>qau f it h),(fun t kt vt h=>qaa t kt vt h)⟩) follows Tryz.func32 (by kernel_rfl) (by kernel_rfl) (by kernel_rfl) ?_;intro avs r h;unfold s_z32 at h;split at h
 ·obtain ⟨hp,rfl⟩:=yj h;obtain ⟨n,hn⟩:=qDi _ _ hp;exact ⟨n,(qJG n _ _ _).trans hn⟩
 ·cases h
def qGN:EnvP:=⟨⟨tiOf tis,fnsOf [(146,s_z146),(147,s_z147),(148,s_z148),(149,s_z149)],cnsOf [],[],36,(fun _=>none),(fun _=>none),some [1000004]⟩,fun _=>none,fun _=>none,(fun x=>if x=500009 then [5] else []),fun _=>none,fun _=>none,fun _=>none,fun _=>none⟩
def qGO:Code:=cO Tryz.f127
def qJH:Array ResultVar:=Tryz.f127.results
theorem qGP (n:Nat) (s0:List UInt8) (o0:Lab) (cutset1:List UInt8) (o1:Lab):evFnP qGN n qGO qJH [db s0 o0,df cutset1 o1]=qwt n s0 cutset1:=by
 kernel_rfl
theorem quM:qg G Tryz.prog 127 s_z127:=by
 refine qB G_stays (E:=qGN) (fn:=Tryz.f127) (c:=qGO) (qf rfl qaS) (fun w S hg=>⟨⟨(qb (qlY w S hg) (qb (qhl w S hg) (qb (qlZ w S hg) (qb (qlS w S hg) qc)))),fun f sp h=>qZ f sp h w S⟩,qae w S hg,(fun _ _ h=>by cases h),(fun f sp h=>qat f sp h),(fun f it h=>qau f it h),(fun t kt vt h=>qaa t kt vt h)⟩) follows Tryz.func127 (by kernel_rfl) (by kernel_rfl) (by kernel_rfl) ?_;intro avs r h;unfold s_z127 at h;split at h
 ·obtain ⟨hp,rfl⟩:=yj h;obtain ⟨n,hn⟩:=qAV _ _ hp;exact ⟨n,_,(qGP n _ _ _ _).trans hn,.inl rfl⟩
 ·cases h
def E_z99:EnvP:=eQ [(127,s_z127)] 9 (some [2]) nC nC nP
def C_z99:Code:=cO Tryz.f99
def R_z99:Array ResultVar:=Tryz.f99.results
theorem qJI (n:Nat) (s0:List UInt8) (o0:Lab):evFnP E_z99 n C_z99 R_z99 [db s0 o0]=qDN n s0:=by
 kernel_rfl
theorem qzi:qg G Tryz.prog 99 s_z99:=by
 refine sQ (E:=E_z99) (c:=C_z99) rfl (fun w S hg=>(qb (quM w S hg) qc)) Tryz.func99 ?_;intro avs r h;unfold s_z99 at h;split at h
 ·obtain ⟨hp,rfl⟩:=yj h;obtain ⟨n,hn⟩:=qEL _ hp;exact ⟨n,_,(qJI n _ _).trans hn,.inl rfl⟩
 ·cases h
def qGQ:EnvP:=eQ [] 5 (some [2]) nC nC nP
def qGR:Code:=cO Tryz.f152
def qJJ:Array ResultVar:=Tryz.f152.results
theorem qGS (n:Nat) (bufLen0:Int) (o0:Lab):evFnP qGQ n qGR qJJ [de bufLen0 o0]=qBF n bufLen0:=by
 kernel_rfl
theorem quN:qg G Tryz.prog 152 s_z152:=by
 refine sQ (E:=qGQ) (c:=qGR) rfl (fun w S hg=>qc) Tryz.func152 ?_;intro avs r h;unfold s_z152 at h;split at h <;> cases h
 obtain ⟨n,hn⟩:=qAS _;exact ⟨n,_,(qGS n _ _).trans hn,.inl rfl⟩
def qU (m0:Int):EnvP:=⟨⟨tiOf tis,fnsOf [(147,s_z147),(150,s_z150),(151,s_z151),(152,s_z152),(153,s_z153),(154,s_z154),(155,(s_z155 m0))],cnsOf [],[],129,(fun x=>if x=7 then some [28] else if x=24 then some [7,60,61,62] else if x=32 then some [0,1,12] else if x=48 then some [0,1,11,12,13,121] else none),(fun x=>if x=0 then some [] else if x=1 then some [28] else if x=2 then some [] else if x=3 then some [7,60,61,62] else if x=4 then some [] else if x=5 then some [0,1,11,12] else if x=6 then some [0,1,11,12] else if x=7 then some [0,1,11,12,13,121] else none),some [4]⟩,fun _=>none,glm m0,(fun x=>if x=24 then [7] else []),fun _=>none,fun _=>none,fun _=>none,fun _=>none⟩
def qaT:Code:=cO Tryz.f128
def qzj:Array ResultVar:=Tryz.f128.results
def qkl (m0:Int) (n:Nat):Ex→Fr→Option AV:=qo 0 ((qU m0).cutb 0) (kSeq (evCP (qU m0) (evLP (qU m0) n) (sub qaT [1,1,0,1,0,1,0,1,0,1])) (kSeq (evCP (qU m0) (evLP (qU m0) n) (sub qaT [1,1,0,1,0,1,1])) (kSeq (evCP (qU m0) (evLP (qU m0) n) (sub qaT [1,1,1])) (kFnP (qU m0) qzj))))
def qkm (m0:Int) (n:Nat) (K:Ex→Fr→Option AV):Ex→Fr→Option AV:=qo 6 ((qU m0).cutb 6) (qo 5 ((qU m0).cutb 5) (kSeq (evCP (qU m0) (evLP (qU m0) n) (sub qaT [1,1,1,1,1,1,0,1,0,0,1,1])) (kSeq (fun K fr=>evLP (qU m0) n (sub qaT [1,1,1,1,1,1,0,1,0,0]) K (cutFP ((qU m0).cuts 32) fr)) K)))
def qkn (m0:Int) (n:Nat):Ex→Fr→Option AV:=qo 2 ((qU m0).cutb 2) (kSeq (evCP (qU m0) (evLP (qU m0) n) (sub qaT [1,1,1,1,0,1,0,1,1,0,1])) (kSeq (evCP (qU m0) (evLP (qU m0) n) (sub qaT [1,1,1,1,1])) (kFnP (qU m0) qzj)))
def qko (m0:Int) (n:Nat):Ex→Fr→Option AV:=qo 4 ((qU m0).cutb 4) (kSeq (evCP (qU m0) (evLP (qU m0) n) (sub qaT [1,1,1,1,1,1,1])) (kFnP (qU m0) qzj))
def qnN (s0:List UInt8) (chars1:List UInt8) (width11:Int) (i12:Int) (r13:Int) (s121:List UInt8) (s121p:Nat):Fr:=frOf [(0,da s0),(1,(df chars1 none)),(11,dc width11),(12,dc i12),(13,(di r13 none)),(121,(.itr s121 s121p))]
def qnO (as7:List Bool) (s60:List UInt8) (s61:Int) (s62:Int):Fr:=frOf [(7,(.adr (.arr 256 .bool) as7)),(60,da s60),(61,dc s61),(62,dc s62)]
def qfl (s0:List UInt8) (chars1:List UInt8) (width11:Int) (i12:Int):Fr:=frOf [(0,da s0),(1,(df chars1 none)),(11,dc width11),(12,dc i12)]
def qfm (s0:List UInt8) (chars1:List UInt8) (i12:Int):Fr:=frOf [(0,da s0),(1,(df chars1 none)),(12,dc i12)]
theorem quO (m0:Int) (K:Ex→Fr→Option AV):∀ (n:Nat) (s28:List UInt8) (s28p:Nat),evLP (qU m0) n (sub qaT [1,1,0,1,0,1,0,1,0,0,1,0,0]) K (frOf [(28,(.itr s28 s28p))])=(qeK m0) (fun s4=>K .ret (frOf [(4,dc s4)])) (K (.exit 0) (frOf [])) n s28 s28p:=by
 intro n;induction n with
 | zero=>intros; rfl
 | succ n IH =>
 intro s28 s28p;have ih:(fun s28 s28p=>evLP (qU m0) n (sub qaT [1,1,0,1,0,1,0,1,0,0,1,0,0]) K (frOf [(28,(.itr s28 s28p))]))=(qeK m0) (fun s4=>K .ret (frOf [(4,dc s4)])) (K (.exit 0) (frOf [])) n:=by
  funext s28 s28p;exact IH s28 s28p
 show _=(qdt m0) (fun s4=>K .ret (frOf [(4,dc s4)])) (K (.exit 0) (frOf [])) ((qeK m0) (fun s4=>K .ret (frOf [(4,dc s4)])) (K (.exit 0) (frOf [])) n) n s28 s28p;rw [← ih];kernel_rfl
theorem qnP (m0:Int) (n:Nat)  : (qkl m0 n) (.exit 0) (frOf [])=(qgt m0) n  := by
 kernel_rfl
theorem qrN (m0:Int) (K:Ex→Fr→Option AV):∀ (n:Nat) (as7:List Bool) (s60:List UInt8) (s61:Int) (s62:Int),evLP (qU m0) n (sub qaT [1,1,1,1,0,1,0,1,1,0,0,1,0,0]) K (qnO as7 s60 s61 s62)=(qcu m0) (fun s4=>K .ret (frOf [(4,dc s4)])) (K (.exit 2) (frOf [])) n as7 s60 s61 s62:=by
 intro n;induction n with
 | zero=>intros; rfl
 | succ n IH =>
 intro as7 s60 s61 s62;have ih:(fun as7 s60 s61 s62=>evLP (qU m0) n (sub qaT [1,1,1,1,0,1,0,1,1,0,0,1,0,0]) K (qnO as7 s60 s61 s62))=(qcu m0) (fun s4=>K .ret (frOf [(4,dc s4)])) (K (.exit 2) (frOf [])) n:=by
  funext as7 s60 s61 s62;exact IH as7 s60 s61 s62
 show _=(qbY m0) (fun s4=>K .ret (frOf [(4,dc s4)])) (K (.exit 2) (frOf [])) ((qcu m0) (fun s4=>K .ret (frOf [(4,dc s4)])) (K (.exit 2) (frOf [])) n) n as7 s60 s61 s62;rw [← ih];kernel_rfl
theorem qme (m0:Int) (n:Nat)  : (qkn m0 n) (.exit 2) (frOf [])=(qcW m0) n  := by
 kernel_rfl
theorem qrO (m0:Int) (K:Ex→Fr→Option AV):∀ (n:Nat) (s0:List UInt8) (chars1:List UInt8) (width11:Int) (i12:Int) (r13:Int) (s121:List UInt8) (s121p:Nat),evLP (qU m0) n (sub qaT [1,1,1,1,1,1,0,1,0,0,1,0,0,1,1,1,1,1,0,0]) K (qnN s0 chars1 width11 i12 r13 s121 s121p)=(qbs m0) (fun s4=>K .ret (frOf [(4,dc s4)])) (fun s0 chars1 width11 i12=>K (.exit 6) (qfl s0 chars1 width11 i12)) n s0 chars1 width11 i12 r13 s121 s121p:=by
 intro n;induction n with
 | zero=>intros; rfl
 | succ n IH =>
 intro s0 chars1 width11 i12 r13 s121 s121p;have ih:(fun s0 chars1 width11 i12 r13 s121 s121p=>evLP (qU m0) n (sub qaT [1,1,1,1,1,1,0,1,0,0,1,0,0,1,1,1,1,1,0,0]) K (qnN s0 chars1 width11 i12 r13 s121 s121p))=(qbs m0) (fun s4=>K .ret (frOf [(4,dc s4)])) (fun s0 chars1 width11 i12=>K (.exit 6) (qfl s0 chars1 width11 i12)) n:=by
  funext s0 chars1 width11 i12 r13 s121 s121p;exact IH s0 chars1 width11 i12 r13 s121 s121p
 show _=(qbZ m0) (fun s4=>K .ret (frOf [(4,dc s4)])) (fun s0 chars1 width11 i12=>K (.exit 6) (qfl s0 chars1 width11 i12)) ((qbs m0) (fun s4=>K .ret (frOf [(4,dc s4)])) (fun s0 chars1 width11 i12=>K (.exit 6) (qfl s0 chars1 width11 i12)) n) n s0 chars1 width11 i12 r13 s121 s121p;rw [← ih];kernel_rfl
theorem qmf (m0:Int) (K:Ex→Fr→Option AV) (n:Nat) (s0:List UInt8) (chars1:List UInt8) (width11:Int) (i12:Int):(qkm m0 n K) (.exit 6) (qfl s0 chars1 width11 i12)=(qca m0) (fun s4=>K .ret (frOf [(4,dc s4)])) (K (.exit 4) (frOf [])) (fun s0 chars1 i12=>evLP (qU m0) n (sub qaT [1,1,1,1,1,1,0,1,0,0]) K (qfm s0 chars1 i12)) n s0 chars1 width11 i12:=by
 kernel_rfl
theorem qrP (m0:Int) (K:Ex→Fr→Option AV):∀ (n:Nat) (s0:List UInt8) (chars1:List UInt8) (i12:Int),evLP (qU m0) n (sub qaT [1,1,1,1,1,1,0,1,0,0]) K (qfm s0 chars1 i12)=(qbt m0) (fun s4=>K .ret (frOf [(4,dc s4)])) (K (.exit 4) (frOf [])) n s0 chars1 i12:=by
 intro n;induction n with
 | zero=>intros; rfl
 | succ n IH =>
 intro s0 chars1 i12;have ih:(fun s0 chars1 i12=>evLP (qU m0) n (sub qaT [1,1,1,1,1,1,0,1,0,0]) K (qfm s0 chars1 i12))=(qbt m0) (fun s4=>K .ret (frOf [(4,dc s4)])) (K (.exit 4) (frOf [])) n:=by
  funext s0 chars1 i12;exact IH s0 chars1 i12
 show _=(qcX m0) (fun s4=>K .ret (frOf [(4,dc s4)])) (K (.exit 4) (frOf [])) ((qbt m0) (fun s4=>K .ret (frOf [(4,dc s4)])) (K (.exit 4) (frOf [])) n) n s0 chars1 i12;rw [← ih];unfold qcX qx;rw [show (qbs m0) (fun s4=>K .ret (frOf [(4,dc s4)])) ((qca m0) (fun s4=>K .ret (frOf [(4,dc s4)])) (K (.exit 4) (frOf [])) (fun s0 chars1 i12=>evLP (qU m0) n (sub qaT [1,1,1,1,1,1,0,1,0,0]) K (qfm s0 chars1 i12)) n) n=(fun s0 chars1 width11 i12 r13 s121 s121p=>evLP (qU m0) n (sub qaT [1,1,1,1,1,1,0,1,0,0,1,0,0,1,1,1,1,1,0,0]) (qkm m0 n K) (qnN s0 chars1 width11 i12 r13 s121 s121p)) from by
  funext s0 chars1 width11 i12 r13 s121 s121p;refine Eq.trans ?_ ((qrO m0) (qkm m0 n K) n s0 chars1 width11 i12 r13 s121 s121p).symm;rw [show (fun s0 chars1 width11 i12=>(qkm m0 n K) (.exit 6) (qfl s0 chars1 width11 i12))=((qca m0) (fun s4=>K .ret (frOf [(4,dc s4)])) (K (.exit 4) (frOf [])) (fun s0 chars1 i12=>evLP (qU m0) n (sub qaT [1,1,1,1,1,1,0,1,0,0]) K (qfm s0 chars1 i12)) n) from by
   funext s0 chars1 width11 i12;exact (qmf m0) K n s0 chars1 width11 i12]
  all_goals kernel_rfl]
 kernel_rfl
theorem qmg (m0:Int) (n:Nat)  : (qko m0 n) (.exit 4) (frOf [])=(qcb m0) n  := by
 kernel_rfl
theorem qGT (m0:Int) (n:Nat) (s0:List UInt8) (o0:Lab) (chars1:List UInt8) (o1:Lab):evFnP (qU m0) n qaT qzj [db s0 o0,df chars1 o1]=(qqr m0) n s0 chars1:=by
 unfold qqr qcY;rw [show (qeK m0) qI ((qgt m0) n) n=(fun s28 s28p=>evLP (qU m0) n (sub qaT [1,1,0,1,0,1,0,1,0,0,1,0,0]) (qkl m0 n) (frOf [(28,(.itr s28 s28p))])) from by
  funext s28 s28p;refine Eq.trans ?_ ((quO m0) (qkl m0 n) n s28 s28p).symm;rw [show ((qkl m0 n) (.exit 0) (frOf []))=((qgt m0) n) from by
   exact (qnP m0) n ]
  all_goals kernel_rfl]
 rw [show (qcu m0) qI ((qcW m0) n) n=(fun as7 s60 s61 s62=>evLP (qU m0) n (sub qaT [1,1,1,1,0,1,0,1,1,0,0,1,0,0]) (qkn m0 n) (qnO as7 s60 s61 s62)) from by
  funext as7 s60 s61 s62;refine Eq.trans ?_ ((qrN m0) (qkn m0 n) n as7 s60 s61 s62).symm;rw [show ((qkn m0 n) (.exit 2) (frOf []))=((qcW m0) n) from by
   exact (qme m0) n ]
  all_goals kernel_rfl]
 rw [show (qbt m0) qI ((qcb m0) n) n=(fun s0 chars1 i12=>evLP (qU m0) n (sub qaT [1,1,1,1,1,1,0,1,0,0]) (qko m0 n) (qfm s0 chars1 i12)) from by
  funext s0 chars1 i12;refine Eq.trans ?_ ((qrP m0) (qko m0 n) n s0 chars1 i12).symm;rw [show ((qko m0 n) (.exit 4) (frOf []))=((qcb m0) n) from by
   exact (qmg m0) n ]
  all_goals kernel_rfl]
 kernel_rfl
theorem qrQ (m0:Int):qg (Gm m0) Tryz.prog 128 s_z128:=by
 refine qB (qxz m0) (E:=qU m0) (fn:=Tryz.f128) (c:=qaT) (qf rfl qaS) (fun w S hg=>⟨⟨(qb (qhl w S (G_of m0 hg)) (qb (qlR w S (G_of m0 hg)) (qb (qub w S (G_of m0 hg)) (qb (quN w S (G_of m0 hg)) (qb (qhm w S (G_of m0 hg)) (qb (quc w S (G_of m0 hg)) (qb (qua m0 w S hg) qc))))))),fun f sp h=>qZ f sp h w S⟩,hg.2,(fun _ _ h=>by cases h),(fun _ _ h=>by cases h),(fun _ _ h=>by cases h),(fun _ _ _ h=>by cases h)⟩) follows Tryz.func128 (by kernel_rfl) (by kernel_rfl) (by kernel_rfl) ?_;intro avs r h;unfold s_z128 at h;split at h
 ·obtain ⟨hp,rfl⟩:=yj h;obtain ⟨n,hn⟩:=qAU m0 _ _ hp;exact ⟨n,_,(qGT m0 n _ _ _ _).trans hn,.inl rfl⟩
 ·cases h
theorem quP:qg G Tryz.prog 128 s_z128:=fun w S hg=>by obtain ⟨m,h⟩:=G_to hg; exact qrQ m w S h
end
end Go.Av
