import Derived.Test.YtnfehbljinflbaaGreatDoorRRRRErEvD
import Derived.Test.YtnfehbljinflbaaGreatDoorRRRREtN
import Derived.Test.YtnfehbljinflbaaGreatDoorRRRRProg
import Derived.KernelRfl
namespace Go.Av
set_option linter.unusedSimpArgs false
noncomputable section
open Go.Proofs
set_option maxRecDepth 100000
set_option linter.unusedVariables false
def qGk:EnvP:=eQ [(36,s_z36),(118,s_z118)] 23 (some [2,3]) nC (fun x=>if x=0 then some [] else none) nP
def qGl:Code:=cO Tryz.f175
def qJf:Array ResultVar:=Tryz.f175.results
theorem qGm (n:Nat) (c0:UInt8) (o0:Lab):evFnP qGk n qGl qJf [di c0 o0]=qwi n c0:=by
 kernel_rfl
theorem quF:qf G Tryz.prog 175 s_z175:=by
 refine sQ (E:=qGk) (c:=qGl) rfl (fun w S hg=>(qb (qjV w S hg) (qb (qlV w S hg) qc))) Tryz.func175 ?_;intro avs r h;unfold s_z175 at h;split at h <;> cases h
 obtain ⟨n,hn⟩:=qAc _;exact ⟨n,_,(qGm n _ _).trans hn,.inl rfl⟩
def qGn:EnvP:=eQ [(175,s_z175)] 31 (some [4,5]) nC nC nP
def qGo:Code:=cO Tryz.f167
def qJg:Array ResultVar:=Tryz.f167.results
theorem qGp (n:Nat) (a0:UInt8) (o0:Lab) (b1:UInt8) (o1:Lab):evFnP qGn n qGo qJg [di a0 o0,di b1 o1]=qwj n a0 b1:=by
 kernel_rfl
theorem quG:qf G Tryz.prog 167 s_z167:=by
 refine sQ (E:=qGn) (c:=qGo) rfl (fun w S hg=>(qb (quF w S hg) qc)) Tryz.func167 ?_;intro avs r h;unfold s_z167 at h;split at h <;> cases h
 obtain ⟨n,hn⟩:=qAd _ _;exact ⟨n,_,(qGp n _ _ _ _).trans hn,.inl rfl⟩
def qGq:EnvP:=eQ [(167,s_z167)] 38 (some [6,7]) nC nC nP
def qGr:Code:=cO Tryz.f144
def qJh:Array ResultVar:=Tryz.f144.results
theorem qGs (n:Nat) (s0:List UInt8) (o0:Lab) (at1:Int) (o1:Lab) (sign2:UInt8) (o2:Lab):evFnP qGq n qGr qJh [db s0 o0,de at1 o1,di sign2 o2]=qwk n s0 at1 sign2:=by
 kernel_rfl
theorem quH:qf G Tryz.prog 144 s_z144:=by
 refine sQ (E:=qGq) (c:=qGr) rfl (fun w S hg=>(qb (quG w S hg) qc)) Tryz.func144 ?_;intro avs r h;unfold s_z144 at h;split at h
 ·obtain ⟨hp,rfl⟩:=yj h;obtain ⟨n,hn⟩:=qAe _ _ _ hp;exact ⟨n,_,(qGs n _ _ _ _ _ _).trans hn,.inl rfl⟩
 ·cases h
def qkl:EnvP:=eQ [(144,s_z144)] 46 (some [2,3]) (fun x=>if x=4 then some [0,4,5,6] else none) (fun x=>if x=0 then some [4,5] else if x=1 then some [0,4,5,6] else if x=2 then some [0,4,5,6,7] else none) nP
def qrJ:Code:=cO Tryz.f124
def qGt:Array ResultVar:=Tryz.f124.results
noncomputable def qhv (K:Ex→Fr→Option AV):=fun out4 strange5=>K (.exit 0) (frOf [(4,(db out4 (some (4,5)))),(5,dc strange5)])
def qkm (n:Nat):Ex→Fr→Option AV:=qm 0 (qkl.cutb 0) (kSeq (evCP qkl (evLP qkl n) (sub qrJ [1,0,1,1,1,1,1])) (kFnP qkl qGt))
def qnL (s0:List UInt8) (out4:List UInt8) (strange5:Int) (at6:Int):Fr:=frOf [(0,da s0),(4,(db out4 (some (4,5)))),(5,dc strange5),(6,dc at6)]
theorem quI (K:Ex→Fr→Option AV):∀ (n:Nat) (s0:List UInt8) (out4:List UInt8) (strange5:Int) (at6:Int),evLP qkl n (sub qrJ [1,0,1,1,1,1,0,0,0]) K (qnL s0 out4 strange5 at6)=qhN (qhv K) n s0 out4 strange5 at6:=by
 intro n;induction n with
 | zero=>intros; rfl
 | succ n IH =>
 intro s0 out4 strange5 at6;have ih:(fun s0 out4 strange5 at6=>evLP qkl n (sub qrJ [1,0,1,1,1,1,0,0,0]) K (qnL s0 out4 strange5 at6))=qhN (qhv K) n:=by
  funext s0 out4 strange5 at6;exact IH s0 out4 strange5 at6
 show _=qgw (qhv K) (qhN (qhv K) n) n s0 out4 strange5 at6;rw [← ih];kernel_rfl
theorem qnM (n:Nat) (out4:List UInt8) (strange5:Int):(qkm n) (.exit 0) (frOf [(4,(db out4 (some (4,5)))),(5,dc strange5)])=qeJ n out4 strange5:=by
 kernel_rfl
theorem qGu (n:Nat) (s0:List UInt8) (o0:Lab):evFnP qkl n qrJ qGt [db s0 o0]=qwl n s0:=by
 unfold qwl;rw [show qhN (qeJ n) n=(fun s0 out4 strange5 at6=>evLP qkl n (sub qrJ [1,0,1,1,1,1,0,0,0]) (qkm n) (qnL s0 out4 strange5 at6)) from by
  funext s0 out4 strange5 at6;refine Eq.trans ?_ (quI (qkm n) n s0 out4 strange5 at6).symm;rw [show (qhv (qkm n))=(qeJ n) from by
   funext out4 strange5;exact qnM n out4 strange5]
  all_goals kernel_rfl]
 kernel_rfl
theorem qme:qf G Tryz.prog 124 s_z124:=by
 refine sQ (E:=qkl) (c:=qrJ) rfl (fun w S hg=>(qb (quH w S hg) qc)) Tryz.func124 ?_;intro avs r h;unfold s_z124 at h;split at h
 ·obtain ⟨hp,rfl⟩:=yj h;obtain ⟨n,hn⟩:=qAw _ hp;exact ⟨n,_,(qGu n _ _).trans hn,.inl rfl⟩
 ·cases h
def E_z92:EnvP:=eQ [(124,s_z124)] 11 (some [2]) nC nC nP
def C_z92:Code:=cO Tryz.f92
def R_z92:Array ResultVar:=Tryz.f92.results
theorem qJi (n:Nat) (s0:List UInt8) (o0:Lab):evFnP E_z92 n C_z92 R_z92 [db s0 o0]=qDu n s0:=by
 kernel_rfl
theorem qyY:qf G Tryz.prog 92 s_z92:=by
 refine sQ (E:=E_z92) (c:=C_z92) rfl (fun w S hg=>(qb (qme w S hg) qc)) Tryz.func92 ?_;intro avs r h;unfold s_z92 at h;split at h
 ·obtain ⟨hp,rfl⟩:=yj h;obtain ⟨n,hn⟩:=qEf _ hp;exact ⟨n,_,(qJi n _ _).trans hn,.inl rfl⟩
 ·cases h
def E_z55:EnvP:=eQ [(90,s_z90),(91,s_z91),(92,s_z92)] 16 (some [2]) nC nC nP
def C_z55:Code:=cO Tryz.f55
def R_z55:Array ResultVar:=Tryz.f55.results
theorem qJj (n:Nat) (s0:List UInt8) (o0:Lab):evFnP E_z55 n C_z55 R_z55 [db s0 o0]=qDv n s0:=by
 kernel_rfl
theorem qyZ:qf G Tryz.prog 55 s_z55:=by
 refine sQ (E:=E_z55) (c:=C_z55) rfl (fun w S hg=>(qb (qpM w S hg) (qb (qpJ w S hg) (qb (qyY w S hg) qc)))) Tryz.func55 ?_;intro avs r h;unfold s_z55 at h;split at h
 ·obtain ⟨hp,rfl⟩:=yj h;obtain ⟨n,hn⟩:=qEg _ hp;exact ⟨n,_,(qJj n _ _).trans hn,.inl rfl⟩
 ·cases h
def E_z33:EnvP:=eQ [(51,s_z51),(53,s_z53),(54,s_z54),(55,s_z55)] 36 (some [2]) nC nC nP
def C_z33:Code:=cO Tryz.f33
def R_z33:Array ResultVar:=Tryz.f33.results
theorem qJk (n:Nat) (s0:List UInt8) (o0:Lab):evFnP E_z33 n C_z33 R_z33 [db s0 o0]=qDw n s0:=by
 kernel_rfl
theorem qza:qf G Tryz.prog 33 s_z33:=by
 refine sQ (E:=E_z33) (c:=C_z33) rfl (fun w S hg=>(qb (qgm w S hg) (qb (qpP w S hg) (qb (qyX w S hg) (qb (qyZ w S hg) qc))))) Tryz.func33 ?_;intro avs r h;unfold s_z33 at h;split at h
 ·obtain ⟨hp,rfl⟩:=yj h;obtain ⟨n,hn⟩:=qEs _ hp;exact ⟨n,_,(qJk n _ _).trans hn,.inl rfl⟩
 ·cases h
def E_z32:EnvP:=eQ [(33,s_z33)] 8 (some [9]) nC nC nP
def C_z32:Code:=cO Tryz.f32
def R_z32:Array ResultVar:=Tryz.f32.results
theorem qJl (n:Nat) (w0:List UInt8) (o0:Lab) (x1:Int):evFnM E_z32 n C_z32 R_z32 [db w0 o0,.pbox (.leaf (.int .i64)) x1 none]=qDx n w0 x1:=by
 kernel_rfl
theorem qzb:qfR G Tryz.prog 32 s_z32:=by
 refine qP G_stays (E:=E_z32) (fn:=Tryz.f32) (c:=C_z32) (qe rfl qaU) (fun w S hg=>⟨⟨(qb (qza w S hg) qc),fun f sp h=>qZ f sp h w S⟩,qae w S hg,(fun _ _ h=>by cases h),(fun f sp h=>qat f sp h),(fun f it h=>qau f it h),(fun t kt vt h=>qaa t kt vt h)⟩) follows Tryz.func32 (by kernel_rfl) (by kernel_rfl) (by kernel_rfl) ?_;intro avs r h;unfold s_z32 at h;split at h
 ·obtain ⟨hp,rfl⟩:=yj h;obtain ⟨n,hn⟩:=qCW _ _ hp;exact ⟨n,(qJl n _ _ _).trans hn⟩
 ·cases h
def qGv:EnvP:=⟨⟨tiOf tis,fnsOf [(146,s_z146),(147,s_z147),(148,s_z148),(149,s_z149)],cnsOf [],[],36,(fun _=>none),(fun _=>none),some [1000004]⟩,fun _=>none,fun _=>none,(fun x=>if x=500009 then [5] else []),fun _=>none,fun _=>none,fun _=>none,fun _=>none⟩
def qGw:Code:=cO Tryz.f127
def qJm:Array ResultVar:=Tryz.f127.results
theorem qGx (n:Nat) (s0:List UInt8) (o0:Lab) (cutset1:List UInt8) (o1:Lab):evFnP qGv n qGw qJm [db s0 o0,df cutset1 o1]=qwn n s0 cutset1:=by
 kernel_rfl
theorem quJ:qf G Tryz.prog 127 s_z127:=by
 refine qB G_stays (E:=qGv) (fn:=Tryz.f127) (c:=qGw) (qe rfl qaU) (fun w S hg=>⟨⟨(qb (qlZ w S hg) (qb (qhp w S hg) (qb (qma w S hg) (qb (qlT w S hg) qc)))),fun f sp h=>qZ f sp h w S⟩,qae w S hg,(fun _ _ h=>by cases h),(fun f sp h=>qat f sp h),(fun f it h=>qau f it h),(fun t kt vt h=>qaa t kt vt h)⟩) follows Tryz.func127 (by kernel_rfl) (by kernel_rfl) (by kernel_rfl) ?_;intro avs r h;unfold s_z127 at h;split at h
 ·obtain ⟨hp,rfl⟩:=yj h;obtain ⟨n,hn⟩:=qAL _ _ hp;exact ⟨n,_,(qGx n _ _ _ _).trans hn,.inl rfl⟩
 ·cases h
def E_z99:EnvP:=eQ [(127,s_z127)] 9 (some [2]) nC nC nP
def C_z99:Code:=cO Tryz.f99
def R_z99:Array ResultVar:=Tryz.f99.results
theorem qJn (n:Nat) (s0:List UInt8) (o0:Lab):evFnP E_z99 n C_z99 R_z99 [db s0 o0]=qDy n s0:=by
 kernel_rfl
theorem qzc:qf G Tryz.prog 99 s_z99:=by
 refine sQ (E:=E_z99) (c:=C_z99) rfl (fun w S hg=>(qb (quJ w S hg) qc)) Tryz.func99 ?_;intro avs r h;unfold s_z99 at h;split at h
 ·obtain ⟨hp,rfl⟩:=yj h;obtain ⟨n,hn⟩:=qEu _ hp;exact ⟨n,_,(qJn n _ _).trans hn,.inl rfl⟩
 ·cases h
def qGy:EnvP:=eQ [] 5 (some [2]) nC nC nP
def qGz:Code:=cO Tryz.f152
def qJo:Array ResultVar:=Tryz.f152.results
theorem qGA (n:Nat) (bufLen0:Int) (o0:Lab):evFnP qGy n qGz qJo [de bufLen0 o0]=qBu n bufLen0:=by
 kernel_rfl
theorem quK:qf G Tryz.prog 152 s_z152:=by
 refine sQ (E:=qGy) (c:=qGz) rfl (fun w S hg=>qc) Tryz.func152 ?_;intro avs r h;unfold s_z152 at h;split at h <;> cases h
 obtain ⟨n,hn⟩:=qAI _;exact ⟨n,_,(qGA n _ _).trans hn,.inl rfl⟩
def qU (m0:Int):EnvP:=⟨⟨tiOf tis,fnsOf [(147,s_z147),(150,s_z150),(151,s_z151),(152,s_z152),(153,s_z153),(154,s_z154),(155,(s_z155 m0))],cnsOf [],[],129,(fun x=>if x=7 then some [28] else if x=24 then some [7,60,61,62] else if x=32 then some [0,1,12] else if x=48 then some [0,1,11,12,13,121] else none),(fun x=>if x=0 then some [] else if x=1 then some [28] else if x=2 then some [] else if x=3 then some [7,60,61,62] else if x=4 then some [] else if x=5 then some [0,1,11,12] else if x=6 then some [0,1,11,12] else if x=7 then some [0,1,11,12,13,121] else none),some [4]⟩,fun _=>none,glm m0,(fun x=>if x=24 then [7] else []),fun _=>none,fun _=>none,fun _=>none,fun _=>none⟩
def qaV:Code:=cO Tryz.f128
def qzd:Array ResultVar:=Tryz.f128.results
def qkn (m0:Int) (n:Nat):Ex→Fr→Option AV:=qm 0 ((qU m0).cutb 0) (kSeq (evCP (qU m0) (evLP (qU m0) n) (sub qaV [1,1,0,1,0,1,0,1,0,1])) (kSeq (evCP (qU m0) (evLP (qU m0) n) (sub qaV [1,1,0,1,0,1,1])) (kSeq (evCP (qU m0) (evLP (qU m0) n) (sub qaV [1,1,1])) (kFnP (qU m0) qzd))))
def qko (m0:Int) (n:Nat) (K:Ex→Fr→Option AV):Ex→Fr→Option AV:=qm 6 ((qU m0).cutb 6) (qm 5 ((qU m0).cutb 5) (kSeq (evCP (qU m0) (evLP (qU m0) n) (sub qaV [1,1,1,1,1,1,0,1,0,0,1,1])) (kSeq (fun K fr=>evLP (qU m0) n (sub qaV [1,1,1,1,1,1,0,1,0,0]) K (cutFP ((qU m0).cuts 32) fr)) K)))
def qkp (m0:Int) (n:Nat):Ex→Fr→Option AV:=qm 2 ((qU m0).cutb 2) (kSeq (evCP (qU m0) (evLP (qU m0) n) (sub qaV [1,1,1,1,0,1,0,1,1,0,1])) (kSeq (evCP (qU m0) (evLP (qU m0) n) (sub qaV [1,1,1,1,1])) (kFnP (qU m0) qzd)))
def qkq (m0:Int) (n:Nat):Ex→Fr→Option AV:=qm 4 ((qU m0).cutb 4) (kSeq (evCP (qU m0) (evLP (qU m0) n) (sub qaV [1,1,1,1,1,1,1])) (kFnP (qU m0) qzd))
def qnN (s0:List UInt8) (chars1:List UInt8) (width11:Int) (i12:Int) (r13:Int) (s121:List UInt8) (s121p:Nat):Fr:=frOf [(0,da s0),(1,(df chars1 none)),(11,dc width11),(12,dc i12),(13,(.dat (.int .i32) r13 none)),(121,(.itr s121 s121p))]
def qnO (as7:List Bool) (s60:List UInt8) (s61:Int) (s62:Int):Fr:=frOf [(7,(.adr (.arr 256 .bool) as7)),(60,da s60),(61,dc s61),(62,dc s62)]
def qfk (s0:List UInt8) (chars1:List UInt8) (width11:Int) (i12:Int):Fr:=frOf [(0,da s0),(1,(df chars1 none)),(11,dc width11),(12,dc i12)]
def qfl (s0:List UInt8) (chars1:List UInt8) (i12:Int):Fr:=frOf [(0,da s0),(1,(df chars1 none)),(12,dc i12)]
theorem quL (m0:Int) (K:Ex→Fr→Option AV):∀ (n:Nat) (s28:List UInt8) (s28p:Nat),evLP (qU m0) n (sub qaV [1,1,0,1,0,1,0,1,0,0,1,0,0]) K (frOf [(28,(.itr s28 s28p))])=(qeK m0) (fun s4=>K .ret (frOf [(4,dc s4)])) (K (.exit 0) (frOf [])) n s28 s28p:=by
 intro n;induction n with
 | zero=>intros; rfl
 | succ n IH =>
 intro s28 s28p;have ih:(fun s28 s28p=>evLP (qU m0) n (sub qaV [1,1,0,1,0,1,0,1,0,0,1,0,0]) K (frOf [(28,(.itr s28 s28p))]))=(qeK m0) (fun s4=>K .ret (frOf [(4,dc s4)])) (K (.exit 0) (frOf [])) n:=by
  funext s28 s28p;exact IH s28 s28p
 show _=(qdu m0) (fun s4=>K .ret (frOf [(4,dc s4)])) (K (.exit 0) (frOf [])) ((qeK m0) (fun s4=>K .ret (frOf [(4,dc s4)])) (K (.exit 0) (frOf [])) n) n s28 s28p;rw [← ih];kernel_rfl
theorem qnP (m0:Int) (n:Nat)  : (qkn m0 n) (.exit 0) (frOf [])=(qgx m0) n  := by
 kernel_rfl
theorem qrK (m0:Int) (K:Ex→Fr→Option AV):∀ (n:Nat) (as7:List Bool) (s60:List UInt8) (s61:Int) (s62:Int),evLP (qU m0) n (sub qaV [1,1,1,1,0,1,0,1,1,0,0,1,0,0]) K (qnO as7 s60 s61 s62)=(qct m0) (fun s4=>K .ret (frOf [(4,dc s4)])) (K (.exit 2) (frOf [])) n as7 s60 s61 s62:=by
 intro n;induction n with
 | zero=>intros; rfl
 | succ n IH =>
 intro as7 s60 s61 s62;have ih:(fun as7 s60 s61 s62=>evLP (qU m0) n (sub qaV [1,1,1,1,0,1,0,1,1,0,0,1,0,0]) K (qnO as7 s60 s61 s62))=(qct m0) (fun s4=>K .ret (frOf [(4,dc s4)])) (K (.exit 2) (frOf [])) n:=by
  funext as7 s60 s61 s62;exact IH as7 s60 s61 s62
 show _=(qbY m0) (fun s4=>K .ret (frOf [(4,dc s4)])) (K (.exit 2) (frOf [])) ((qct m0) (fun s4=>K .ret (frOf [(4,dc s4)])) (K (.exit 2) (frOf [])) n) n as7 s60 s61 s62;rw [← ih];kernel_rfl
theorem qmf (m0:Int) (n:Nat)  : (qkp m0 n) (.exit 2) (frOf [])=(qcW m0) n  := by
 kernel_rfl
theorem qrL (m0:Int) (K:Ex→Fr→Option AV):∀ (n:Nat) (s0:List UInt8) (chars1:List UInt8) (width11:Int) (i12:Int) (r13:Int) (s121:List UInt8) (s121p:Nat),evLP (qU m0) n (sub qaV [1,1,1,1,1,1,0,1,0,0,1,0,0,1,1,1,1,1,0,0]) K (qnN s0 chars1 width11 i12 r13 s121 s121p)=(qbu m0) (fun s4=>K .ret (frOf [(4,dc s4)])) (fun s0 chars1 width11 i12=>K (.exit 6) (qfk s0 chars1 width11 i12)) n s0 chars1 width11 i12 r13 s121 s121p:=by
 intro n;induction n with
 | zero=>intros; rfl
 | succ n IH =>
 intro s0 chars1 width11 i12 r13 s121 s121p;have ih:(fun s0 chars1 width11 i12 r13 s121 s121p=>evLP (qU m0) n (sub qaV [1,1,1,1,1,1,0,1,0,0,1,0,0,1,1,1,1,1,0,0]) K (qnN s0 chars1 width11 i12 r13 s121 s121p))=(qbu m0) (fun s4=>K .ret (frOf [(4,dc s4)])) (fun s0 chars1 width11 i12=>K (.exit 6) (qfk s0 chars1 width11 i12)) n:=by
  funext s0 chars1 width11 i12 r13 s121 s121p;exact IH s0 chars1 width11 i12 r13 s121 s121p
 show _=(qbZ m0) (fun s4=>K .ret (frOf [(4,dc s4)])) (fun s0 chars1 width11 i12=>K (.exit 6) (qfk s0 chars1 width11 i12)) ((qbu m0) (fun s4=>K .ret (frOf [(4,dc s4)])) (fun s0 chars1 width11 i12=>K (.exit 6) (qfk s0 chars1 width11 i12)) n) n s0 chars1 width11 i12 r13 s121 s121p;rw [← ih];kernel_rfl
theorem qmg (m0:Int) (K:Ex→Fr→Option AV) (n:Nat) (s0:List UInt8) (chars1:List UInt8) (width11:Int) (i12:Int):(qko m0 n K) (.exit 6) (qfk s0 chars1 width11 i12)=(qca m0) (fun s4=>K .ret (frOf [(4,dc s4)])) (K (.exit 4) (frOf [])) (fun s0 chars1 i12=>evLP (qU m0) n (sub qaV [1,1,1,1,1,1,0,1,0,0]) K (qfl s0 chars1 i12)) n s0 chars1 width11 i12:=by
 kernel_rfl
theorem qrM (m0:Int) (K:Ex→Fr→Option AV):∀ (n:Nat) (s0:List UInt8) (chars1:List UInt8) (i12:Int),evLP (qU m0) n (sub qaV [1,1,1,1,1,1,0,1,0,0]) K (qfl s0 chars1 i12)=(qbv m0) (fun s4=>K .ret (frOf [(4,dc s4)])) (K (.exit 4) (frOf [])) n s0 chars1 i12:=by
 intro n;induction n with
 | zero=>intros; rfl
 | succ n IH =>
 intro s0 chars1 i12;have ih:(fun s0 chars1 i12=>evLP (qU m0) n (sub qaV [1,1,1,1,1,1,0,1,0,0]) K (qfl s0 chars1 i12))=(qbv m0) (fun s4=>K .ret (frOf [(4,dc s4)])) (K (.exit 4) (frOf [])) n:=by
  funext s0 chars1 i12;exact IH s0 chars1 i12
 show _=(qcX m0) (fun s4=>K .ret (frOf [(4,dc s4)])) (K (.exit 4) (frOf [])) ((qbv m0) (fun s4=>K .ret (frOf [(4,dc s4)])) (K (.exit 4) (frOf [])) n) n s0 chars1 i12;rw [← ih];unfold qcX qx;rw [show (qbu m0) (fun s4=>K .ret (frOf [(4,dc s4)])) ((qca m0) (fun s4=>K .ret (frOf [(4,dc s4)])) (K (.exit 4) (frOf [])) (fun s0 chars1 i12=>evLP (qU m0) n (sub qaV [1,1,1,1,1,1,0,1,0,0]) K (qfl s0 chars1 i12)) n) n=(fun s0 chars1 width11 i12 r13 s121 s121p=>evLP (qU m0) n (sub qaV [1,1,1,1,1,1,0,1,0,0,1,0,0,1,1,1,1,1,0,0]) (qko m0 n K) (qnN s0 chars1 width11 i12 r13 s121 s121p)) from by
  funext s0 chars1 width11 i12 r13 s121 s121p;refine Eq.trans ?_ ((qrL m0) (qko m0 n K) n s0 chars1 width11 i12 r13 s121 s121p).symm;rw [show (fun s0 chars1 width11 i12=>(qko m0 n K) (.exit 6) (qfk s0 chars1 width11 i12))=((qca m0) (fun s4=>K .ret (frOf [(4,dc s4)])) (K (.exit 4) (frOf [])) (fun s0 chars1 i12=>evLP (qU m0) n (sub qaV [1,1,1,1,1,1,0,1,0,0]) K (qfl s0 chars1 i12)) n) from by
   funext s0 chars1 width11 i12;exact (qmg m0) K n s0 chars1 width11 i12]
  all_goals kernel_rfl]
 kernel_rfl
theorem qmh (m0:Int) (n:Nat)  : (qkq m0 n) (.exit 4) (frOf [])=(qcb m0) n  := by
 kernel_rfl
theorem qGB (m0:Int) (n:Nat) (s0:List UInt8) (o0:Lab) (chars1:List UInt8) (o1:Lab):evFnP (qU m0) n qaV qzd [db s0 o0,df chars1 o1]=(qqp m0) n s0 chars1:=by
 unfold qqp qcY;rw [show (qeK m0) qI ((qgx m0) n) n=(fun s28 s28p=>evLP (qU m0) n (sub qaV [1,1,0,1,0,1,0,1,0,0,1,0,0]) (qkn m0 n) (frOf [(28,(.itr s28 s28p))])) from by
  funext s28 s28p;refine Eq.trans ?_ ((quL m0) (qkn m0 n) n s28 s28p).symm;rw [show ((qkn m0 n) (.exit 0) (frOf []))=((qgx m0) n) from by
   exact (qnP m0) n ]
  all_goals kernel_rfl]
 rw [show (qct m0) qI ((qcW m0) n) n=(fun as7 s60 s61 s62=>evLP (qU m0) n (sub qaV [1,1,1,1,0,1,0,1,1,0,0,1,0,0]) (qkp m0 n) (qnO as7 s60 s61 s62)) from by
  funext as7 s60 s61 s62;refine Eq.trans ?_ ((qrK m0) (qkp m0 n) n as7 s60 s61 s62).symm;rw [show ((qkp m0 n) (.exit 2) (frOf []))=((qcW m0) n) from by
   exact (qmf m0) n ]
  all_goals kernel_rfl]
 rw [show (qbv m0) qI ((qcb m0) n) n=(fun s0 chars1 i12=>evLP (qU m0) n (sub qaV [1,1,1,1,1,1,0,1,0,0]) (qkq m0 n) (qfl s0 chars1 i12)) from by
  funext s0 chars1 i12;refine Eq.trans ?_ ((qrM m0) (qkq m0 n) n s0 chars1 i12).symm;rw [show ((qkq m0 n) (.exit 4) (frOf []))=((qcb m0) n) from by
   exact (qmh m0) n ]
  all_goals kernel_rfl]
 kernel_rfl
theorem qrN (m0:Int):qf (Gm m0) Tryz.prog 128 s_z128:=by
 refine qB (qxs m0) (E:=qU m0) (fn:=Tryz.f128) (c:=qaV) (qe rfl qaU) (fun w S hg=>⟨⟨(qb (qhp w S (G_of m0 hg)) (qb (qlS w S (G_of m0 hg)) (qb (qtZ w S (G_of m0 hg)) (qb (quK w S (G_of m0 hg)) (qb (qhq w S (G_of m0 hg)) (qb (qua w S (G_of m0 hg)) (qb (qtY m0 w S hg) qc))))))),fun f sp h=>qZ f sp h w S⟩,hg.2,(fun _ _ h=>by cases h),(fun _ _ h=>by cases h),(fun _ _ h=>by cases h),(fun _ _ _ h=>by cases h)⟩) follows Tryz.func128 (by kernel_rfl) (by kernel_rfl) (by kernel_rfl) ?_;intro avs r h;unfold s_z128 at h;split at h
 ·obtain ⟨hp,rfl⟩:=yj h;obtain ⟨n,hn⟩:=qAK m0 _ _ hp;exact ⟨n,_,(qGB m0 n _ _ _ _).trans hn,.inl rfl⟩
 ·cases h
theorem quM:qf G Tryz.prog 128 s_z128:=fun w S hg=>by obtain ⟨m,h⟩:=G_to hg; exact qrN m w S h
end
end Go.Av
