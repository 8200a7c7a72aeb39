import Derived.Test.YtnfehbljinflbaaGreatDoorRRRRErEvC
import Derived.Test.YtnfehbljinflbaaGreatDoorRRRREtN
import Derived.Test.YtnfehbljinflbaaGreatDoorRRRRProg
import Derived.KernelRfl
namespace Go.Av
noncomputable section
open Go.Proofs
set_option maxRecDepth 100000
def qQI:EnvP:=⟨⟨tiOf tis,fnsOf [(146,s_z146),(147,s_z147),(148,s_z148),(149,s_z149)],cnsOf [],[],36,(fun _=>none),(fun _=>none),some [1000004]⟩,fun _=>none,fun _=>none,(fun x=>if x=500009 then [5] else []),fun _=>none,fun _=>none,fun _=>none,fun _=>none⟩
def qQJ:Code:=cO Tryz.f127
def qUk:Array ResultVar:=Tryz.f127.results
theorem qQK (n:Nat) (s0:LU) (o0:Lab) (cutset1:LU) (o1:Lab):evFnP qQI n qQJ qUk [db s0 o0,df cutset1 o1]=qDi n s0 cutset1:=by
 kernel_rfl
theorem qBd:qe G Tryz.prog 127 s_z127:=by
 refine qB G_stays (E:=qQI) (fn:=Tryz.f127) (c:=qQJ) (qj rfl qbd) (fun w S hg=>⟨⟨(qa (qpI w S hg) (qa (qjp w S hg) (qa (qpJ w S hg) (qa (qpC w S hg) qc)))),fun f sp h=>qac f sp h w S⟩,qai w S hg,(fun _ _ h=>by cases h),(fun f sp h=>qaC f sp h),(fun f it h=>qaD f it h),(fun t kt vt h=>qah t kt vt h)⟩) follows Tryz.func127 (by kernel_rfl) (by kernel_rfl) (by kernel_rfl) ?_;intro avs r h;unfold s_z127 at h;split at h
 ·obtain ⟨hp,rfl⟩:=yj h;obtain ⟨n,hn⟩:=qJy _ _ hp;exact ⟨n,_,(qQK n _ _ _ _).trans hn,.inl rfl⟩
 ·cases h
def E_z99:EnvP:=eQ [(127,s_z127)] 9 (some [2]) nC nC nP
def C_z99:Code:=cO Tryz.f99
def R_z99:Array ResultVar:=Tryz.f99.results
theorem qUl (n:Nat) (s0:LU) (o0:Lab):evFnP E_z99 n C_z99 R_z99 [db s0 o0]=qMC n s0:=by
 kernel_rfl
theorem qGF:qe G Tryz.prog 99 s_z99:=by
 refine sQ (E:=E_z99) (c:=C_z99) rfl (fun w S hg=>(qa (qBd w S hg) qc)) Tryz.func99 ?_;intro avs r h;unfold s_z99 at h;split at h
 ·obtain ⟨hp,rfl⟩:=yj h;obtain ⟨n,hn⟩:=qOB _ hp;exact ⟨n,_,(qUl n _ _).trans hn,.inl rfl⟩
 ·cases h
def qQL:EnvP:=eQ [] 5 (some [2]) nC nC nP
def qQM:Code:=cO Tryz.f152
def qUm:Array ResultVar:=Tryz.f152.results
theorem qQN (n:Nat) (bufLen0:Int) (o0:Lab):evFnP qQL n qQM qUm [de bufLen0 o0]=qKm n bufLen0:=by
 kernel_rfl
theorem qBe:qe G Tryz.prog 152 s_z152:=by
 refine sQ (E:=qQL) (c:=qQM) rfl (fun w S hg=>qc) Tryz.func152 ?_;intro avs r h;unfold s_z152 at h;split at h <;> cases h
 obtain ⟨n,hn⟩:=qJv _;exact ⟨n,_,(qQN n _ _).trans hn,.inl rfl⟩
def qZ (m0:Int):EnvP:=⟨⟨tiOf tis,fnsOf [(147,s_z147),(150,s_z150),(151,s_z151),(152,s_z152),(153,s_z153),(154,s_z154),(155,(s_z155 m0))],cnsOf [],[],129,(fun x=>if x=7 then some [28] else if x=24 then some [7,60,61,62] else if x=32 then some [0,1,12] else if x=48 then some [0,1,11,12,13,121] else none),(fun x=>if x=0 then some [] else if x=1 then some [28] else if x=2 then some [] else if x=3 then some [7,60,61,62] else if x=4 then some [] else if x=5 then some [0,1,11,12] else if x=6 then some [0,1,11,12] else if x=7 then some [0,1,11,12,13,121] else none),some [4]⟩,fun _=>none,glm m0,(fun x=>if x=24 then [7] else []),fun _=>none,fun _=>none,fun _=>none,fun _=>none⟩
def qbk:Code:=cO Tryz.f128
def qGG:Array ResultVar:=Tryz.f128.results
def qnm (m0:Int) (n:Nat):Ex→Fr→OA:=qg 0 ((qZ m0).cutb 0) (kSeq (evCP (qZ m0) (evLP (qZ m0) n) (sub qbk [1,1,0,1,0,1,0,1,0,1])) (kSeq (evCP (qZ m0) (evLP (qZ m0) n) (sub qbk [1,1,0,1,0,1,1])) (kSeq (evCP (qZ m0) (evLP (qZ m0) n) (sub qbk [1,1,1])) (kFnP (qZ m0) qGG))))
def qnn (m0:Int) (n:Nat) (K:Ex→Fr→OA):Ex→Fr→OA:=qg 6 ((qZ m0).cutb 6) (qg 5 ((qZ m0).cutb 5) (kSeq (evCP (qZ m0) (evLP (qZ m0) n) (sub qbk [1,1,1,1,1,1,0,1,0,0,1,1])) (kSeq (fun K fr=>evLP (qZ m0) n (sub qbk [1,1,1,1,1,1,0,1,0,0]) K (cutFP ((qZ m0).cuts 32) fr)) K)))
def qno (m0:Int) (n:Nat):Ex→Fr→OA:=qg 2 ((qZ m0).cutb 2) (kSeq (evCP (qZ m0) (evLP (qZ m0) n) (sub qbk [1,1,1,1,0,1,0,1,1,0,1])) (kSeq (evCP (qZ m0) (evLP (qZ m0) n) (sub qbk [1,1,1,1,1])) (kFnP (qZ m0) qGG)))
def qnp (m0:Int) (n:Nat):Ex→Fr→OA:=qg 4 ((qZ m0).cutb 4) (kSeq (evCP (qZ m0) (evLP (qZ m0) n) (sub qbk [1,1,1,1,1,1,1])) (kFnP (qZ m0) qGG))
def qse (s0:LU) (chars1:LU) (width11:Int) (i12:Int) (r13:Int) (s121:LU) (s121p:Nat):Fr:=frOf [(0,da s0),(1,(df chars1 none)),(11,dc width11),(12,dc i12),(13,(di r13 none)),(121,(.itr s121 s121p))]
def qsf (as7:List Bool) (s60:LU) (s61:Int) (s62:Int):Fr:=frOf [(7,(.adr (.arr 256 .bool) as7)),(60,da s60),(61,dc s61),(62,dc s62)]
def qgD (s0:LU) (chars1:LU) (width11:Int) (i12:Int):Fr:=frOf [(0,da s0),(1,(df chars1 none)),(11,dc width11),(12,dc i12)]
def qgE (s0:LU) (chars1:LU) (i12:Int):Fr:=frOf [(0,da s0),(1,(df chars1 none)),(12,dc i12)]
theorem qBf (m0:Int) (K:Ex→Fr→OA):∀ (n:Nat) (s28:LU) (s28p:Nat),evLP (qZ m0) n (sub qbk [1,1,0,1,0,1,0,1,0,0,1,0,0]) K (frOf [(28,(.itr s28 s28p))])=(qfR m0) (fun s4=>K .ret (frOf [(4,dc s4)])) (K (.exit 0) (frOf [])) n s28 s28p:=by
 intro n;induction n with
 | zero=>intros; rfl
 | succ n IH =>
 intro s28 s28p;have ih:(fun s28 s28p=>evLP (qZ m0) n (sub qbk [1,1,0,1,0,1,0,1,0,0,1,0,0]) K (frOf [(28,(.itr s28 s28p))]))=(qfR m0) (fun s4=>K .ret (frOf [(4,dc s4)])) (K (.exit 0) (frOf [])) n:=by
  funext s28 s28p;exact IH s28 s28p
 show _=(qef m0) (fun s4=>K .ret (frOf [(4,dc s4)])) (K (.exit 0) (frOf [])) ((qfR m0) (fun s4=>K .ret (frOf [(4,dc s4)])) (K (.exit 0) (frOf [])) n) n s28 s28p;rw [← ih];kernel_rfl
theorem qsg (m0:Int) (n:Nat)  : (qnm m0 n) (.exit 0) (frOf [])=(qiu m0) n  := by
 kernel_rfl
theorem qxB (m0:Int) (K:Ex→Fr→OA):∀ (n:Nat) (as7:List Bool) (s60:LU) (s61:Int) (s62:Int),evLP (qZ m0) n (sub qbk [1,1,1,1,0,1,0,1,1,0,0,1,0,0]) K (qsf as7 s60 s61 s62)=(qcY m0) (fun s4=>K .ret (frOf [(4,dc s4)])) (K (.exit 2) (frOf [])) n as7 s60 s61 s62:=by
 intro n;induction n with
 | zero=>intros; rfl
 | succ n IH =>
 intro as7 s60 s61 s62;have ih:(fun as7 s60 s61 s62=>evLP (qZ m0) n (sub qbk [1,1,1,1,0,1,0,1,1,0,0,1,0,0]) K (qsf as7 s60 s61 s62))=(qcY m0) (fun s4=>K .ret (frOf [(4,dc s4)])) (K (.exit 2) (frOf [])) n:=by
  funext as7 s60 s61 s62;exact IH as7 s60 s61 s62
 show _=(qcA m0) (fun s4=>K .ret (frOf [(4,dc s4)])) (K (.exit 2) (frOf [])) ((qcY m0) (fun s4=>K .ret (frOf [(4,dc s4)])) (K (.exit 2) (frOf [])) n) n as7 s60 s61 s62;rw [← ih];kernel_rfl
theorem qpO (m0:Int) (n:Nat)  : (qno m0 n) (.exit 2) (frOf [])=(qdF m0) n  := by
 kernel_rfl
theorem qxC (m0:Int) (K:Ex→Fr→OA):∀ (n:Nat) (s0:LU) (chars1:LU) (width11:Int) (i12:Int) (r13:Int) (s121:LU) (s121p:Nat),evLP (qZ m0) n (sub qbk [1,1,1,1,1,1,0,1,0,0,1,0,0,1,1,1,1,1,0,0]) K (qse s0 chars1 width11 i12 r13 s121 s121p)=(qbQ m0) (fun s4=>K .ret (frOf [(4,dc s4)])) (fun s0 chars1 width11 i12=>K (.exit 6) (qgD s0 chars1 width11 i12)) n s0 chars1 width11 i12 r13 s121 s121p:=by
 intro n;induction n with
 | zero=>intros; rfl
 | succ n IH =>
 intro s0 chars1 width11 i12 r13 s121 s121p;have ih:(fun s0 chars1 width11 i12 r13 s121 s121p=>evLP (qZ m0) n (sub qbk [1,1,1,1,1,1,0,1,0,0,1,0,0,1,1,1,1,1,0,0]) K (qse s0 chars1 width11 i12 r13 s121 s121p))=(qbQ m0) (fun s4=>K .ret (frOf [(4,dc s4)])) (fun s0 chars1 width11 i12=>K (.exit 6) (qgD s0 chars1 width11 i12)) n:=by
  funext s0 chars1 width11 i12 r13 s121 s121p;exact IH s0 chars1 width11 i12 r13 s121 s121p
 show _=(qcB m0) (fun s4=>K .ret (frOf [(4,dc s4)])) (fun s0 chars1 width11 i12=>K (.exit 6) (qgD s0 chars1 width11 i12)) ((qbQ m0) (fun s4=>K .ret (frOf [(4,dc s4)])) (fun s0 chars1 width11 i12=>K (.exit 6) (qgD s0 chars1 width11 i12)) n) n s0 chars1 width11 i12 r13 s121 s121p;rw [← ih];kernel_rfl
theorem qpP (m0:Int) (K:Ex→Fr→OA) (n:Nat) (s0:LU) (chars1:LU) (width11:Int) (i12:Int):(qnn m0 n K) (.exit 6) (qgD s0 chars1 width11 i12)=(qcC m0) (fun s4=>K .ret (frOf [(4,dc s4)])) (K (.exit 4) (frOf [])) (fun s0 chars1 i12=>evLP (qZ m0) n (sub qbk [1,1,1,1,1,1,0,1,0,0]) K (qgE s0 chars1 i12)) n s0 chars1 width11 i12:=by
 kernel_rfl
theorem qxD (m0:Int) (K:Ex→Fr→OA):∀ (n:Nat) (s0:LU) (chars1:LU) (i12:Int),evLP (qZ m0) n (sub qbk [1,1,1,1,1,1,0,1,0,0]) K (qgE s0 chars1 i12)=(qbR m0) (fun s4=>K .ret (frOf [(4,dc s4)])) (K (.exit 4) (frOf [])) n s0 chars1 i12:=by
 intro n;induction n with
 | zero=>intros; rfl
 | succ n IH =>
 intro s0 chars1 i12;have ih:(fun s0 chars1 i12=>evLP (qZ m0) n (sub qbk [1,1,1,1,1,1,0,1,0,0]) K (qgE s0 chars1 i12))=(qbR m0) (fun s4=>K .ret (frOf [(4,dc s4)])) (K (.exit 4) (frOf [])) n:=by
  funext s0 chars1 i12;exact IH s0 chars1 i12
 show _=(qdG m0) (fun s4=>K .ret (frOf [(4,dc s4)])) (K (.exit 4) (frOf [])) ((qbR m0) (fun s4=>K .ret (frOf [(4,dc s4)])) (K (.exit 4) (frOf [])) n) n s0 chars1 i12;rw [← ih];unfold qdG qy;rw [show (qbQ m0) (fun s4=>K .ret (frOf [(4,dc s4)])) ((qcC m0) (fun s4=>K .ret (frOf [(4,dc s4)])) (K (.exit 4) (frOf [])) (fun s0 chars1 i12=>evLP (qZ m0) n (sub qbk [1,1,1,1,1,1,0,1,0,0]) K (qgE s0 chars1 i12)) n) n=(fun s0 chars1 width11 i12 r13 s121 s121p=>evLP (qZ m0) n (sub qbk [1,1,1,1,1,1,0,1,0,0,1,0,0,1,1,1,1,1,0,0]) (qnn m0 n K) (qse s0 chars1 width11 i12 r13 s121 s121p)) from by
  funext s0 chars1 width11 i12 r13 s121 s121p;refine Eq.trans ?_ ((qxC m0) (qnn m0 n K) n s0 chars1 width11 i12 r13 s121 s121p).symm;rw [show (fun s0 chars1 width11 i12=>(qnn m0 n K) (.exit 6) (qgD s0 chars1 width11 i12))=((qcC m0) (fun s4=>K .ret (frOf [(4,dc s4)])) (K (.exit 4) (frOf [])) (fun s0 chars1 i12=>evLP (qZ m0) n (sub qbk [1,1,1,1,1,1,0,1,0,0]) K (qgE s0 chars1 i12)) n) from by
   funext s0 chars1 width11 i12;exact (qpP m0) K n s0 chars1 width11 i12]
  all_goals kernel_rfl]
 kernel_rfl
theorem qpQ (m0:Int) (n:Nat)  : (qnp m0 n) (.exit 4) (frOf [])=(qcD m0) n  := by
 kernel_rfl
theorem qQO (m0:Int) (n:Nat) (s0:LU) (o0:Lab) (chars1:LU) (o1:Lab):evFnP (qZ m0) n qbk qGG [db s0 o0,df chars1 o1]=(qvF m0) n s0 chars1:=by
 unfold qvF qdH;rw [show (qfR m0) qL ((qiu m0) n) n=(fun s28 s28p=>evLP (qZ m0) n (sub qbk [1,1,0,1,0,1,0,1,0,0,1,0,0]) (qnm m0 n) (frOf [(28,(.itr s28 s28p))])) from by
  funext s28 s28p;refine Eq.trans ?_ ((qBf m0) (qnm m0 n) n s28 s28p).symm;rw [show ((qnm m0 n) (.exit 0) (frOf []))=((qiu m0) n) from by
   exact (qsg m0) n ]
  all_goals kernel_rfl]
 rw [show (qcY m0) qL ((qdF m0) n) n=(fun as7 s60 s61 s62=>evLP (qZ m0) n (sub qbk [1,1,1,1,0,1,0,1,1,0,0,1,0,0]) (qno m0 n) (qsf as7 s60 s61 s62)) from by
  funext as7 s60 s61 s62;refine Eq.trans ?_ ((qxB m0) (qno m0 n) n as7 s60 s61 s62).symm;rw [show ((qno m0 n) (.exit 2) (frOf []))=((qdF m0) n) from by
   exact (qpO m0) n ]
  all_goals kernel_rfl]
 rw [show (qbR m0) qL ((qcD m0) n) n=(fun s0 chars1 i12=>evLP (qZ m0) n (sub qbk [1,1,1,1,1,1,0,1,0,0]) (qnp m0 n) (qgE s0 chars1 i12)) from by
  funext s0 chars1 i12;refine Eq.trans ?_ ((qxD m0) (qnp m0 n) n s0 chars1 i12).symm;rw [show ((qnp m0 n) (.exit 4) (frOf []))=((qcD m0) n) from by
   exact (qpQ m0) n ]
  all_goals kernel_rfl]
 kernel_rfl
theorem qxE (m0:Int):qe (Gm m0) Tryz.prog 128 s_z128:=by
 refine qB (qEB m0) (E:=qZ m0) (fn:=Tryz.f128) (c:=qbk) (qj rfl qbd) (fun w S hg=>⟨⟨(qa (qjp w S (G_of m0 hg)) (qa (qpB w S (G_of m0 hg)) (qa (qAt w S (G_of m0 hg)) (qa (qBe w S (G_of m0 hg)) (qa (qjq w S (G_of m0 hg)) (qa (qAu w S (G_of m0 hg)) (qa (qAs m0 w S hg) qc))))))),fun f sp h=>qac f sp h w S⟩,hg.2,(fun _ _ h=>by cases h),(fun _ _ h=>by cases h),(fun _ _ h=>by cases h),(fun _ _ _ h=>by cases h)⟩) follows Tryz.func128 (by kernel_rfl) (by kernel_rfl) (by kernel_rfl) ?_;intro avs r h;unfold s_z128 at h;split at h
 ·obtain ⟨hp,rfl⟩:=yj h;obtain ⟨n,hn⟩:=qJx m0 _ _ hp;exact ⟨n,_,(qQO m0 n _ _ _ _).trans hn,.inl rfl⟩
 ·cases h
theorem qBg:qe G Tryz.prog 128 s_z128:=fun w S hg=>by obtain ⟨m,h⟩:=G_to hg; exact qxE m w S h
def qQP:EnvP:=eQ [(128,s_z128)] 11 (some [2]) nC nC nP
def qQQ:Code:=cO Tryz.f100
def qUn:Array ResultVar:=Tryz.f100.results
theorem qQR (n:Nat) (s0:LU) (o0:Lab):evFnP qQP n qQQ qUn [db s0 o0]=qDk n s0:=by
 kernel_rfl
theorem qBh:qe G Tryz.prog 100 s_z100:=by
 refine sQ (E:=qQP) (c:=qQQ) rfl (fun w S hg=>(qa (qBg w S hg) qc)) Tryz.func100 ?_;intro avs r h;unfold s_z100 at h;split at h
 ·obtain ⟨hp,rfl⟩:=yj h;obtain ⟨n,hn⟩:=qJB _ hp;exact ⟨n,_,(qQR n _ _).trans hn,.inl rfl⟩
 ·cases h
def qQS:EnvP:=eQ [(51,s_z51)] 12 (some [2]) nC nC nP
def qQT:Code:=cO Tryz.f130
def qUo:Array ResultVar:=Tryz.f130.results
theorem qQU (n:Nat) (s0:LU) (o0:Lab):evFnP qQS n qQT qUo [db s0 o0]=qDm n s0:=by
 kernel_rfl
theorem qBi:qe G Tryz.prog 130 s_z130:=by
 refine sQ (E:=qQS) (c:=qQT) rfl (fun w S hg=>(qa (qij w S hg) qc)) Tryz.func130 ?_;intro avs r h;unfold s_z130 at h;split at h
 ·obtain ⟨hp,rfl⟩:=yj h;obtain ⟨n,hn⟩:=qIB _ hp;exact ⟨n,_,(qQU n _ _).trans hn,.inl rfl⟩
 ·cases h
def qQV:EnvP:=eQ [(129,s_z129),(130,s_z130)] 16 (some [2]) nC (fun x=>if x=0 then some [] else none) nP
def qQW:Code:=cO Tryz.f101
def qUp:Array ResultVar:=Tryz.f101.results
theorem qQX (n:Nat) (run0:LU) (o0:Lab):evFnP qQV n qQW qUp [db run0 o0]=qDn n run0:=by
 kernel_rfl
theorem qBj:qe G Tryz.prog 101 s_z101:=by
 refine sQ (E:=qQV) (c:=qQW) rfl (fun w S hg=>(qa (qpK w S hg) (qa (qBi w S hg) qc))) Tryz.func101 ?_;intro avs r h;unfold s_z101 at h;split at h
 ·obtain ⟨hp,rfl⟩:=yj h;obtain ⟨n,hn⟩:=qJA _ hp;exact ⟨n,_,(qQX n _ _).trans hn,.inl rfl⟩
 ·cases h
def E_z59:EnvP:=eQ [(83,s_z83),(99,s_z99),(100,s_z100),(101,s_z101)] 29 (some [2]) (fun x=>if x=2 then some [0,3] else none) (fun x=>if x=0 then some [3] else if x=1 then some [0,3] else none) nP
def C_z59:Code:=cO Tryz.f59
def R_z59:Array ResultVar:=Tryz.f59.results
noncomputable def qpR (K:Ex→Fr→OA):=fun l3=>K (.exit 0) (frOf [(3,(.dat (.sl (.pair (.int .i64) (.pair (.sl .byte) .unit))) l3 (some (3,41))))])
def quJ (n:Nat):Ex→Fr→OA:=qg 0 (E_z59.cutb 0) (kSeq (evCP E_z59 (evLP E_z59 n) (sub C_z59 [1,1,1])) (kFnP E_z59 R_z59))
def qBk (s0:LU) (l3:List (Int×(LU×Unit))):Fr:=frOf [(0,da s0),(3,(.dat (.sl (.pair (.int .i64) (.pair (.sl .byte) .unit))) l3 (some (3,41))))]
theorem qGH (K:Ex→Fr→OA):∀ (n:Nat) (s0:LU) (l3:List (Int×(LU×Unit))),evLP E_z59 n (sub C_z59 [1,1,0,0,0]) K (qBk s0 l3)=qok (qpR K) n s0 l3:=by
 intro n;induction n with
 | zero=>intros; rfl
 | succ n IH =>
 intro s0 l3;have ih:(fun s0 l3=>evLP E_z59 n (sub C_z59 [1,1,0,0,0]) K (qBk s0 l3))=qok (qpR K) n:=by
  funext s0 l3;exact IH s0 l3
 show _=qgI (qpR K) (qok (qpR K) n) n s0 l3;rw [← ih];kernel_rfl
theorem qxF (n:Nat) (l3:List (Int×(LU×Unit))):(quJ n) (.exit 0) (frOf [(3,(.dat (.sl (.pair (.int .i64) (.pair (.sl .byte) .unit))) l3 (some (3,41))))])=qjU n l3:=by
 kernel_rfl
theorem qUq (n:Nat) (s0:LU) (o0:Lab):evFnP E_z59 n C_z59 R_z59 [db s0 o0]=qHU n s0:=by
 unfold qHU;rw [show qok (qjU n) n=(fun s0 l3=>evLP E_z59 n (sub C_z59 [1,1,0,0,0]) (quJ n) (qBk s0 l3)) from by
  funext s0 l3;refine Eq.trans ?_ (qGH (quJ n) n s0 l3).symm;rw [show (qpR (quJ n))=(qjU n) from by
   funext l3;exact qxF n l3]
  all_goals kernel_rfl]
 kernel_rfl
theorem qGI:qe G Tryz.prog 59 s_z59:=by
 refine sQ (E:=E_z59) (c:=C_z59) rfl (fun w S hg=>(qa (qii w S hg) (qa (qGF w S hg) (qa (qBh w S hg) (qa (qBj w S hg) qc))))) Tryz.func59 ?_;intro avs r h;unfold s_z59 at h;split at h
 ·obtain ⟨hp,rfl⟩:=yj h;obtain ⟨n,hn⟩:=qOD _ hp;exact ⟨n,_,(qUq n _ _).trans hn,.inl rfl⟩
 ·cases h
def E_z60:EnvP:=eQ [] 51 (some [2]) (fun x=>if x=3 then some [0,3,9,10,11] else none) (fun x=>if x=0 then some [3] else if x=1 then some [0,3,9,10,11] else none) (fun x=>if x=8 then some (.psl 4 (.leaf .bool)) else none)
def C_z60:Code:=cO Tryz.f60
def R_z60:Array ResultVar:=Tryz.f60.results
noncomputable def qpS (K:Ex→Fr→OA):=fun out3=>K (.exit 0) (frOf [(3,(.pv (.psl 4 (.leaf .bool)) out3 none))])
def quK (n:Nat):Ex→Fr→OA:=qg 0 (E_z60.cutb 0) (kSeq (evCP E_z60 (evLP E_z60 n) (sub C_z60 [1,1,1])) (kFnP E_z60 R_z60))
def qBl (l0:List (Int×(LU×Unit))) (out3:List Bool) (s9:List (Int×(LU×Unit))) (s10:Int) (s11:Int):Fr:=frOf [(0,(.dat (.sl (.pair (.int .i64) (.pair (.sl .byte) .unit))) l0 none)),(3,(.pv (.psl 4 (.leaf .bool)) out3 none)),(9,(.dat (.sl (.pair (.int .i64) (.pair (.sl .byte) .unit))) s9 none)),(10,dc s10),(11,dc s11)]
theorem qGJ (K:Ex→Fr→OA):∀ (n:Nat) (l0:List (Int×(LU×Unit))) (out3:List Bool) (s9:List (Int×(LU×Unit))) (s10:Int) (s11:Int),evLP E_z60 n (sub C_z60 [1,1,0,1,0,0]) K (qBl l0 out3 s9 s10 s11)=qle (qpS K) n l0 out3 s9 s10 s11:=by
 intro n;induction n with
 | zero=>intros; rfl
 | succ n IH =>
 intro l0 out3 s9 s10 s11;have ih:(fun l0 out3 s9 s10 s11=>evLP E_z60 n (sub C_z60 [1,1,0,1,0,0]) K (qBl l0 out3 s9 s10 s11))=qle (qpS K) n:=by
  funext l0 out3 s9 s10 s11;exact IH l0 out3 s9 s10 s11
 show _=qgJ (qpS K) (qle (qpS K) n) n l0 out3 s9 s10 s11;rw [← ih];kernel_rfl
theorem qxG (n:Nat) (out3:List Bool):(quK n) (.exit 0) (frOf [(3,(.pv (.psl 4 (.leaf .bool)) out3 none))])=qjV n out3:=by
 kernel_rfl
theorem qUr (n:Nat) (l0:List (Int×(LU×Unit))) (o0:Lab):evFnP E_z60 n C_z60 R_z60 [.dat (.sl (.pair (.int .i64) (.pair (.sl .byte) .unit))) l0 o0]=qHV n l0:=by
 unfold qHV;rw [show qle (qjV n) n=(fun l0 out3 s9 s10 s11=>evLP E_z60 n (sub C_z60 [1,1,0,1,0,0]) (quK n) (qBl l0 out3 s9 s10 s11)) from by
  funext l0 out3 s9 s10 s11;refine Eq.trans ?_ (qGJ (quK n) n l0 out3 s9 s10 s11).symm;rw [show (qpS (quK n))=(qjV n) from by
   funext out3;exact qxG n out3]
  all_goals kernel_rfl]
 kernel_rfl
theorem qGK:qe G Tryz.prog 60 s_z60:=by
 refine sQ (E:=E_z60) (c:=C_z60) rfl (fun w S hg=>qc) Tryz.func60 ?_;intro avs r h;unfold s_z60 at h;split at h
 ·obtain ⟨hp,rfl⟩:=yj h;obtain ⟨n,hn⟩:=qOE _ hp;exact ⟨n,_,(qUr n _ _).trans hn,.inl rfl⟩
 ·cases h
def E_z37:EnvP:=eQ [(59,s_z59),(60,s_z60)] 28 (some [2]) (fun x=>if x=4 then some [3,4,10,11,12] else none) (fun x=>if x=0 then some [3] else if x=1 then some [3,4,10,11,12] else none) nP
def C_z37:Code:=cO Tryz.f37
def R_z37:Array ResultVar:=Tryz.f37.results
noncomputable def qpT (K:Ex→Fr→OA):=fun out3=>K (.exit 0) (frOf [(3,(.dat (.sl (.pair (.int .i64) (.pair (.sl .byte) .unit))) out3 (some (3,41))))])
def quL (n:Nat):Ex→Fr→OA:=qg 0 (E_z37.cutb 0) (kSeq (evCP E_z37 (evLP E_z37 n) (sub C_z37 [1,1,1,1])) (kFnP E_z37 R_z37))
def qBm (out3:List (Int×(LU×Unit))) (l4:List (Int×(LU×Unit))) (s10:List Bool) (s11:Int) (s12:Int):Fr:=frOf [(3,(.dat (.sl (.pair (.int .i64) (.pair (.sl .byte) .unit))) out3 (some (3,41)))),(4,(.dat (.sl (.pair (.int .i64) (.pair (.sl .byte) .unit))) l4 (some (4,41)))),(10,(.dat (.sl .bool) s10 (some (10,4)))),(11,dc s11),(12,dc s12)]
theorem qGL (K:Ex→Fr→OA):∀ (n:Nat) (out3:List (Int×(LU×Unit))) (l4:List (Int×(LU×Unit))) (s10:List Bool) (s11:Int) (s12:Int),evLP E_z37 n (sub C_z37 [1,1,1,0,1,0,0]) K (qBm out3 l4 s10 s11 s12)=qol (qpT K) n out3 l4 s10 s11 s12:=by
 intro n;induction n with
 | zero=>intros; rfl
 | succ n IH =>
 intro out3 l4 s10 s11 s12;have ih:(fun out3 l4 s10 s11 s12=>evLP E_z37 n (sub C_z37 [1,1,1,0,1,0,0]) K (qBm out3 l4 s10 s11 s12))=qol (qpT K) n:=by
  funext out3 l4 s10 s11 s12;exact IH out3 l4 s10 s11 s12
 show _=qgK (qpT K) (qol (qpT K) n) n out3 l4 s10 s11 s12;rw [← ih];kernel_rfl
theorem qxH (n:Nat) (out3:List (Int×(LU×Unit))):(quL n) (.exit 0) (frOf [(3,(.dat (.sl (.pair (.int .i64) (.pair (.sl .byte) .unit))) out3 (some (3,41))))])=qjW n out3:=by
 kernel_rfl
theorem qUs (n:Nat) (s0:LU) (o0:Lab):evFnP E_z37 n C_z37 R_z37 [db s0 o0]=qHW n s0:=by
 unfold qHW;rw [show qol (qjW n) n=(fun out3 l4 s10 s11 s12=>evLP E_z37 n (sub C_z37 [1,1,1,0,1,0,0]) (quL n) (qBm out3 l4 s10 s11 s12)) from by
  funext out3 l4 s10 s11 s12;refine Eq.trans ?_ (qGL (quL n) n out3 l4 s10 s11 s12).symm;rw [show (qpT (quL n))=(qjW n) from by
   funext out3;exact qxH n out3]
  all_goals kernel_rfl]
 kernel_rfl
theorem qGM:qe G Tryz.prog 37 s_z37:=by
 refine sQ (E:=E_z37) (c:=C_z37) rfl (fun w S hg=>(qa (qGI w S hg) (qa (qGK w S hg) qc))) Tryz.func37 ?_;intro avs r h;unfold s_z37 at h;split at h
 ·obtain ⟨hp,rfl⟩:=yj h;obtain ⟨n,hn⟩:=qOG _ hp;exact ⟨n,_,(qUs n _ _).trans hn,.inl rfl⟩
 ·cases h
def E_z62:EnvP:=eQ [] 11 (some [13]) nC nC (fun x=>if x=7 then some (.osl 21 (.int .i32)) else if x=10 then some (.osl 21 (.int .i32)) else none)
def C_z62:Code:=cO Tryz.f62
def R_z62:Array ResultVar:=Tryz.f62.results
theorem qUt (n:Nat) (c0:Int) (o0:Lab) (e1:Int) (o1:Lab) (x2:LI):evFnM E_z62 n C_z62 R_z62 [di c0 o0,de e1 o1,.pbox (.osl 21 (.int .i32)) x2 none]=qMD n c0 e1 x2:=by
 kernel_rfl
theorem qGN:qhN G Tryz.prog 62 s_z62:=by
 refine qT G_stays (E:=E_z62) (fn:=Tryz.f62) (c:=C_z62) (qj rfl qbd) (fun w S hg=>⟨⟨qc,fun f sp h=>qac f sp h w S⟩,qai w S hg,(fun _ _ h=>by cases h),(fun f sp h=>qaC f sp h),(fun f it h=>qaD f it h),(fun t kt vt h=>qah t kt vt h)⟩) follows Tryz.func62 (by kernel_rfl) (by kernel_rfl) (by kernel_rfl) ?_;intro avs r h;unfold s_z62 at h;split at h
 ·obtain ⟨hp,rfl⟩:=yj h;obtain ⟨n,hn⟩:=qOb _ _ _ hp;exact ⟨n,(qUt n _ _ _ _ _).trans hn⟩
 ·cases h
def qQY:EnvP:=eQ [] 19 (some [2]) nC (fun x=>if x=0 then some [] else none) nP
def qQZ:Code:=cO Tryz.f132
def qUu:Array ResultVar:=Tryz.f132.results
theorem qRa (n:Nat) (c0:UInt8) (o0:Lab):evFnP qQY n qQZ qUu [dn c0 o0]=qDp n c0:=by
 kernel_rfl
theorem qpU:qe G Tryz.prog 132 s_z132:=by
 refine sQ (E:=qQY) (c:=qQZ) rfl (fun w S hg=>qc) Tryz.func132 ?_;intro avs r h;unfold s_z132 at h;split at h <;> cases h
 obtain ⟨n,hn⟩:=qJk _;exact ⟨n,_,(qRa n _ _).trans hn,.inl rfl⟩
def qRb:EnvP:=eQ [] 6 (some [2]) nC nC nP
def qRc:Code:=cO Tryz.f159
def qUv:Array ResultVar:=Tryz.f159.results
theorem qRd (n:Nat) (c0:UInt8) (o0:Lab):evFnP qRb n qRc qUv [dn c0 o0]=qDr n c0:=by
 kernel_rfl
theorem qpV:qe G Tryz.prog 159 s_z159:=by
 refine sQ (E:=qRb) (c:=qRc) rfl (fun w S hg=>qc) Tryz.func159 ?_;intro avs r h;unfold s_z159 at h;split at h <;> cases h
 obtain ⟨n,hn⟩:=qJl _;exact ⟨n,_,(qRd n _ _).trans hn,.inl rfl⟩
def qRe:EnvP:=eQ [(159,s_z159)] 40 (some [4]) nC (fun x=>if x=0 then some [1] else none) nP
def qRf:Code:=cO Tryz.f160
def qUw:Array ResultVar:=Tryz.f160.results
theorem qRg (n:Nat) (first0:UInt8) (o0:Lab) (c1:UInt8) (o1:Lab):evFnP qRe n qRf qUw [dn first0 o0,dn c1 o1]=qDs n first0 c1:=by
 kernel_rfl
theorem qBn:qe G Tryz.prog 160 s_z160:=by
 refine sQ (E:=qRe) (c:=qRf) rfl (fun w S hg=>(qa (qpV w S hg) qc)) Tryz.func160 ?_;intro avs r h;unfold s_z160 at h;split at h <;> cases h
 obtain ⟨n,hn⟩:=qJm _ _;exact ⟨n,_,(qRg n _ _ _ _).trans hn,.inl rfl⟩
def qnq:EnvP:=eQ [(132,s_z132),(159,s_z159),(160,s_z160)] 45 (some [2]) (fun x=>if x=2 then some [0,3] else none) (fun x=>if x=0 then some [0,3] else if x=1 then some [0,3] else none) nP
def qxI:Code:=cO Tryz.f131
def qRh:Array ResultVar:=Tryz.f131.results
def qjw (s0:LU) (n3:Int):Fr:=frOf [(0,da s0),(3,dc n3)]
noncomputable def qjx (K:Ex→Fr→OA):=fun s0 n3=>K (.exit 0) (qjw s0 n3)
noncomputable def qnr (K:Ex→Fr→OA):=fun s2=>K .ret (frOf [(2,dc s2)])
def qns (n:Nat):Ex→Fr→OA:=qg 0 (qnq.cutb 0) (kSeq (evCP qnq (evLP qnq n) (sub qxI [1,1,1])) (kFnP qnq qRh))
theorem qBo (K:Ex→Fr→OA):∀ (n:Nat) (s0:LU) (n3:Int),evLP qnq n (sub qxI [1,1,0,0,0]) K (qjw s0 n3)=qhC (qnr K) (qjx K) n s0 n3:=by
 intro n;induction n with
 | zero=>intros; rfl
 | succ n IH =>
 intro s0 n3;have ih:(fun s0 n3=>evLP qnq n (sub qxI [1,1,0,0,0]) K (qjw s0 n3))=qhC (qnr K) (qjx K) n:=by
  funext s0 n3;exact IH s0 n3
 show _=qci (qnr K) (qjx K) (qhC (qnr K) (qjx K) n) n s0 n3;rw [← ih];kernel_rfl
theorem qsh (n:Nat) (s0:LU) (n3:Int):(qns n) (.exit 0) (qjw s0 n3)=qao n s0 n3:=by
 kernel_rfl
theorem qRi (n:Nat) (s0:LU) (o0:Lab):evFnP qnq n qxI qRh [db s0 o0]=qvG n s0:=by
 unfold qvG;rw [show qhC qaU (qao n) n=(fun s0 n3=>evLP qnq n (sub qxI [1,1,0,0,0]) (qns n) (qjw s0 n3)) from by
  funext s0 n3;refine Eq.trans ?_ (qBo (qns n) n s0 n3).symm;rw [show (qjx (qns n))=(qao n) from by
   funext s0 n3;exact qsh n s0 n3]
  all_goals kernel_rfl]
 kernel_rfl
theorem qBp:qe G Tryz.prog 131 s_z131:=by
 refine sQ (E:=qnq) (c:=qxI) rfl (fun w S hg=>(qa (qpU w S hg) (qa (qpV w S hg) (qa (qBn w S hg) qc)))) Tryz.func131 ?_;intro avs r h;unfold s_z131 at h;split at h
 ·obtain ⟨hp,rfl⟩:=yj h;obtain ⟨n,hn⟩:=qJn _ hp;exact ⟨n,_,(qRi n _ _).trans hn,.inl rfl⟩
 ·cases h
end
end Go.Av
