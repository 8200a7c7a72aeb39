import Derived.Test.YtnfehbljinflbaaGreatDoorRRRRErEvC
import Derived.Test.YtnfehbljinflbaaGreatDoorRRRREtN
import Derived.Test.YtnfehbljinflbaaGreatDoorRRRRProg
import Derived.KernelRfl
namespace Go.Av
noncomputable section
open Go.Proofs
set_option maxRecDepth 100000
def qQL:EnvP:=⟨⟨tiOf tis,fnsOf [(146,s_z146),(147,s_z147),(148,s_z148),(149,s_z149)],cnsOf [],[],36,(fun _=>none),(fun _=>none),some [1000004]⟩,fun _=>none,fun _=>none,(fun x=>if x=500009 then [5] else []),fun _=>none,fun _=>none,fun _=>none,fun _=>none⟩
def qQM:Code:=cO Tryz.f127
def qUo:Array ResultVar:=Tryz.f127.results
theorem qQN (n:Nat) (s0:LU) (o0:Lab) (cutset1:LU) (o1:Lab):evFnP qQL n qQM qUo [db s0 o0,df cutset1 o1]=qDd n s0 cutset1:=by
 kernel_rfl
theorem qAZ:qe G Tryz.prog 127 s_z127:=by
 refine qB G_stays (E:=qQL) (fn:=Tryz.f127) (c:=qQM) (qj rfl qbd) (fun w S hg=>⟨⟨(qa (qpD w S hg) (qa (qjp w S hg) (qa (qpE w S hg) (qa (qpx w S hg) qc)))),fun f sp h=>qac f sp h w S⟩,qai w S hg,(fun _ _ h=>by cases h),(fun f sp h=>qaD f sp h),(fun f it h=>qaE f it h),(fun t kt vt h=>qah t kt vt h)⟩) follows Tryz.func127 (by kernel_rfl) (by kernel_rfl) (by kernel_rfl) ?_;intro avs r h;unfold s_z127 at h;split at h
 ·obtain ⟨hp,rfl⟩:=yj h;obtain ⟨n,hn⟩:=qJw _ _ hp;exact ⟨n,_,(qQN n _ _ _ _).trans hn,.inl rfl⟩
 ·cases h
def E_z99:EnvP:=eQ [(127,s_z127)] 9 (some [2]) nC nC nP
def C_z99:Code:=cO Tryz.f99
def R_z99:Array ResultVar:=Tryz.f99.results
theorem qUp (n:Nat) (s0:LU) (o0:Lab):evFnP E_z99 n C_z99 R_z99 [db s0 o0]=qME n s0:=by
 kernel_rfl
theorem qGy:qe G Tryz.prog 99 s_z99:=by
 refine sQ (E:=E_z99) (c:=C_z99) rfl (fun w S hg=>(qa (qAZ w S hg) qc)) Tryz.func99 ?_;intro avs r h;unfold s_z99 at h;split at h
 ·obtain ⟨hp,rfl⟩:=yj h;obtain ⟨n,hn⟩:=qOE _ hp;exact ⟨n,_,(qUp n _ _).trans hn,.inl rfl⟩
 ·cases h
def qQO:EnvP:=eQ [] 5 (some [2]) nC nC nP
def qQP:Code:=cO Tryz.f152
def qUq:Array ResultVar:=Tryz.f152.results
theorem qQQ (n:Nat) (bufLen0:Int) (o0:Lab):evFnP qQO n qQP qUq [de bufLen0 o0]=qKj n bufLen0:=by
 kernel_rfl
theorem qBa:qe G Tryz.prog 152 s_z152:=by
 refine sQ (E:=qQO) (c:=qQP) rfl (fun w S hg=>qc) Tryz.func152 ?_;intro avs r h;unfold s_z152 at h;split at h <;> cases h
 obtain ⟨n,hn⟩:=qJt _;exact ⟨n,_,(qQQ n _ _).trans hn,.inl rfl⟩
def qZ (m0:Int):EnvP:=⟨⟨tiOf tis,fnsOf [(147,s_z147),(150,s_z150),(151,s_z151),(152,s_z152),(153,s_z153),(154,s_z154),(155,(s_z155 m0))],cnsOf [],[],129,(fun x=>if x=7 then some [28] else if x=24 then some [7,60,61,62] else if x=32 then some [0,1,12] else if x=48 then some [0,1,11,12,13,121] else none),(fun x=>if x=0 then some [] else if x=1 then some [28] else if x=2 then some [] else if x=3 then some [7,60,61,62] else if x=4 then some [] else if x=5 then some [0,1,11,12] else if x=6 then some [0,1,11,12] else if x=7 then some [0,1,11,12,13,121] else none),some [4]⟩,fun _=>none,glm m0,(fun x=>if x=24 then [7] else []),fun _=>none,fun _=>none,fun _=>none,fun _=>none⟩
def qbl:Code:=cO Tryz.f128
def qGz:Array ResultVar:=Tryz.f128.results
def qni (m0:Int) (n:Nat):Ex→Fr→OA:=qh 0 ((qZ m0).cutb 0) (kSeq (evCP (qZ m0) (evLP (qZ m0) n) (sub qbl [1,1,0,1,0,1,0,1,0,1])) (kSeq (evCP (qZ m0) (evLP (qZ m0) n) (sub qbl [1,1,0,1,0,1,1])) (kSeq (evCP (qZ m0) (evLP (qZ m0) n) (sub qbl [1,1,1])) (kFnP (qZ m0) qGz))))
def qnj (m0:Int) (n:Nat) (K:Ex→Fr→OA):Ex→Fr→OA:=qh 6 ((qZ m0).cutb 6) (qh 5 ((qZ m0).cutb 5) (kSeq (evCP (qZ m0) (evLP (qZ m0) n) (sub qbl [1,1,1,1,1,1,0,1,0,0,1,1])) (kSeq (fun K fr=>evLP (qZ m0) n (sub qbl [1,1,1,1,1,1,0,1,0,0]) K (cutFP ((qZ m0).cuts 32) fr)) K)))
def qnk (m0:Int) (n:Nat):Ex→Fr→OA:=qh 2 ((qZ m0).cutb 2) (kSeq (evCP (qZ m0) (evLP (qZ m0) n) (sub qbl [1,1,1,1,0,1,0,1,1,0,1])) (kSeq (evCP (qZ m0) (evLP (qZ m0) n) (sub qbl [1,1,1,1,1])) (kFnP (qZ m0) qGz)))
def qnl (m0:Int) (n:Nat):Ex→Fr→OA:=qh 4 ((qZ m0).cutb 4) (kSeq (evCP (qZ m0) (evLP (qZ m0) n) (sub qbl [1,1,1,1,1,1,1])) (kFnP (qZ m0) qGz))
def qsc (s0:LU) (chars1:LU) (width11:Int) (i12:Int) (r13:Int) (s121:LU) (s121p:Nat):Fr:=frOf [(0,da s0),(1,(df chars1 none)),(11,dc width11),(12,dc i12),(13,(di r13 none)),(121,(.itr s121 s121p))]
def qsd (as7:List Bool) (s60:LU) (s61:Int) (s62:Int):Fr:=frOf [(7,(.adr (.arr 256 .bool) as7)),(60,da s60),(61,dc s61),(62,dc s62)]
def qgE (s0:LU) (chars1:LU) (width11:Int) (i12:Int):Fr:=frOf [(0,da s0),(1,(df chars1 none)),(11,dc width11),(12,dc i12)]
def qgF (s0:LU) (chars1:LU) (i12:Int):Fr:=frOf [(0,da s0),(1,(df chars1 none)),(12,dc i12)]
theorem qBb (m0:Int) (K:Ex→Fr→OA):∀ (n:Nat) (s28:LU) (s28p:Nat),evLP (qZ m0) n (sub qbl [1,1,0,1,0,1,0,1,0,0,1,0,0]) K (frOf [(28,(.itr s28 s28p))])=(qfS m0) (fun s4=>K .ret (frOf [(4,dc s4)])) (K (.exit 0) (frOf [])) n s28 s28p:=by
 intro n;induction n with
 | zero=>intros; rfl
 | succ n IH =>
 intro s28 s28p;have ih:(fun s28 s28p=>evLP (qZ m0) n (sub qbl [1,1,0,1,0,1,0,1,0,0,1,0,0]) K (frOf [(28,(.itr s28 s28p))]))=(qfS m0) (fun s4=>K .ret (frOf [(4,dc s4)])) (K (.exit 0) (frOf [])) n:=by
  funext s28 s28p;exact IH s28 s28p
 show _=(qee m0) (fun s4=>K .ret (frOf [(4,dc s4)])) (K (.exit 0) (frOf [])) ((qfS m0) (fun s4=>K .ret (frOf [(4,dc s4)])) (K (.exit 0) (frOf [])) n) n s28 s28p;rw [← ih];kernel_rfl
theorem qse (m0:Int) (n:Nat)  : (qni m0 n) (.exit 0) (frOf [])=(qiu m0) n  := by
 kernel_rfl
theorem qxx (m0:Int) (K:Ex→Fr→OA):∀ (n:Nat) (as7:List Bool) (s60:LU) (s61:Int) (s62:Int),evLP (qZ m0) n (sub qbl [1,1,1,1,0,1,0,1,1,0,0,1,0,0]) K (qsd as7 s60 s61 s62)=(qcY m0) (fun s4=>K .ret (frOf [(4,dc s4)])) (K (.exit 2) (frOf [])) n as7 s60 s61 s62:=by
 intro n;induction n with
 | zero=>intros; rfl
 | succ n IH =>
 intro as7 s60 s61 s62;have ih:(fun as7 s60 s61 s62=>evLP (qZ m0) n (sub qbl [1,1,1,1,0,1,0,1,1,0,0,1,0,0]) K (qsd as7 s60 s61 s62))=(qcY m0) (fun s4=>K .ret (frOf [(4,dc s4)])) (K (.exit 2) (frOf [])) n:=by
  funext as7 s60 s61 s62;exact IH as7 s60 s61 s62
 show _=(qcA m0) (fun s4=>K .ret (frOf [(4,dc s4)])) (K (.exit 2) (frOf [])) ((qcY m0) (fun s4=>K .ret (frOf [(4,dc s4)])) (K (.exit 2) (frOf [])) n) n as7 s60 s61 s62;rw [← ih];kernel_rfl
theorem qpJ (m0:Int) (n:Nat)  : (qnk m0 n) (.exit 2) (frOf [])=(qdF m0) n  := by
 kernel_rfl
theorem qxy (m0:Int) (K:Ex→Fr→OA):∀ (n:Nat) (s0:LU) (chars1:LU) (width11:Int) (i12:Int) (r13:Int) (s121:LU) (s121p:Nat),evLP (qZ m0) n (sub qbl [1,1,1,1,1,1,0,1,0,0,1,0,0,1,1,1,1,1,0,0]) K (qsc s0 chars1 width11 i12 r13 s121 s121p)=(qbQ m0) (fun s4=>K .ret (frOf [(4,dc s4)])) (fun s0 chars1 width11 i12=>K (.exit 6) (qgE s0 chars1 width11 i12)) n s0 chars1 width11 i12 r13 s121 s121p:=by
 intro n;induction n with
 | zero=>intros; rfl
 | succ n IH =>
 intro s0 chars1 width11 i12 r13 s121 s121p;have ih:(fun s0 chars1 width11 i12 r13 s121 s121p=>evLP (qZ m0) n (sub qbl [1,1,1,1,1,1,0,1,0,0,1,0,0,1,1,1,1,1,0,0]) K (qsc s0 chars1 width11 i12 r13 s121 s121p))=(qbQ m0) (fun s4=>K .ret (frOf [(4,dc s4)])) (fun s0 chars1 width11 i12=>K (.exit 6) (qgE s0 chars1 width11 i12)) n:=by
  funext s0 chars1 width11 i12 r13 s121 s121p;exact IH s0 chars1 width11 i12 r13 s121 s121p
 show _=(qcB m0) (fun s4=>K .ret (frOf [(4,dc s4)])) (fun s0 chars1 width11 i12=>K (.exit 6) (qgE s0 chars1 width11 i12)) ((qbQ m0) (fun s4=>K .ret (frOf [(4,dc s4)])) (fun s0 chars1 width11 i12=>K (.exit 6) (qgE s0 chars1 width11 i12)) n) n s0 chars1 width11 i12 r13 s121 s121p;rw [← ih];kernel_rfl
theorem qpK (m0:Int) (K:Ex→Fr→OA) (n:Nat) (s0:LU) (chars1:LU) (width11:Int) (i12:Int):(qnj m0 n K) (.exit 6) (qgE s0 chars1 width11 i12)=(qcC m0) (fun s4=>K .ret (frOf [(4,dc s4)])) (K (.exit 4) (frOf [])) (fun s0 chars1 i12=>evLP (qZ m0) n (sub qbl [1,1,1,1,1,1,0,1,0,0]) K (qgF s0 chars1 i12)) n s0 chars1 width11 i12:=by
 kernel_rfl
theorem qxz (m0:Int) (K:Ex→Fr→OA):∀ (n:Nat) (s0:LU) (chars1:LU) (i12:Int),evLP (qZ m0) n (sub qbl [1,1,1,1,1,1,0,1,0,0]) K (qgF s0 chars1 i12)=(qbR m0) (fun s4=>K .ret (frOf [(4,dc s4)])) (K (.exit 4) (frOf [])) n s0 chars1 i12:=by
 intro n;induction n with
 | zero=>intros; rfl
 | succ n IH =>
 intro s0 chars1 i12;have ih:(fun s0 chars1 i12=>evLP (qZ m0) n (sub qbl [1,1,1,1,1,1,0,1,0,0]) K (qgF s0 chars1 i12))=(qbR m0) (fun s4=>K .ret (frOf [(4,dc s4)])) (K (.exit 4) (frOf [])) n:=by
  funext s0 chars1 i12;exact IH s0 chars1 i12
 show _=(qdG m0) (fun s4=>K .ret (frOf [(4,dc s4)])) (K (.exit 4) (frOf [])) ((qbR m0) (fun s4=>K .ret (frOf [(4,dc s4)])) (K (.exit 4) (frOf [])) n) n s0 chars1 i12;rw [← ih];unfold qdG qy;rw [show (qbQ m0) (fun s4=>K .ret (frOf [(4,dc s4)])) ((qcC m0) (fun s4=>K .ret (frOf [(4,dc s4)])) (K (.exit 4) (frOf [])) (fun s0 chars1 i12=>evLP (qZ m0) n (sub qbl [1,1,1,1,1,1,0,1,0,0]) K (qgF s0 chars1 i12)) n) n=(fun s0 chars1 width11 i12 r13 s121 s121p=>evLP (qZ m0) n (sub qbl [1,1,1,1,1,1,0,1,0,0,1,0,0,1,1,1,1,1,0,0]) (qnj m0 n K) (qsc s0 chars1 width11 i12 r13 s121 s121p)) from by
  funext s0 chars1 width11 i12 r13 s121 s121p;refine Eq.trans ?_ ((qxy m0) (qnj m0 n K) n s0 chars1 width11 i12 r13 s121 s121p).symm;rw [show (fun s0 chars1 width11 i12=>(qnj m0 n K) (.exit 6) (qgE s0 chars1 width11 i12))=((qcC m0) (fun s4=>K .ret (frOf [(4,dc s4)])) (K (.exit 4) (frOf [])) (fun s0 chars1 i12=>evLP (qZ m0) n (sub qbl [1,1,1,1,1,1,0,1,0,0]) K (qgF s0 chars1 i12)) n) from by
   funext s0 chars1 width11 i12;exact (qpK m0) K n s0 chars1 width11 i12]
  all_goals kernel_rfl]
 kernel_rfl
theorem qpL (m0:Int) (n:Nat)  : (qnl m0 n) (.exit 4) (frOf [])=(qcD m0) n  := by
 kernel_rfl
theorem qQR (m0:Int) (n:Nat) (s0:LU) (o0:Lab) (chars1:LU) (o1:Lab):evFnP (qZ m0) n qbl qGz [db s0 o0,df chars1 o1]=(qvC m0) n s0 chars1:=by
 unfold qvC qdH;rw [show (qfS m0) qL ((qiu m0) n) n=(fun s28 s28p=>evLP (qZ m0) n (sub qbl [1,1,0,1,0,1,0,1,0,0,1,0,0]) (qni m0 n) (frOf [(28,(.itr s28 s28p))])) from by
  funext s28 s28p;refine Eq.trans ?_ ((qBb m0) (qni m0 n) n s28 s28p).symm;rw [show ((qni m0 n) (.exit 0) (frOf []))=((qiu m0) n) from by
   exact (qse m0) n ]
  all_goals kernel_rfl]
 rw [show (qcY m0) qL ((qdF m0) n) n=(fun as7 s60 s61 s62=>evLP (qZ m0) n (sub qbl [1,1,1,1,0,1,0,1,1,0,0,1,0,0]) (qnk m0 n) (qsd as7 s60 s61 s62)) from by
  funext as7 s60 s61 s62;refine Eq.trans ?_ ((qxx m0) (qnk m0 n) n as7 s60 s61 s62).symm;rw [show ((qnk m0 n) (.exit 2) (frOf []))=((qdF m0) n) from by
   exact (qpJ m0) n ]
  all_goals kernel_rfl]
 rw [show (qbR m0) qL ((qcD m0) n) n=(fun s0 chars1 i12=>evLP (qZ m0) n (sub qbl [1,1,1,1,1,1,0,1,0,0]) (qnl m0 n) (qgF s0 chars1 i12)) from by
  funext s0 chars1 i12;refine Eq.trans ?_ ((qxz m0) (qnl m0 n) n s0 chars1 i12).symm;rw [show ((qnl m0 n) (.exit 4) (frOf []))=((qcD m0) n) from by
   exact (qpL m0) n ]
  all_goals kernel_rfl]
 kernel_rfl
theorem qxA (m0:Int):qe (Gm m0) Tryz.prog 128 s_z128:=by
 refine qB (qEx m0) (E:=qZ m0) (fn:=Tryz.f128) (c:=qbl) (qj rfl qbd) (fun w S hg=>⟨⟨(qa (qjp w S (G_of m0 hg)) (qa (qpw w S (G_of m0 hg)) (qa (qAp w S (G_of m0 hg)) (qa (qBa w S (G_of m0 hg)) (qa (qjq w S (G_of m0 hg)) (qa (qAq w S (G_of m0 hg)) (qa (qAo m0 w S hg) qc))))))),fun f sp h=>qac f sp h w S⟩,hg.2,(fun _ _ h=>by cases h),(fun _ _ h=>by cases h),(fun _ _ h=>by cases h),(fun _ _ _ h=>by cases h)⟩) follows Tryz.func128 (by kernel_rfl) (by kernel_rfl) (by kernel_rfl) ?_;intro avs r h;unfold s_z128 at h;split at h
 ·obtain ⟨hp,rfl⟩:=yj h;obtain ⟨n,hn⟩:=qJv m0 _ _ hp;exact ⟨n,_,(qQR m0 n _ _ _ _).trans hn,.inl rfl⟩
 ·cases h
theorem qBc:qe G Tryz.prog 128 s_z128:=fun w S hg=>by obtain ⟨m,h⟩:=G_to hg; exact qxA m w S h
def qQS:EnvP:=eQ [(128,s_z128)] 11 (some [2]) nC nC nP
def qQT:Code:=cO Tryz.f100
def qUr:Array ResultVar:=Tryz.f100.results
theorem qQU (n:Nat) (s0:LU) (o0:Lab):evFnP qQS n qQT qUr [db s0 o0]=qDf n s0:=by
 kernel_rfl
theorem qBd:qe G Tryz.prog 100 s_z100:=by
 refine sQ (E:=qQS) (c:=qQT) rfl (fun w S hg=>(qa (qBc w S hg) qc)) Tryz.func100 ?_;intro avs r h;unfold s_z100 at h;split at h
 ·obtain ⟨hp,rfl⟩:=yj h;obtain ⟨n,hn⟩:=qJz _ hp;exact ⟨n,_,(qQU n _ _).trans hn,.inl rfl⟩
 ·cases h
def qQV:EnvP:=eQ [(51,s_z51)] 12 (some [2]) nC nC nP
def qQW:Code:=cO Tryz.f130
def qUs:Array ResultVar:=Tryz.f130.results
theorem qQX (n:Nat) (s0:LU) (o0:Lab):evFnP qQV n qQW qUs [db s0 o0]=qDh n s0:=by
 kernel_rfl
theorem qBe:qe G Tryz.prog 130 s_z130:=by
 refine sQ (E:=qQV) (c:=qQW) rfl (fun w S hg=>(qa (qik w S hg) qc)) Tryz.func130 ?_;intro avs r h;unfold s_z130 at h;split at h
 ·obtain ⟨hp,rfl⟩:=yj h;obtain ⟨n,hn⟩:=qIz _ hp;exact ⟨n,_,(qQX n _ _).trans hn,.inl rfl⟩
 ·cases h
def qQY:EnvP:=eQ [(129,s_z129),(130,s_z130)] 16 (some [2]) nC (fun x=>if x=0 then some [] else none) nP
def qQZ:Code:=cO Tryz.f101
def qUt:Array ResultVar:=Tryz.f101.results
theorem qRa (n:Nat) (run0:LU) (o0:Lab):evFnP qQY n qQZ qUt [db run0 o0]=qDi n run0:=by
 kernel_rfl
theorem qBf:qe G Tryz.prog 101 s_z101:=by
 refine sQ (E:=qQY) (c:=qQZ) rfl (fun w S hg=>(qa (qpF w S hg) (qa (qBe w S hg) qc))) Tryz.func101 ?_;intro avs r h;unfold s_z101 at h;split at h
 ·obtain ⟨hp,rfl⟩:=yj h;obtain ⟨n,hn⟩:=qJy _ hp;exact ⟨n,_,(qRa n _ _).trans hn,.inl rfl⟩
 ·cases h
def E_z59:EnvP:=eQ [(83,s_z83),(99,s_z99),(100,s_z100),(101,s_z101)] 29 (some [2]) (fun x=>if x=2 then some [0,3] else none) (fun x=>if x=0 then some [3] else if x=1 then some [0,3] else none) nP
def C_z59:Code:=cO Tryz.f59
def R_z59:Array ResultVar:=Tryz.f59.results
noncomputable def qpM (K:Ex→Fr→OA):=fun l3=>K (.exit 0) (frOf [(3,(.dat (.sl (.pair (.int .i64) (.pair (.sl .byte) .unit))) l3 (some (3,41))))])
def quH (n:Nat):Ex→Fr→OA:=qh 0 (E_z59.cutb 0) (kSeq (evCP E_z59 (evLP E_z59 n) (sub C_z59 [1,1,1])) (kFnP E_z59 R_z59))
def qBg (s0:LU) (l3:List (Int×(LU×Unit))):Fr:=frOf [(0,da s0),(3,(.dat (.sl (.pair (.int .i64) (.pair (.sl .byte) .unit))) l3 (some (3,41))))]
theorem qGA (K:Ex→Fr→OA):∀ (n:Nat) (s0:LU) (l3:List (Int×(LU×Unit))),evLP E_z59 n (sub C_z59 [1,1,0,0,0]) K (qBg s0 l3)=qoh (qpM K) n s0 l3:=by
 intro n;induction n with
 | zero=>intros; rfl
 | succ n IH =>
 intro s0 l3;have ih:(fun s0 l3=>evLP E_z59 n (sub C_z59 [1,1,0,0,0]) K (qBg s0 l3))=qoh (qpM K) n:=by
  funext s0 l3;exact IH s0 l3
 show _=qgJ (qpM K) (qoh (qpM K) n) n s0 l3;rw [← ih];kernel_rfl
theorem qxB (n:Nat) (l3:List (Int×(LU×Unit))):(quH n) (.exit 0) (frOf [(3,(.dat (.sl (.pair (.int .i64) (.pair (.sl .byte) .unit))) l3 (some (3,41))))])=qjU n l3:=by
 kernel_rfl
theorem qUu (n:Nat) (s0:LU) (o0:Lab):evFnP E_z59 n C_z59 R_z59 [db s0 o0]=qHR n s0:=by
 unfold qHR;rw [show qoh (qjU n) n=(fun s0 l3=>evLP E_z59 n (sub C_z59 [1,1,0,0,0]) (quH n) (qBg s0 l3)) from by
  funext s0 l3;refine Eq.trans ?_ (qGA (quH n) n s0 l3).symm;rw [show (qpM (quH n))=(qjU n) from by
   funext l3;exact qxB n l3]
  all_goals kernel_rfl]
 kernel_rfl
theorem qGB:qe G Tryz.prog 59 s_z59:=by
 refine sQ (E:=E_z59) (c:=C_z59) rfl (fun w S hg=>(qa (qij w S hg) (qa (qGy w S hg) (qa (qBd w S hg) (qa (qBf w S hg) qc))))) Tryz.func59 ?_;intro avs r h;unfold s_z59 at h;split at h
 ·obtain ⟨hp,rfl⟩:=yj h;obtain ⟨n,hn⟩:=qOG _ hp;exact ⟨n,_,(qUu n _ _).trans hn,.inl rfl⟩
 ·cases h
def E_z60:EnvP:=eQ [] 51 (some [2]) (fun x=>if x=3 then some [0,3,9,10,11] else none) (fun x=>if x=0 then some [3] else if x=1 then some [0,3,9,10,11] else none) (fun x=>if x=8 then some (.psl 4 (.leaf .bool)) else none)
def C_z60:Code:=cO Tryz.f60
def R_z60:Array ResultVar:=Tryz.f60.results
noncomputable def qpN (K:Ex→Fr→OA):=fun out3=>K (.exit 0) (frOf [(3,(.pv (.psl 4 (.leaf .bool)) out3 none))])
def quI (n:Nat):Ex→Fr→OA:=qh 0 (E_z60.cutb 0) (kSeq (evCP E_z60 (evLP E_z60 n) (sub C_z60 [1,1,1])) (kFnP E_z60 R_z60))
def qBh (l0:List (Int×(LU×Unit))) (out3:List Bool) (s9:List (Int×(LU×Unit))) (s10:Int) (s11:Int):Fr:=frOf [(0,(.dat (.sl (.pair (.int .i64) (.pair (.sl .byte) .unit))) l0 none)),(3,(.pv (.psl 4 (.leaf .bool)) out3 none)),(9,(.dat (.sl (.pair (.int .i64) (.pair (.sl .byte) .unit))) s9 none)),(10,dc s10),(11,dc s11)]
theorem qGC (K:Ex→Fr→OA):∀ (n:Nat) (l0:List (Int×(LU×Unit))) (out3:List Bool) (s9:List (Int×(LU×Unit))) (s10:Int) (s11:Int),evLP E_z60 n (sub C_z60 [1,1,0,1,0,0]) K (qBh l0 out3 s9 s10 s11)=qlf (qpN K) n l0 out3 s9 s10 s11:=by
 intro n;induction n with
 | zero=>intros; rfl
 | succ n IH =>
 intro l0 out3 s9 s10 s11;have ih:(fun l0 out3 s9 s10 s11=>evLP E_z60 n (sub C_z60 [1,1,0,1,0,0]) K (qBh l0 out3 s9 s10 s11))=qlf (qpN K) n:=by
  funext l0 out3 s9 s10 s11;exact IH l0 out3 s9 s10 s11
 show _=qgK (qpN K) (qlf (qpN K) n) n l0 out3 s9 s10 s11;rw [← ih];kernel_rfl
theorem qxC (n:Nat) (out3:List Bool):(quI n) (.exit 0) (frOf [(3,(.pv (.psl 4 (.leaf .bool)) out3 none))])=qjV n out3:=by
 kernel_rfl
theorem qUv (n:Nat) (l0:List (Int×(LU×Unit))) (o0:Lab):evFnP E_z60 n C_z60 R_z60 [.dat (.sl (.pair (.int .i64) (.pair (.sl .byte) .unit))) l0 o0]=qHS n l0:=by
 unfold qHS;rw [show qlf (qjV n) n=(fun l0 out3 s9 s10 s11=>evLP E_z60 n (sub C_z60 [1,1,0,1,0,0]) (quI n) (qBh l0 out3 s9 s10 s11)) from by
  funext l0 out3 s9 s10 s11;refine Eq.trans ?_ (qGC (quI n) n l0 out3 s9 s10 s11).symm;rw [show (qpN (quI n))=(qjV n) from by
   funext out3;exact qxC n out3]
  all_goals kernel_rfl]
 kernel_rfl
theorem qGD:qe G Tryz.prog 60 s_z60:=by
 refine sQ (E:=E_z60) (c:=C_z60) rfl (fun w S hg=>qc) Tryz.func60 ?_;intro avs r h;unfold s_z60 at h;split at h
 ·obtain ⟨hp,rfl⟩:=yj h;obtain ⟨n,hn⟩:=qOH _ hp;exact ⟨n,_,(qUv n _ _).trans hn,.inl rfl⟩
 ·cases h
def E_z37:EnvP:=eQ [(59,s_z59),(60,s_z60)] 28 (some [2]) (fun x=>if x=4 then some [3,4,10,11,12] else none) (fun x=>if x=0 then some [3] else if x=1 then some [3,4,10,11,12] else none) nP
def C_z37:Code:=cO Tryz.f37
def R_z37:Array ResultVar:=Tryz.f37.results
noncomputable def qpO (K:Ex→Fr→OA):=fun out3=>K (.exit 0) (frOf [(3,(.dat (.sl (.pair (.int .i64) (.pair (.sl .byte) .unit))) out3 (some (3,41))))])
def quJ (n:Nat):Ex→Fr→OA:=qh 0 (E_z37.cutb 0) (kSeq (evCP E_z37 (evLP E_z37 n) (sub C_z37 [1,1,1,1])) (kFnP E_z37 R_z37))
def qBi (out3:List (Int×(LU×Unit))) (l4:List (Int×(LU×Unit))) (s10:List Bool) (s11:Int) (s12:Int):Fr:=frOf [(3,(.dat (.sl (.pair (.int .i64) (.pair (.sl .byte) .unit))) out3 (some (3,41)))),(4,(.dat (.sl (.pair (.int .i64) (.pair (.sl .byte) .unit))) l4 (some (4,41)))),(10,(.dat (.sl .bool) s10 (some (10,4)))),(11,dc s11),(12,dc s12)]
theorem qGE (K:Ex→Fr→OA):∀ (n:Nat) (out3:List (Int×(LU×Unit))) (l4:List (Int×(LU×Unit))) (s10:List Bool) (s11:Int) (s12:Int),evLP E_z37 n (sub C_z37 [1,1,1,0,1,0,0]) K (qBi out3 l4 s10 s11 s12)=qoi (qpO K) n out3 l4 s10 s11 s12:=by
 intro n;induction n with
 | zero=>intros; rfl
 | succ n IH =>
 intro out3 l4 s10 s11 s12;have ih:(fun out3 l4 s10 s11 s12=>evLP E_z37 n (sub C_z37 [1,1,1,0,1,0,0]) K (qBi out3 l4 s10 s11 s12))=qoi (qpO K) n:=by
  funext out3 l4 s10 s11 s12;exact IH out3 l4 s10 s11 s12
 show _=qgL (qpO K) (qoi (qpO K) n) n out3 l4 s10 s11 s12;rw [← ih];kernel_rfl
theorem qxD (n:Nat) (out3:List (Int×(LU×Unit))):(quJ n) (.exit 0) (frOf [(3,(.dat (.sl (.pair (.int .i64) (.pair (.sl .byte) .unit))) out3 (some (3,41))))])=qjW n out3:=by
 kernel_rfl
theorem qUw (n:Nat) (s0:LU) (o0:Lab):evFnP E_z37 n C_z37 R_z37 [db s0 o0]=qHT n s0:=by
 unfold qHT;rw [show qoi (qjW n) n=(fun out3 l4 s10 s11 s12=>evLP E_z37 n (sub C_z37 [1,1,1,0,1,0,0]) (quJ n) (qBi out3 l4 s10 s11 s12)) from by
  funext out3 l4 s10 s11 s12;refine Eq.trans ?_ (qGE (quJ n) n out3 l4 s10 s11 s12).symm;rw [show (qpO (quJ n))=(qjW n) from by
   funext out3;exact qxD n out3]
  all_goals kernel_rfl]
 kernel_rfl
theorem qGF:qe G Tryz.prog 37 s_z37:=by
 refine sQ (E:=E_z37) (c:=C_z37) rfl (fun w S hg=>(qa (qGB w S hg) (qa (qGD w S hg) qc))) Tryz.func37 ?_;intro avs r h;unfold s_z37 at h;split at h
 ·obtain ⟨hp,rfl⟩:=yj h;obtain ⟨n,hn⟩:=qOJ _ hp;exact ⟨n,_,(qUw n _ _).trans hn,.inl rfl⟩
 ·cases h
def E_z62:EnvP:=eQ [] 11 (some [13]) nC nC (fun x=>if x=7 then some (.osl 21 (.int .i32)) else if x=10 then some (.osl 21 (.int .i32)) else none)
def C_z62:Code:=cO Tryz.f62
def R_z62:Array ResultVar:=Tryz.f62.results
theorem qUx (n:Nat) (c0:Int) (o0:Lab) (e1:Int) (o1:Lab) (x2:LI):evFnM E_z62 n C_z62 R_z62 [di c0 o0,de e1 o1,.pbox (.osl 21 (.int .i32)) x2 none]=qMF n c0 e1 x2:=by
 kernel_rfl
theorem qGG:qhO G Tryz.prog 62 s_z62:=by
 refine qT G_stays (E:=E_z62) (fn:=Tryz.f62) (c:=C_z62) (qj rfl qbd) (fun w S hg=>⟨⟨qc,fun f sp h=>qac f sp h w S⟩,qai w S hg,(fun _ _ h=>by cases h),(fun f sp h=>qaD f sp h),(fun f it h=>qaE f it h),(fun t kt vt h=>qah t kt vt h)⟩) follows Tryz.func62 (by kernel_rfl) (by kernel_rfl) (by kernel_rfl) ?_;intro avs r h;unfold s_z62 at h;split at h
 ·obtain ⟨hp,rfl⟩:=yj h;obtain ⟨n,hn⟩:=qOe _ _ _ hp;exact ⟨n,(qUx n _ _ _ _ _).trans hn⟩
 ·cases h
def qRb:EnvP:=eQ [] 19 (some [2]) nC (fun x=>if x=0 then some [] else none) nP
def qRc:Code:=cO Tryz.f132
def qUy:Array ResultVar:=Tryz.f132.results
theorem qRd (n:Nat) (c0:UInt8) (o0:Lab):evFnP qRb n qRc qUy [dn c0 o0]=qDk n c0:=by
 kernel_rfl
theorem qpP:qe G Tryz.prog 132 s_z132:=by
 refine sQ (E:=qRb) (c:=qRc) rfl (fun w S hg=>qc) Tryz.func132 ?_;intro avs r h;unfold s_z132 at h;split at h <;> cases h
 obtain ⟨n,hn⟩:=qJi _;exact ⟨n,_,(qRd n _ _).trans hn,.inl rfl⟩
def qRe:EnvP:=eQ [] 6 (some [2]) nC nC nP
def qRf:Code:=cO Tryz.f159
def qUz:Array ResultVar:=Tryz.f159.results
theorem qRg (n:Nat) (c0:UInt8) (o0:Lab):evFnP qRe n qRf qUz [dn c0 o0]=qDm n c0:=by
 kernel_rfl
theorem qpQ:qe G Tryz.prog 159 s_z159:=by
 refine sQ (E:=qRe) (c:=qRf) rfl (fun w S hg=>qc) Tryz.func159 ?_;intro avs r h;unfold s_z159 at h;split at h <;> cases h
 obtain ⟨n,hn⟩:=qJj _;exact ⟨n,_,(qRg n _ _).trans hn,.inl rfl⟩
def qRh:EnvP:=eQ [(159,s_z159)] 40 (some [4]) nC (fun x=>if x=0 then some [1] else none) nP
def qRi:Code:=cO Tryz.f160
def qUA:Array ResultVar:=Tryz.f160.results
theorem qRj (n:Nat) (first0:UInt8) (o0:Lab) (c1:UInt8) (o1:Lab):evFnP qRh n qRi qUA [dn first0 o0,dn c1 o1]=qDn n first0 c1:=by
 kernel_rfl
theorem qBj:qe G Tryz.prog 160 s_z160:=by
 refine sQ (E:=qRh) (c:=qRi) rfl (fun w S hg=>(qa (qpQ w S hg) qc)) Tryz.func160 ?_;intro avs r h;unfold s_z160 at h;split at h <;> cases h
 obtain ⟨n,hn⟩:=qJk _ _;exact ⟨n,_,(qRj n _ _ _ _).trans hn,.inl rfl⟩
def qnm:EnvP:=eQ [(132,s_z132),(159,s_z159),(160,s_z160)] 45 (some [2]) (fun x=>if x=2 then some [0,3] else none) (fun x=>if x=0 then some [0,3] else if x=1 then some [0,3] else none) nP
def qxE:Code:=cO Tryz.f131
def qRk:Array ResultVar:=Tryz.f131.results
def qjw (s0:LU) (n3:Int):Fr:=frOf [(0,da s0),(3,dc n3)]
noncomputable def qjx (K:Ex→Fr→OA):=fun s0 n3=>K (.exit 0) (qjw s0 n3)
noncomputable def qnn (K:Ex→Fr→OA):=fun s2=>K .ret (frOf [(2,dc s2)])
def qno (n:Nat):Ex→Fr→OA:=qh 0 (qnm.cutb 0) (kSeq (evCP qnm (evLP qnm n) (sub qxE [1,1,1])) (kFnP qnm qRk))
theorem qBk (K:Ex→Fr→OA):∀ (n:Nat) (s0:LU) (n3:Int),evLP qnm n (sub qxE [1,1,0,0,0]) K (qjw s0 n3)=qhD (qnn K) (qjx K) n s0 n3:=by
 intro n;induction n with
 | zero=>intros; rfl
 | succ n IH =>
 intro s0 n3;have ih:(fun s0 n3=>evLP qnm n (sub qxE [1,1,0,0,0]) K (qjw s0 n3))=qhD (qnn K) (qjx K) n:=by
  funext s0 n3;exact IH s0 n3
 show _=qci (qnn K) (qjx K) (qhD (qnn K) (qjx K) n) n s0 n3;rw [← ih];kernel_rfl
theorem qsf (n:Nat) (s0:LU) (n3:Int):(qno n) (.exit 0) (qjw s0 n3)=qao n s0 n3:=by
 kernel_rfl
theorem qRl (n:Nat) (s0:LU) (o0:Lab):evFnP qnm n qxE qRk [db s0 o0]=qvD n s0:=by
 unfold qvD;rw [show qhD qaU (qao n) n=(fun s0 n3=>evLP qnm n (sub qxE [1,1,0,0,0]) (qno n) (qjw s0 n3)) from by
  funext s0 n3;refine Eq.trans ?_ (qBk (qno n) n s0 n3).symm;rw [show (qjx (qno n))=(qao n) from by
   funext s0 n3;exact qsf n s0 n3]
  all_goals kernel_rfl]
 kernel_rfl
theorem qBl:qe G Tryz.prog 131 s_z131:=by
 refine sQ (E:=qnm) (c:=qxE) rfl (fun w S hg=>(qa (qpP w S hg) (qa (qpQ w S hg) (qa (qBj w S hg) qc)))) Tryz.func131 ?_;intro avs r h;unfold s_z131 at h;split at h
 ·obtain ⟨hp,rfl⟩:=yj h;obtain ⟨n,hn⟩:=qJl _ hp;exact ⟨n,_,(qRl n _ _).trans hn,.inl rfl⟩
 ·cases h
end
end Go.Av
