import Derived.Test.YtnfehbljinflbaaGreatDoorRRRRErEvA
import Derived.Test.YtnfehbljinflbaaGreatDoorRRRREtN
import Derived.Test.YtnfehbljinflbaaGreatDoorRRRRProg
import Derived.KernelRfl
namespace Go.Av
noncomputable section
open Go.Proofs
set_option maxRecDepth 100000
def E_z58:EnvP:=eQ [(97,s_z97),(98,s_z98)] 35 (some [2]) nC nC nP
def C_z58:Code:=cO Tryz.f58
def R_z58:Array ResultVar:=Tryz.f58.results
theorem qTJ (n:Nat) (c0:UInt8) (o0:Lab):evFnP E_z58 n C_z58 R_z58 [dn c0 o0]=qMn n c0:=by
 kernel_rfl
theorem qGq:qe G Tryz.prog 58 s_z58:=by
 refine sQ (E:=E_z58) (c:=C_z58) rfl (fun w S hg=>(qa (qGo w S hg) (qa (qGp w S hg) qc))) Tryz.func58 ?_;intro avs r h;unfold s_z58 at h;split at h <;> cases h
 obtain ⟨n,hn⟩:=qNm _;exact ⟨n,_,(qTJ n _ _).trans hn,.inl rfl⟩
def E_z36:EnvP:=eQ [(58,s_z58)] 10 (some [4]) nC nC nP
def C_z36:Code:=cO Tryz.f36
def R_z36:Array ResultVar:=Tryz.f36.results
theorem qTK (n:Nat) (c0:UInt8) (o0:Lab) (kinds1:Int) (o1:Lab):evFnP E_z36 n C_z36 R_z36 [dn c0 o0,de kinds1 o1]=qSL n c0 kinds1:=by
 kernel_rfl
theorem qmU:qe G Tryz.prog 36 s_z36:=by
 refine sQ (E:=E_z36) (c:=C_z36) rfl (fun w S hg=>(qa (qGq w S hg) qc)) Tryz.func36 ?_;intro avs r h;unfold s_z36 at h;split at h <;> cases h
 obtain ⟨n,hn⟩:=qNn _ _;exact ⟨n,_,(qTK n _ _ _ _).trans hn,.inl rfl⟩
def qmV:EnvP:=eQ [(36,s_z36)] 21 (some [4]) (fun x=>if x=3 then some [1,5,8,9,10] else none) (fun x=>if x=0 then some [5] else if x=1 then some [1,5,8,9,10] else none) nP
def qxq:Code:=cO Tryz.f122
def qPO:Array ResultVar:=Tryz.f122.results
noncomputable def qjl (K:Ex→Fr→OA):=fun n5=>K (.exit 0) (frOf [(5,dc n5)])
def qmW (n:Nat):Ex→Fr→OA:=qg 0 (qmV.cutb 0) (kSeq (evCP qmV (evLP qmV n) (sub qxq [1,1,1])) (kFnP qmV qPO))
def qrO (kinds1:Int) (n5:Int) (s8:LU) (s9:Int) (s10:Int):Fr:=frOf [(1,dc kinds1),(5,dc n5),(8,da s8),(9,dc s9),(10,dc s10)]
theorem qAI (K:Ex→Fr→OA):∀ (n:Nat) (kinds1:Int) (n5:Int) (s8:LU) (s9:Int) (s10:Int),evLP qmV n (sub qxq [1,1,0,1,0,0]) K (qrO kinds1 n5 s8 s9 s10)=qfJ (qjl K) n kinds1 n5 s8 s9 s10:=by
 intro n;induction n with
 | zero=>intros; rfl
 | succ n IH =>
 intro kinds1 n5 s8 s9 s10;have ih:(fun kinds1 n5 s8 s9 s10=>evLP qmV n (sub qxq [1,1,0,1,0,0]) K (qrO kinds1 n5 s8 s9 s10))=qfJ (qjl K) n:=by
  funext kinds1 n5 s8 s9 s10;exact IH kinds1 n5 s8 s9 s10
 show _=qed (qjl K) (qfJ (qjl K) n) n kinds1 n5 s8 s9 s10;rw [← ih];kernel_rfl
theorem qrP (n:Nat) (n5:Int):(qmW n) (.exit 0) (frOf [(5,dc n5)])=qfK n n5:=by
 kernel_rfl
theorem qPP (n:Nat) (s0:LU) (o0:Lab) (kinds1:Int) (o1:Lab):evFnP qmV n qxq qPO [db s0 o0,de kinds1 o1]=qvy n s0 kinds1:=by
 unfold qvy;rw [show qfJ (qfK n) n=(fun kinds1 n5 s8 s9 s10=>evLP qmV n (sub qxq [1,1,0,1,0,0]) (qmW n) (qrO kinds1 n5 s8 s9 s10)) from by
  funext kinds1 n5 s8 s9 s10;refine Eq.trans ?_ (qAI (qmW n) n kinds1 n5 s8 s9 s10).symm;rw [show (qjl (qmW n))=(qfK n) from by
   funext n5;exact qrP n n5]
  all_goals kernel_rfl]
 kernel_rfl
theorem qAJ:qe G Tryz.prog 122 s_z122:=by
 refine sQ (E:=qmV) (c:=qxq) rfl (fun w S hg=>(qa (qmU w S hg) qc)) Tryz.func122 ?_;intro avs r h;unfold s_z122 at h;split at h
 ·obtain ⟨hp,rfl⟩:=yj h;obtain ⟨n,hn⟩:=qIu _ _ hp;exact ⟨n,_,(qPP n _ _ _ _).trans hn,.inl rfl⟩
 ·cases h
def E_z90:EnvP:=eQ [(122,s_z122)] 11 (some [4]) nC nC nP
def C_z90:Code:=cO Tryz.f90
def R_z90:Array ResultVar:=Tryz.f90.results
theorem qTL (n:Nat) (s0:LU) (o0:Lab) (kinds1:Int) (o1:Lab):evFnP E_z90 n C_z90 R_z90 [db s0 o0,de kinds1 o1]=qMo n s0 kinds1:=by
 kernel_rfl
theorem quC:qe G Tryz.prog 90 s_z90:=by
 refine sQ (E:=E_z90) (c:=C_z90) rfl (fun w S hg=>(qa (qAJ w S hg) qc)) Tryz.func90 ?_;intro avs r h;unfold s_z90 at h;split at h
 ·obtain ⟨hp,rfl⟩:=yj h;obtain ⟨n,hn⟩:=qNp _ _ hp;exact ⟨n,_,(qTL n _ _ _ _).trans hn,.inl rfl⟩
 ·cases h
def E_z85:EnvP:=eQ [(90,s_z90)] 13 (some [4]) nC nC nP
def C_z85:Code:=cO Tryz.f85
def R_z85:Array ResultVar:=Tryz.f85.results
theorem qTM (n:Nat) (s0:LU) (o0:Lab) (kinds1:Int) (o1:Lab):evFnP E_z85 n C_z85 R_z85 [db s0 o0,de kinds1 o1]=qMp n s0 kinds1:=by
 kernel_rfl
theorem qGr:qe G Tryz.prog 85 s_z85:=by
 refine sQ (E:=E_z85) (c:=C_z85) rfl (fun w S hg=>(qa (quC w S hg) qc)) Tryz.func85 ?_;intro avs r h;unfold s_z85 at h;split at h
 ·obtain ⟨hp,rfl⟩:=yj h;obtain ⟨n,hn⟩:=qNv _ _ hp;exact ⟨n,_,(qTM n _ _ _ _).trans hn,.inl rfl⟩
 ·cases h
def E_z51:EnvP:=eQ [(82,s_z82),(83,s_z83),(84,s_z84),(85,s_z85)] 64 (some [2,3]) nC (fun x=>if x=0 then some [2,5] else none) nP
def C_z51:Code:=cO Tryz.f51
def R_z51:Array ResultVar:=Tryz.f51.results
theorem qTN (n:Nat) (s0:LU) (o0:Lab):evFnP E_z51 n C_z51 R_z51 [db s0 o0]=qMq n s0:=by
 kernel_rfl
theorem qij:qe G Tryz.prog 51 s_z51:=by
 refine sQ (E:=E_z51) (c:=C_z51) rfl (fun w S hg=>(qa (qGl w S hg) (qa (qii w S hg) (qa (qGn w S hg) (qa (qGr w S hg) qc))))) Tryz.func51 ?_;intro avs r h;unfold s_z51 at h;split at h
 ·obtain ⟨hp,rfl⟩:=yj h;obtain ⟨n,hn⟩:=qNx _ hp;exact ⟨n,_,(qTN n _ _).trans hn,.inl rfl⟩
 ·cases h
def qPQ:EnvP:=eQ [] 19 (some [2]) nC (fun x=>if x=0 then some [] else none) nP
def qPR:Code:=cO Tryz.f117
def qTO:Array ResultVar:=Tryz.f117.results
theorem qPS (n:Nat) (charset0:Int) (o0:Lab):evFnP qPQ n qPR qTO [de charset0 o0]=qCL n charset0:=by
 kernel_rfl
theorem qAK:qe G Tryz.prog 117 s_z117:=by
 refine sQ (E:=qPQ) (c:=qPR) rfl (fun w S hg=>qc) Tryz.func117 ?_;intro avs r h;unfold s_z117 at h;split at h <;> cases h
 obtain ⟨n,hn⟩:=qIO _;exact ⟨n,_,(qPS n _ _).trans hn,.inl rfl⟩
def E_z86:EnvP:=⟨⟨tiOf tis,fnsOf [(117,s_z117)],cnsOf [],[],22,(fun x=>if x=3 then some [1,2] else if x=6 then some [1,2,11,12,13] else none),(fun x=>if x=0 then some [1] else if x=1 then some [1,2] else if x=2 then some [1,2] else if x=3 then some [1,2,11,12,13] else none),none⟩,fun _=>none,fun _=>none,fun _=>[],fun _=>none,fun _=>none,fun _=>none,(fun x=>if x=99 then some (9,3) else none)⟩
def C_z86:Code:=cO Tryz.f86
def R_z86:Array ResultVar:=Tryz.f86.results
def qhw (m1:List (LU×Int)) (n2:Int):Fr:=frOf [(1,(.abs (.sl (.pair .str (.int .i64))) (qmF .str (.int .i64)) m1)),(2,dc n2)]
noncomputable def qpH (K:Ex→Fr→OA):=fun m1 n2=>K (.exit 2) (qhw m1 n2)
noncomputable def qjm (K:Ex→Fr→OA):=fun m1=>K (.exit 0) (frOf [(1,(.abs (.sl (.pair .str (.int .i64))) (qmF .str (.int .i64)) m1))])
def quD (n:Nat) (K:Ex→Fr→OA):Ex→Fr→OA:=qg 2 (E_z86.cutb 2) (qg 1 (E_z86.cutb 1) (kSeq (evCP E_z86 (evLP E_z86 n) (sub C_z86 [1,1,0,1,0,0,1,1])) (kSeq (fun K fr=>evLP E_z86 n (sub C_z86 [1,1,0,1,0,0]) K (cutFP (E_z86.cuts 3) fr)) K)))
def quE (n:Nat):Ex→Fr→OA:=qg 0 (E_z86.cutb 0) (kSeq (evCP E_z86 (evLP E_z86 n) (sub C_z86 [1,1,1])) (kFnR R_z86))
def qAL (m1:List (LU×Int)) (n2:Int) (s11:List LU) (s12:Int) (s13:Int):Fr:=frOf [(1,(.abs (.sl (.pair .str (.int .i64))) (qmF .str (.int .i64)) m1)),(2,dc n2),(11,(.dat (.sl .str) s11 (some (11,9)))),(12,dc s12),(13,dc s13)]
theorem qGs (K:Ex→Fr→OA):∀ (n:Nat) (m1:List (LU×Int)) (n2:Int) (s11:List LU) (s12:Int) (s13:Int),evLP E_z86 n (sub C_z86 [1,1,0,1,0,0,1,0,0,1,0,0]) K (qAL m1 n2 s11 s12 s13)=qyD (qpH K) n m1 n2 s11 s12 s13:=by
 intro n;induction n with
 | zero=>intros; rfl
 | succ n IH =>
 intro m1 n2 s11 s12 s13;have ih:(fun m1 n2 s11 s12 s13=>evLP E_z86 n (sub C_z86 [1,1,0,1,0,0,1,0,0,1,0,0]) K (qAL m1 n2 s11 s12 s13))=qyD (qpH K) n:=by
  funext m1 n2 s11 s12 s13;exact IH m1 n2 s11 s12 s13
 show _=qCM (qpH K) (qyD (qpH K) n) n m1 n2 s11 s12 s13;rw [← ih];kernel_rfl
theorem qxr (K:Ex→Fr→OA) (n:Nat) (m1:List (LU×Int)) (n2:Int):(quD n K) (.exit 2) (qhw m1 n2)=qoh (fun m1=>K (.exit 0) (frOf [(1,(.abs (.sl (.pair .str (.int .i64))) (qmF .str (.int .i64)) m1))])) (fun m1 n2=>evLP E_z86 n (sub C_z86 [1,1,0,1,0,0]) K (qhw m1 n2)) n m1 n2:=by
 kernel_rfl
theorem qGt (K:Ex→Fr→OA):∀ (n:Nat) (m1:List (LU×Int)) (n2:Int),evLP E_z86 n (sub C_z86 [1,1,0,1,0,0]) K (qhw m1 n2)=qyE (qjm K) n m1 n2:=by
 intro n;induction n with
 | zero=>intros; rfl
 | succ n IH =>
 intro m1 n2;have ih:(fun m1 n2=>evLP E_z86 n (sub C_z86 [1,1,0,1,0,0]) K (qhw m1 n2))=qyE (qjm K) n:=by
  funext m1 n2;exact IH m1 n2
 show _=qsP (qjm K) (qyE (qjm K) n) n m1 n2;rw [← ih];unfold qsP;rw [show qyD (qoh (qjm K) (fun m1 n2=>evLP E_z86 n (sub C_z86 [1,1,0,1,0,0]) K (qhw m1 n2)) n) n=(fun m1 n2 s11 s12 s13=>evLP E_z86 n (sub C_z86 [1,1,0,1,0,0,1,0,0,1,0,0]) (quD n K) (qAL m1 n2 s11 s12 s13)) from by
  funext m1 n2 s11 s12 s13;refine Eq.trans ?_ (qGs (quD n K) n m1 n2 s11 s12 s13).symm;rw [show (qpH (quD n K))=(qoh (qjm K) (fun m1 n2=>evLP E_z86 n (sub C_z86 [1,1,0,1,0,0]) K (qhw m1 n2)) n) from by
   funext m1 n2;exact qxr K n m1 n2]
  all_goals kernel_rfl]
 kernel_rfl
theorem qxs (n:Nat) (m1:List (LU×Int)):(quE n) (.exit 0) (frOf [(1,(.abs (.sl (.pair .str (.int .i64))) (qmF .str (.int .i64)) m1))])=qoi n m1:=by
 kernel_rfl
theorem qTP (n:Nat)  : evFnR E_z86 n C_z86 R_z86 []=qMr n  := by
 unfold qMr;rw [show qyE (qoi n) n=(fun m1 n2=>evLP E_z86 n (sub C_z86 [1,1,0,1,0,0]) (quE n) (qhw m1 n2)) from by
  funext m1 n2;refine Eq.trans ?_ (qGt (quE n) n m1 n2).symm;rw [show (qjm (quE n))=(qoi n) from by
   funext m1;exact qxs n m1]
  all_goals kernel_rfl]
 kernel_rfl
theorem qGu:qLr G Tryz.prog 86 s_z86:=by
 refine qiE G_stays (E:=E_z86) (fn:=Tryz.f86) (c:=C_z86) (qj rfl qbd) (fun w S hg=>⟨⟨(qa (qAK w S hg) qc),fun f sp h=>qac f sp h w S⟩,qai w S hg,(fun _ _ h=>by cases h),(fun f sp h=>qaC f sp h),(fun f it h=>qaD f it h),(fun t kt vt h=>(qyY (by kernel_rfl) qah) t kt vt h)⟩) follows Tryz.func86 (by kernel_rfl) (by kernel_rfl) (by kernel_rfl) ?_;intro avs r h;unfold s_z86 at h;split at h <;> cases h
 obtain ⟨n,hn⟩:=qNR;exact ⟨n,(qTP n ).trans hn⟩
def qmX:EnvP:=eQ [] 21 (some [1000004]) (fun x=>if x=1 then some [0,1] else none) (fun x=>if x=0 then some [0] else if x=1 then some [0,1] else none) nP
def qxt:Code:=cO Tryz.f146
def qPT:Array ResultVar:=Tryz.f146.results
noncomputable def qjn (K:Ex→Fr→OA):=fun s0=>K (.exit 0) (frOf [(0,da s0)])
def qmY (n:Nat):Ex→Fr→OA:=qg 0 (qmX.cutb 0) (kSeq (evCP qmX (evLP qmX n) (sub qxt [1,1])) (kFnP qmX qPT))
def qrQ (s0:LU) (c1:UInt8):Fr:=frOf [(0,da s0),(1,dm c1)]
theorem qAM (K:Ex→Fr→OA):∀ (n:Nat) (s0:LU) (c1:UInt8),evLP qmX n (sub qxt [1,0,0,0]) K (qrQ s0 c1)=qlG (qjn K) n s0 c1:=by
 intro n;induction n with
 | zero=>intros; rfl
 | succ n IH =>
 intro s0 c1;have ih:(fun s0 c1=>evLP qmX n (sub qxt [1,0,0,0]) K (qrQ s0 c1))=qlG (qjn K) n:=by
  funext s0 c1;exact IH s0 c1
 show _=qvz (qjn K) (qlG (qjn K) n) n s0 c1;rw [← ih];kernel_rfl
theorem qrR (n:Nat) (s0:LU):(qmY n) (.exit 0) (frOf [(0,da s0)])=qin n s0:=by
 kernel_rfl
theorem qPU (n:Nat) (s0:LU) (o0:Lab) (c1:UInt8) (o1:Lab):evFnP qmX n qxt qPT [db s0 o0,dn c1 o1]=qCN n s0 c1:=by
 unfold qCN;rw [show qlG (qin n) n=(fun s0 c1=>evLP qmX n (sub qxt [1,0,0,0]) (qmY n) (qrQ s0 c1)) from by
  funext s0 c1;refine Eq.trans ?_ (qAM (qmY n) n s0 c1).symm;rw [show (qjn (qmY n))=(qin n) from by
   funext s0;exact qrR n s0]
  all_goals kernel_rfl]
 kernel_rfl
theorem qpI:qe G Tryz.prog 146 s_z146:=by
 refine sQ (E:=qmX) (c:=qxt) rfl (fun w S hg=>qc) Tryz.func146 ?_;intro avs r h;unfold s_z146 at h;split at h
 ·obtain ⟨hp,rfl⟩:=yj h;obtain ⟨n,hn⟩:=qIo _ _ hp;exact ⟨n,_,(qPU n _ _ _ _).trans hn,.inl rfl⟩
 ·cases h
def qmZ:EnvP:=eQ [] 21 (some [2,3]) (fun x=>if x=2 then some [0,2,4] else none) (fun x=>if x=0 then some [2] else if x=1 then some [0,2,4] else none) nP
def qxu:Code:=cO Tryz.f147
def qPV:Array ResultVar:=Tryz.f147.results
noncomputable def qna (K:Ex→Fr→OA):=fun as2 ok3=>K .ret (frOf [(2,(.box (.arr 256 .bool) as2)),(3,dg ok3)])
noncomputable def qjo (K:Ex→Fr→OA):=fun as2=>K (.exit 0) (frOf [(2,(.box (.arr 256 .bool) as2))])
def qnb (n:Nat):Ex→Fr→OA:=qg 0 (qmZ.cutb 0) (kSeq (evCP qmZ (evLP qmZ n) (sub qxu [1,1])) (kFnP qmZ qPV))
def qrS (chars0:LU) (as2:List Bool) (i4:Int):Fr:=frOf [(0,(df chars0 none)),(2,(.box (.arr 256 .bool) as2)),(4,dc i4)]
theorem qAN (K:Ex→Fr→OA):∀ (n:Nat) (chars0:LU) (as2:List Bool) (i4:Int),evLP qmZ n (sub qxu [1,0,1,0,0]) K (qrS chars0 as2 i4)=qfM (qna K) (qjo K) n chars0 as2 i4:=by
 intro n;induction n with
 | zero=>intros; rfl
 | succ n IH =>
 intro chars0 as2 i4;have ih:(fun chars0 as2 i4=>evLP qmZ n (sub qxu [1,0,1,0,0]) K (qrS chars0 as2 i4))=qfM (qna K) (qjo K) n:=by
  funext chars0 as2 i4;exact IH chars0 as2 i4
 show _=qee (qna K) (qjo K) (qfM (qna K) (qjo K) n) n chars0 as2 i4;rw [← ih];kernel_rfl
theorem qrT (n:Nat) (as2:List Bool):(qnb n) (.exit 0) (frOf [(2,(.box (.arr 256 .bool) as2))])=qfN n as2:=by
 kernel_rfl
theorem qPW (n:Nat) (chars0:LU) (o0:Lab):evFnP qmZ n qxu qPV [df chars0 o0]=qCO n chars0:=by
 unfold qCO;rw [show qfM qjN (qfN n) n=(fun chars0 as2 i4=>evLP qmZ n (sub qxu [1,0,1,0,0]) (qnb n) (qrS chars0 as2 i4)) from by
  funext chars0 as2 i4;refine Eq.trans ?_ (qAN (qnb n) n chars0 as2 i4).symm;rw [show (qjo (qnb n))=(qfN n) from by
   funext as2;exact qrT n as2]
  all_goals kernel_rfl]
 kernel_rfl
theorem qjp:qe G Tryz.prog 147 s_z147:=by
 refine sQ (E:=qmZ) (c:=qxu) rfl (fun w S hg=>qc) Tryz.func147 ?_;intro avs r h;unfold s_z147 at h;split at h
 ·obtain ⟨hp,rfl⟩:=yj h;obtain ⟨n,hn⟩:=qIk _ hp;exact ⟨n,_,(qPW n _ _).trans hn,.inl rfl⟩
 ·cases h
def qPX:EnvP:=eQ [] 10 (some [4]) nC nC nP
def qPY:Code:=cO Tryz.f153
def qTQ:Array ResultVar:=Tryz.f153.results
theorem qPZ (n:Nat) (as0:List Bool) (c1:UInt8) (o1:Lab):evFnP qPX n qPY qTQ [.adr (.arr 256 .bool) as0,dn c1 o1]=qCQ n as0 c1:=by
 kernel_rfl
theorem qjq:qe G Tryz.prog 153 s_z153:=by
 refine sQ (E:=qPX) (c:=qPY) rfl (fun w S hg=>qc) Tryz.func153 ?_;intro avs r h;unfold s_z153 at h;split at h <;> cases h
 obtain ⟨n,hn⟩:=qIl _ _;exact ⟨n,_,(qPZ n _ _ _).trans hn,.inl rfl⟩
def qnc:EnvP:=eQ [(153,s_z153)] 20 (some [1000004]) (fun x=>if x=1 then some [0,1] else none) (fun x=>if x=0 then some [0] else if x=1 then some [0,1] else none) nP
def qxv:Code:=cO Tryz.f148
def qQa:Array ResultVar:=Tryz.f148.results
noncomputable def qjr (K:Ex→Fr→OA):=fun s0=>K (.exit 0) (frOf [(0,da s0)])
def qnd (n:Nat):Ex→Fr→OA:=qg 0 (qnc.cutb 0) (kSeq (evCP qnc (evLP qnc n) (sub qxv [1,1])) (kFnP qnc qQa))
def qrU (s0:LU) (as1:List Bool):Fr:=frOf [(0,da s0),(1,(.adr (.arr 256 .bool) as1))]
theorem qAO (K:Ex→Fr→OA):∀ (n:Nat) (s0:LU) (as1:List Bool),evLP qnc n (sub qxv [1,0,0,0]) K (qrU s0 as1)=qhA (qjr K) n s0 as1:=by
 intro n;induction n with
 | zero=>intros; rfl
 | succ n IH =>
 intro s0 as1;have ih:(fun s0 as1=>evLP qnc n (sub qxv [1,0,0,0]) K (qrU s0 as1))=qhA (qjr K) n:=by
  funext s0 as1;exact IH s0 as1
 show _=qio (qjr K) (qhA (qjr K) n) n s0 as1;rw [← ih];kernel_rfl
theorem qrV (n:Nat) (s0:LU):(qnd n) (.exit 0) (frOf [(0,da s0)])=qfO n s0:=by
 kernel_rfl
theorem qQb (n:Nat) (s0:LU) (o0:Lab) (as1:List Bool):evFnP qnc n qxv qQa [db s0 o0,.adr (.arr 256 .bool) as1]=qvA n s0 as1:=by
 unfold qvA;rw [show qhA (qfO n) n=(fun s0 as1=>evLP qnc n (sub qxv [1,0,0,0]) (qnd n) (qrU s0 as1)) from by
  funext s0 as1;refine Eq.trans ?_ (qAO (qnd n) n s0 as1).symm;rw [show (qjr (qnd n))=(qfO n) from by
   funext s0;exact qrV n s0]
  all_goals kernel_rfl]
 kernel_rfl
theorem qpJ:qe G Tryz.prog 148 s_z148:=by
 refine sQ (E:=qnc) (c:=qxv) rfl (fun w S hg=>(qa (qjq w S hg) qc)) Tryz.func148 ?_;intro avs r h;unfold s_z148 at h;split at h
 ·obtain ⟨hp,rfl⟩:=yj h;obtain ⟨n,hn⟩:=qIr _ _ hp;exact ⟨n,_,(qQb n _ _ _).trans hn,.inl rfl⟩
 ·cases h
def qne:EnvP:=eQ [] 24 (some [4]) (fun x=>if x=1 then some [0,1] else none) (fun x=>if x=0 then some [0] else if x=1 then some [0,1] else none) nP
def qxw:Code:=cO Tryz.f156
def qQc:Array ResultVar:=Tryz.f156.results
noncomputable def qjs (K:Ex→Fr→OA):=fun s0=>K (.exit 0) (frOf [(0,da s0)])
def qnf (n:Nat):Ex→Fr→OA:=qg 0 (qne.cutb 0) (kSeq (evCP qne (evLP qne n) (sub qxw [1,1])) (kFnP qne qQc))
def qrW (s0:LU) (c1:UInt8):Fr:=frOf [(0,da s0),(1,dm c1)]
theorem qAP (K:Ex→Fr→OA):∀ (n:Nat) (s0:LU) (c1:UInt8),evLP qne n (sub qxw [1,0,0,0]) K (qrW s0 c1)=qlH (qjs K) n s0 c1:=by
 intro n;induction n with
 | zero=>intros; rfl
 | succ n IH =>
 intro s0 c1;have ih:(fun s0 c1=>evLP qne n (sub qxw [1,0,0,0]) K (qrW s0 c1))=qlH (qjs K) n:=by
  funext s0 c1;exact IH s0 c1
 show _=qvB (qjs K) (qlH (qjs K) n) n s0 c1;rw [← ih];kernel_rfl
theorem qrX (n:Nat) (s0:LU):(qnf n) (.exit 0) (frOf [(0,da s0)])=qip n s0:=by
 kernel_rfl
theorem qQd (n:Nat) (s0:LU) (o0:Lab) (c1:UInt8) (o1:Lab):evFnP qne n qxw qQc [db s0 o0,dn c1 o1]=qCS n s0 c1:=by
 unfold qCS;rw [show qlH (qip n) n=(fun s0 c1=>evLP qne n (sub qxw [1,0,0,0]) (qnf n) (qrW s0 c1)) from by
  funext s0 c1;refine Eq.trans ?_ (qAP (qnf n) n s0 c1).symm;rw [show (qjs (qnf n))=(qip n) from by
   funext s0;exact qrX n s0]
  all_goals kernel_rfl]
 kernel_rfl
theorem qAQ:qe G Tryz.prog 156 s_z156:=by
 refine sQ (E:=qne) (c:=qxw) rfl (fun w S hg=>qc) Tryz.func156 ?_;intro avs r h;unfold s_z156 at h;split at h
 ·obtain ⟨hp,rfl⟩:=yj h;obtain ⟨n,hn⟩:=qIp _ _ hp;exact ⟨n,_,(qQd n _ _ _ _).trans hn,.inl rfl⟩
 ·cases h
def qng:EnvP:=eQ [(153,s_z153)] 23 (some [4]) (fun x=>if x=1 then some [0,1] else none) (fun x=>if x=0 then some [0] else if x=1 then some [0,1] else none) nP
def qxx:Code:=cO Tryz.f157
def qQe:Array ResultVar:=Tryz.f157.results
noncomputable def qjt (K:Ex→Fr→OA):=fun s0=>K (.exit 0) (frOf [(0,da s0)])
def qnh (n:Nat):Ex→Fr→OA:=qg 0 (qng.cutb 0) (kSeq (evCP qng (evLP qng n) (sub qxx [1,1])) (kFnP qng qQe))
def qrY (s0:LU) (as1:List Bool):Fr:=frOf [(0,da s0),(1,(.adr (.arr 256 .bool) as1))]
theorem qAR (K:Ex→Fr→OA):∀ (n:Nat) (s0:LU) (as1:List Bool),evLP qng n (sub qxx [1,0,0,0]) K (qrY s0 as1)=qhB (qjt K) n s0 as1:=by
 intro n;induction n with
 | zero=>intros; rfl
 | succ n IH =>
 intro s0 as1;have ih:(fun s0 as1=>evLP qng n (sub qxx [1,0,0,0]) K (qrY s0 as1))=qhB (qjt K) n:=by
  funext s0 as1;exact IH s0 as1
 show _=qiq (qjt K) (qhB (qjt K) n) n s0 as1;rw [← ih];kernel_rfl
theorem qrZ (n:Nat) (s0:LU):(qnh n) (.exit 0) (frOf [(0,da s0)])=qir n s0:=by
 kernel_rfl
theorem qQf (n:Nat) (s0:LU) (o0:Lab) (as1:List Bool):evFnP qng n qxx qQe [db s0 o0,.adr (.arr 256 .bool) as1]=qvC n s0 as1:=by
 unfold qvC;rw [show qhB (qir n) n=(fun s0 as1=>evLP qng n (sub qxx [1,0,0,0]) (qnh n) (qrY s0 as1)) from by
  funext s0 as1;refine Eq.trans ?_ (qAR (qnh n) n s0 as1).symm;rw [show (qjt (qnh n))=(qir n) from by
   funext s0;exact qrZ n s0]
  all_goals kernel_rfl]
 kernel_rfl
theorem qAS:qe G Tryz.prog 157 s_z157:=by
 refine sQ (E:=qng) (c:=qxx) rfl (fun w S hg=>(qa (qjq w S hg) qc)) Tryz.func157 ?_;intro avs r h;unfold s_z157 at h;split at h
 ·obtain ⟨hp,rfl⟩:=yj h;obtain ⟨n,hn⟩:=qIq _ _ hp;exact ⟨n,_,(qQf n _ _ _).trans hn,.inl rfl⟩
 ·cases h
end
end Go.Av
