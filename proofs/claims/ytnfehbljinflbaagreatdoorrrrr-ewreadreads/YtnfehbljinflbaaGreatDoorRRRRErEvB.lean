import Derived.Test.YtnfehbljinflbaaGreatDoorRRRRErEvA
import Derived.Test.YtnfehbljinflbaaGreatDoorRRRREtN
import Derived.Test.YtnfehbljinflbaaGreatDoorRRRRProg
import Derived.KernelRfl
namespace Go.Av
noncomputable section
open Go.Proofs
set_option maxRecDepth 100000
def E_z58:EnvP:=eQ [(97,s_z97),(98,s_z98)] 35 (some [2]) nC nC nP
def C_z58:Code:=cO Tryz.f58
def R_z58:Array ResultVar:=Tryz.f58.results
theorem qTN (n:Nat) (c0:UInt8) (o0:Lab):evFnP E_z58 n C_z58 R_z58 [dn c0 o0]=qMp n c0:=by
 kernel_rfl
theorem qGj:qe G Tryz.prog 58 s_z58:=by
 refine sQ (E:=E_z58) (c:=C_z58) rfl (fun w S hg=>(qa (qGh w S hg) (qa (qGi w S hg) qc))) Tryz.func58 ?_;intro avs r h;unfold s_z58 at h;split at h <;> cases h
 obtain ⟨n,hn⟩:=qNp _;exact ⟨n,_,(qTN n _ _).trans hn,.inl rfl⟩
def E_z36:EnvP:=eQ [(58,s_z58)] 10 (some [4]) nC nC nP
def C_z36:Code:=cO Tryz.f36
def R_z36:Array ResultVar:=Tryz.f36.results
theorem qTO (n:Nat) (c0:UInt8) (o0:Lab) (kinds1:Int) (o1:Lab):evFnP E_z36 n C_z36 R_z36 [dn c0 o0,de kinds1 o1]=qSP n c0 kinds1:=by
 kernel_rfl
theorem qmQ:qe G Tryz.prog 36 s_z36:=by
 refine sQ (E:=E_z36) (c:=C_z36) rfl (fun w S hg=>(qa (qGj w S hg) qc)) Tryz.func36 ?_;intro avs r h;unfold s_z36 at h;split at h <;> cases h
 obtain ⟨n,hn⟩:=qNq _ _;exact ⟨n,_,(qTO n _ _ _ _).trans hn,.inl rfl⟩
def qmR:EnvP:=eQ [(36,s_z36)] 21 (some [4]) (fun x=>if x=3 then some [1,5,8,9,10] else none) (fun x=>if x=0 then some [5] else if x=1 then some [1,5,8,9,10] else none) nP
def qxm:Code:=cO Tryz.f122
def qPR:Array ResultVar:=Tryz.f122.results
noncomputable def qjl (K:Ex→Fr→OA):=fun n5=>K (.exit 0) (frOf [(5,dc n5)])
def qmS (n:Nat):Ex→Fr→OA:=qh 0 (qmR.cutb 0) (kSeq (evCP qmR (evLP qmR n) (sub qxm [1,1,1])) (kFnP qmR qPR))
def qrM (kinds1:Int) (n5:Int) (s8:LU) (s9:Int) (s10:Int):Fr:=frOf [(1,dc kinds1),(5,dc n5),(8,da s8),(9,dc s9),(10,dc s10)]
theorem qAE (K:Ex→Fr→OA):∀ (n:Nat) (kinds1:Int) (n5:Int) (s8:LU) (s9:Int) (s10:Int),evLP qmR n (sub qxm [1,1,0,1,0,0]) K (qrM kinds1 n5 s8 s9 s10)=qfK (qjl K) n kinds1 n5 s8 s9 s10:=by
 intro n;induction n with
 | zero=>intros; rfl
 | succ n IH =>
 intro kinds1 n5 s8 s9 s10;have ih:(fun kinds1 n5 s8 s9 s10=>evLP qmR n (sub qxm [1,1,0,1,0,0]) K (qrM kinds1 n5 s8 s9 s10))=qfK (qjl K) n:=by
  funext kinds1 n5 s8 s9 s10;exact IH kinds1 n5 s8 s9 s10
 show _=qec (qjl K) (qfK (qjl K) n) n kinds1 n5 s8 s9 s10;rw [← ih];kernel_rfl
theorem qrN (n:Nat) (n5:Int):(qmS n) (.exit 0) (frOf [(5,dc n5)])=qfL n n5:=by
 kernel_rfl
theorem qPS (n:Nat) (s0:LU) (o0:Lab) (kinds1:Int) (o1:Lab):evFnP qmR n qxm qPR [db s0 o0,de kinds1 o1]=qvv n s0 kinds1:=by
 unfold qvv;rw [show qfK (qfL n) n=(fun kinds1 n5 s8 s9 s10=>evLP qmR n (sub qxm [1,1,0,1,0,0]) (qmS n) (qrM kinds1 n5 s8 s9 s10)) from by
  funext kinds1 n5 s8 s9 s10;refine Eq.trans ?_ (qAE (qmS n) n kinds1 n5 s8 s9 s10).symm;rw [show (qjl (qmS n))=(qfL n) from by
   funext n5;exact qrN n n5]
  all_goals kernel_rfl]
 kernel_rfl
theorem qAF:qe G Tryz.prog 122 s_z122:=by
 refine sQ (E:=qmR) (c:=qxm) rfl (fun w S hg=>(qa (qmQ w S hg) qc)) Tryz.func122 ?_;intro avs r h;unfold s_z122 at h;split at h
 ·obtain ⟨hp,rfl⟩:=yj h;obtain ⟨n,hn⟩:=qIs _ _ hp;exact ⟨n,_,(qPS n _ _ _ _).trans hn,.inl rfl⟩
 ·cases h
def E_z90:EnvP:=eQ [(122,s_z122)] 11 (some [4]) nC nC nP
def C_z90:Code:=cO Tryz.f90
def R_z90:Array ResultVar:=Tryz.f90.results
theorem qTP (n:Nat) (s0:LU) (o0:Lab) (kinds1:Int) (o1:Lab):evFnP E_z90 n C_z90 R_z90 [db s0 o0,de kinds1 o1]=qMq n s0 kinds1:=by
 kernel_rfl
theorem quA:qe G Tryz.prog 90 s_z90:=by
 refine sQ (E:=E_z90) (c:=C_z90) rfl (fun w S hg=>(qa (qAF w S hg) qc)) Tryz.func90 ?_;intro avs r h;unfold s_z90 at h;split at h
 ·obtain ⟨hp,rfl⟩:=yj h;obtain ⟨n,hn⟩:=qNs _ _ hp;exact ⟨n,_,(qTP n _ _ _ _).trans hn,.inl rfl⟩
 ·cases h
def E_z85:EnvP:=eQ [(90,s_z90)] 13 (some [4]) nC nC nP
def C_z85:Code:=cO Tryz.f85
def R_z85:Array ResultVar:=Tryz.f85.results
theorem qTQ (n:Nat) (s0:LU) (o0:Lab) (kinds1:Int) (o1:Lab):evFnP E_z85 n C_z85 R_z85 [db s0 o0,de kinds1 o1]=qMr n s0 kinds1:=by
 kernel_rfl
theorem qGk:qe G Tryz.prog 85 s_z85:=by
 refine sQ (E:=E_z85) (c:=C_z85) rfl (fun w S hg=>(qa (quA w S hg) qc)) Tryz.func85 ?_;intro avs r h;unfold s_z85 at h;split at h
 ·obtain ⟨hp,rfl⟩:=yj h;obtain ⟨n,hn⟩:=qNy _ _ hp;exact ⟨n,_,(qTQ n _ _ _ _).trans hn,.inl rfl⟩
 ·cases h
def E_z51:EnvP:=eQ [(82,s_z82),(83,s_z83),(84,s_z84),(85,s_z85)] 64 (some [2,3]) nC (fun x=>if x=0 then some [2,5] else none) nP
def C_z51:Code:=cO Tryz.f51
def R_z51:Array ResultVar:=Tryz.f51.results
theorem qTR (n:Nat) (s0:LU) (o0:Lab):evFnP E_z51 n C_z51 R_z51 [db s0 o0]=qMs n s0:=by
 kernel_rfl
theorem qik:qe G Tryz.prog 51 s_z51:=by
 refine sQ (E:=E_z51) (c:=C_z51) rfl (fun w S hg=>(qa (qGe w S hg) (qa (qij w S hg) (qa (qGg w S hg) (qa (qGk w S hg) qc))))) Tryz.func51 ?_;intro avs r h;unfold s_z51 at h;split at h
 ·obtain ⟨hp,rfl⟩:=yj h;obtain ⟨n,hn⟩:=qNA _ hp;exact ⟨n,_,(qTR n _ _).trans hn,.inl rfl⟩
 ·cases h
def qPT:EnvP:=eQ [] 19 (some [2]) nC (fun x=>if x=0 then some [] else none) nP
def qPU:Code:=cO Tryz.f117
def qTS:Array ResultVar:=Tryz.f117.results
theorem qPV (n:Nat) (charset0:Int) (o0:Lab):evFnP qPT n qPU qTS [de charset0 o0]=qCG n charset0:=by
 kernel_rfl
theorem qAG:qe G Tryz.prog 117 s_z117:=by
 refine sQ (E:=qPT) (c:=qPU) rfl (fun w S hg=>qc) Tryz.func117 ?_;intro avs r h;unfold s_z117 at h;split at h <;> cases h
 obtain ⟨n,hn⟩:=qIM _;exact ⟨n,_,(qPV n _ _).trans hn,.inl rfl⟩
def E_z86:EnvP:=⟨⟨tiOf tis,fnsOf [(117,s_z117)],cnsOf [],[],22,(fun x=>if x=3 then some [1,2] else if x=6 then some [1,2,11,12,13] else none),(fun x=>if x=0 then some [1] else if x=1 then some [1,2] else if x=2 then some [1,2] else if x=3 then some [1,2,11,12,13] else none),none⟩,fun _=>none,fun _=>none,fun _=>[],fun _=>none,fun _=>none,fun _=>none,(fun x=>if x=99 then some (9,3) else none)⟩
def C_z86:Code:=cO Tryz.f86
def R_z86:Array ResultVar:=Tryz.f86.results
def qhx (m1:List (LU×Int)) (n2:Int):Fr:=frOf [(1,(.abs (.sl (.pair .str (.int .i64))) (qmB .str (.int .i64)) m1)),(2,dc n2)]
noncomputable def qpC (K:Ex→Fr→OA):=fun m1 n2=>K (.exit 2) (qhx m1 n2)
noncomputable def qjm (K:Ex→Fr→OA):=fun m1=>K (.exit 0) (frOf [(1,(.abs (.sl (.pair .str (.int .i64))) (qmB .str (.int .i64)) m1))])
def quB (n:Nat) (K:Ex→Fr→OA):Ex→Fr→OA:=qh 2 (E_z86.cutb 2) (qh 1 (E_z86.cutb 1) (kSeq (evCP E_z86 (evLP E_z86 n) (sub C_z86 [1,1,0,1,0,0,1,1])) (kSeq (fun K fr=>evLP E_z86 n (sub C_z86 [1,1,0,1,0,0]) K (cutFP (E_z86.cuts 3) fr)) K)))
def quC (n:Nat):Ex→Fr→OA:=qh 0 (E_z86.cutb 0) (kSeq (evCP E_z86 (evLP E_z86 n) (sub C_z86 [1,1,1])) (kFnR R_z86))
def qAH (m1:List (LU×Int)) (n2:Int) (s11:List LU) (s12:Int) (s13:Int):Fr:=frOf [(1,(.abs (.sl (.pair .str (.int .i64))) (qmB .str (.int .i64)) m1)),(2,dc n2),(11,(.dat (.sl .str) s11 (some (11,9)))),(12,dc s12),(13,dc s13)]
theorem qGl (K:Ex→Fr→OA):∀ (n:Nat) (m1:List (LU×Int)) (n2:Int) (s11:List LU) (s12:Int) (s13:Int),evLP E_z86 n (sub C_z86 [1,1,0,1,0,0,1,0,0,1,0,0]) K (qAH m1 n2 s11 s12 s13)=qyB (qpC K) n m1 n2 s11 s12 s13:=by
 intro n;induction n with
 | zero=>intros; rfl
 | succ n IH =>
 intro m1 n2 s11 s12 s13;have ih:(fun m1 n2 s11 s12 s13=>evLP E_z86 n (sub C_z86 [1,1,0,1,0,0,1,0,0,1,0,0]) K (qAH m1 n2 s11 s12 s13))=qyB (qpC K) n:=by
  funext m1 n2 s11 s12 s13;exact IH m1 n2 s11 s12 s13
 show _=qCH (qpC K) (qyB (qpC K) n) n m1 n2 s11 s12 s13;rw [← ih];kernel_rfl
theorem qxn (K:Ex→Fr→OA) (n:Nat) (m1:List (LU×Int)) (n2:Int):(quB n K) (.exit 2) (qhx m1 n2)=qoe (fun m1=>K (.exit 0) (frOf [(1,(.abs (.sl (.pair .str (.int .i64))) (qmB .str (.int .i64)) m1))])) (fun m1 n2=>evLP E_z86 n (sub C_z86 [1,1,0,1,0,0]) K (qhx m1 n2)) n m1 n2:=by
 kernel_rfl
theorem qGm (K:Ex→Fr→OA):∀ (n:Nat) (m1:List (LU×Int)) (n2:Int),evLP E_z86 n (sub C_z86 [1,1,0,1,0,0]) K (qhx m1 n2)=qyC (qjm K) n m1 n2:=by
 intro n;induction n with
 | zero=>intros; rfl
 | succ n IH =>
 intro m1 n2;have ih:(fun m1 n2=>evLP E_z86 n (sub C_z86 [1,1,0,1,0,0]) K (qhx m1 n2))=qyC (qjm K) n:=by
  funext m1 n2;exact IH m1 n2
 show _=qsN (qjm K) (qyC (qjm K) n) n m1 n2;rw [← ih];unfold qsN;rw [show qyB (qoe (qjm K) (fun m1 n2=>evLP E_z86 n (sub C_z86 [1,1,0,1,0,0]) K (qhx m1 n2)) n) n=(fun m1 n2 s11 s12 s13=>evLP E_z86 n (sub C_z86 [1,1,0,1,0,0,1,0,0,1,0,0]) (quB n K) (qAH m1 n2 s11 s12 s13)) from by
  funext m1 n2 s11 s12 s13;refine Eq.trans ?_ (qGl (quB n K) n m1 n2 s11 s12 s13).symm;rw [show (qpC (quB n K))=(qoe (qjm K) (fun m1 n2=>evLP E_z86 n (sub C_z86 [1,1,0,1,0,0]) K (qhx m1 n2)) n) from by
   funext m1 n2;exact qxn K n m1 n2]
  all_goals kernel_rfl]
 kernel_rfl
theorem qxo (n:Nat) (m1:List (LU×Int)):(quC n) (.exit 0) (frOf [(1,(.abs (.sl (.pair .str (.int .i64))) (qmB .str (.int .i64)) m1))])=qof n m1:=by
 kernel_rfl
theorem qTT (n:Nat)  : evFnR E_z86 n C_z86 R_z86 []=qMt n  := by
 unfold qMt;rw [show qyC (qof n) n=(fun m1 n2=>evLP E_z86 n (sub C_z86 [1,1,0,1,0,0]) (quC n) (qhx m1 n2)) from by
  funext m1 n2;refine Eq.trans ?_ (qGm (quC n) n m1 n2).symm;rw [show (qjm (quC n))=(qof n) from by
   funext m1;exact qxo n m1]
  all_goals kernel_rfl]
 kernel_rfl
theorem qGn:qLq G Tryz.prog 86 s_z86:=by
 refine qiE G_stays (E:=E_z86) (fn:=Tryz.f86) (c:=C_z86) (qj rfl qbd) (fun w S hg=>⟨⟨(qa (qAG w S hg) qc),fun f sp h=>qac f sp h w S⟩,qai w S hg,(fun _ _ h=>by cases h),(fun f sp h=>qaD f sp h),(fun f it h=>qaE f it h),(fun t kt vt h=>(qyW (by kernel_rfl) qah) t kt vt h)⟩) follows Tryz.func86 (by kernel_rfl) (by kernel_rfl) (by kernel_rfl) ?_;intro avs r h;unfold s_z86 at h;split at h <;> cases h
 obtain ⟨n,hn⟩:=qNU;exact ⟨n,(qTT n ).trans hn⟩
def qmT:EnvP:=eQ [] 21 (some [1000004]) (fun x=>if x=1 then some [0,1] else none) (fun x=>if x=0 then some [0] else if x=1 then some [0,1] else none) nP
def qxp:Code:=cO Tryz.f146
def qPW:Array ResultVar:=Tryz.f146.results
noncomputable def qjn (K:Ex→Fr→OA):=fun s0=>K (.exit 0) (frOf [(0,da s0)])
def qmU (n:Nat):Ex→Fr→OA:=qh 0 (qmT.cutb 0) (kSeq (evCP qmT (evLP qmT n) (sub qxp [1,1])) (kFnP qmT qPW))
def qrO (s0:LU) (c1:UInt8):Fr:=frOf [(0,da s0),(1,dm c1)]
theorem qAI (K:Ex→Fr→OA):∀ (n:Nat) (s0:LU) (c1:UInt8),evLP qmT n (sub qxp [1,0,0,0]) K (qrO s0 c1)=qlE (qjn K) n s0 c1:=by
 intro n;induction n with
 | zero=>intros; rfl
 | succ n IH =>
 intro s0 c1;have ih:(fun s0 c1=>evLP qmT n (sub qxp [1,0,0,0]) K (qrO s0 c1))=qlE (qjn K) n:=by
  funext s0 c1;exact IH s0 c1
 show _=qvw (qjn K) (qlE (qjn K) n) n s0 c1;rw [← ih];kernel_rfl
theorem qrP (n:Nat) (s0:LU):(qmU n) (.exit 0) (frOf [(0,da s0)])=qin n s0:=by
 kernel_rfl
theorem qPX (n:Nat) (s0:LU) (o0:Lab) (c1:UInt8) (o1:Lab):evFnP qmT n qxp qPW [db s0 o0,dn c1 o1]=qCI n s0 c1:=by
 unfold qCI;rw [show qlE (qin n) n=(fun s0 c1=>evLP qmT n (sub qxp [1,0,0,0]) (qmU n) (qrO s0 c1)) from by
  funext s0 c1;refine Eq.trans ?_ (qAI (qmU n) n s0 c1).symm;rw [show (qjn (qmU n))=(qin n) from by
   funext s0;exact qrP n s0]
  all_goals kernel_rfl]
 kernel_rfl
theorem qpD:qe G Tryz.prog 146 s_z146:=by
 refine sQ (E:=qmT) (c:=qxp) rfl (fun w S hg=>qc) Tryz.func146 ?_;intro avs r h;unfold s_z146 at h;split at h
 ·obtain ⟨hp,rfl⟩:=yj h;obtain ⟨n,hn⟩:=qIm _ _ hp;exact ⟨n,_,(qPX n _ _ _ _).trans hn,.inl rfl⟩
 ·cases h
def qmV:EnvP:=eQ [] 21 (some [2,3]) (fun x=>if x=2 then some [0,2,4] else none) (fun x=>if x=0 then some [2] else if x=1 then some [0,2,4] else none) nP
def qxq:Code:=cO Tryz.f147
def qPY:Array ResultVar:=Tryz.f147.results
noncomputable def qmW (K:Ex→Fr→OA):=fun as2 ok3=>K .ret (frOf [(2,(.box (.arr 256 .bool) as2)),(3,dg ok3)])
noncomputable def qjo (K:Ex→Fr→OA):=fun as2=>K (.exit 0) (frOf [(2,(.box (.arr 256 .bool) as2))])
def qmX (n:Nat):Ex→Fr→OA:=qh 0 (qmV.cutb 0) (kSeq (evCP qmV (evLP qmV n) (sub qxq [1,1])) (kFnP qmV qPY))
def qrQ (chars0:LU) (as2:List Bool) (i4:Int):Fr:=frOf [(0,(df chars0 none)),(2,(.box (.arr 256 .bool) as2)),(4,dc i4)]
theorem qAJ (K:Ex→Fr→OA):∀ (n:Nat) (chars0:LU) (as2:List Bool) (i4:Int),evLP qmV n (sub qxq [1,0,1,0,0]) K (qrQ chars0 as2 i4)=qfN (qmW K) (qjo K) n chars0 as2 i4:=by
 intro n;induction n with
 | zero=>intros; rfl
 | succ n IH =>
 intro chars0 as2 i4;have ih:(fun chars0 as2 i4=>evLP qmV n (sub qxq [1,0,1,0,0]) K (qrQ chars0 as2 i4))=qfN (qmW K) (qjo K) n:=by
  funext chars0 as2 i4;exact IH chars0 as2 i4
 show _=qed (qmW K) (qjo K) (qfN (qmW K) (qjo K) n) n chars0 as2 i4;rw [← ih];kernel_rfl
theorem qrR (n:Nat) (as2:List Bool):(qmX n) (.exit 0) (frOf [(2,(.box (.arr 256 .bool) as2))])=qfO n as2:=by
 kernel_rfl
theorem qPZ (n:Nat) (chars0:LU) (o0:Lab):evFnP qmV n qxq qPY [df chars0 o0]=qCJ n chars0:=by
 unfold qCJ;rw [show qfN qjN (qfO n) n=(fun chars0 as2 i4=>evLP qmV n (sub qxq [1,0,1,0,0]) (qmX n) (qrQ chars0 as2 i4)) from by
  funext chars0 as2 i4;refine Eq.trans ?_ (qAJ (qmX n) n chars0 as2 i4).symm;rw [show (qjo (qmX n))=(qfO n) from by
   funext as2;exact qrR n as2]
  all_goals kernel_rfl]
 kernel_rfl
theorem qjp:qe G Tryz.prog 147 s_z147:=by
 refine sQ (E:=qmV) (c:=qxq) rfl (fun w S hg=>qc) Tryz.func147 ?_;intro avs r h;unfold s_z147 at h;split at h
 ·obtain ⟨hp,rfl⟩:=yj h;obtain ⟨n,hn⟩:=qIi _ hp;exact ⟨n,_,(qPZ n _ _).trans hn,.inl rfl⟩
 ·cases h
def qQa:EnvP:=eQ [] 10 (some [4]) nC nC nP
def qQb:Code:=cO Tryz.f153
def qTU:Array ResultVar:=Tryz.f153.results
theorem qQc (n:Nat) (as0:List Bool) (c1:UInt8) (o1:Lab):evFnP qQa n qQb qTU [.adr (.arr 256 .bool) as0,dn c1 o1]=qCL n as0 c1:=by
 kernel_rfl
theorem qjq:qe G Tryz.prog 153 s_z153:=by
 refine sQ (E:=qQa) (c:=qQb) rfl (fun w S hg=>qc) Tryz.func153 ?_;intro avs r h;unfold s_z153 at h;split at h <;> cases h
 obtain ⟨n,hn⟩:=qIj _ _;exact ⟨n,_,(qQc n _ _ _).trans hn,.inl rfl⟩
def qmY:EnvP:=eQ [(153,s_z153)] 20 (some [1000004]) (fun x=>if x=1 then some [0,1] else none) (fun x=>if x=0 then some [0] else if x=1 then some [0,1] else none) nP
def qxr:Code:=cO Tryz.f148
def qQd:Array ResultVar:=Tryz.f148.results
noncomputable def qjr (K:Ex→Fr→OA):=fun s0=>K (.exit 0) (frOf [(0,da s0)])
def qmZ (n:Nat):Ex→Fr→OA:=qh 0 (qmY.cutb 0) (kSeq (evCP qmY (evLP qmY n) (sub qxr [1,1])) (kFnP qmY qQd))
def qrS (s0:LU) (as1:List Bool):Fr:=frOf [(0,da s0),(1,(.adr (.arr 256 .bool) as1))]
theorem qAK (K:Ex→Fr→OA):∀ (n:Nat) (s0:LU) (as1:List Bool),evLP qmY n (sub qxr [1,0,0,0]) K (qrS s0 as1)=qhB (qjr K) n s0 as1:=by
 intro n;induction n with
 | zero=>intros; rfl
 | succ n IH =>
 intro s0 as1;have ih:(fun s0 as1=>evLP qmY n (sub qxr [1,0,0,0]) K (qrS s0 as1))=qhB (qjr K) n:=by
  funext s0 as1;exact IH s0 as1
 show _=qio (qjr K) (qhB (qjr K) n) n s0 as1;rw [← ih];kernel_rfl
theorem qrT (n:Nat) (s0:LU):(qmZ n) (.exit 0) (frOf [(0,da s0)])=qfP n s0:=by
 kernel_rfl
theorem qQe (n:Nat) (s0:LU) (o0:Lab) (as1:List Bool):evFnP qmY n qxr qQd [db s0 o0,.adr (.arr 256 .bool) as1]=qvx n s0 as1:=by
 unfold qvx;rw [show qhB (qfP n) n=(fun s0 as1=>evLP qmY n (sub qxr [1,0,0,0]) (qmZ n) (qrS s0 as1)) from by
  funext s0 as1;refine Eq.trans ?_ (qAK (qmZ n) n s0 as1).symm;rw [show (qjr (qmZ n))=(qfP n) from by
   funext s0;exact qrT n s0]
  all_goals kernel_rfl]
 kernel_rfl
theorem qpE:qe G Tryz.prog 148 s_z148:=by
 refine sQ (E:=qmY) (c:=qxr) rfl (fun w S hg=>(qa (qjq w S hg) qc)) Tryz.func148 ?_;intro avs r h;unfold s_z148 at h;split at h
 ·obtain ⟨hp,rfl⟩:=yj h;obtain ⟨n,hn⟩:=qIp _ _ hp;exact ⟨n,_,(qQe n _ _ _).trans hn,.inl rfl⟩
 ·cases h
def qna:EnvP:=eQ [] 24 (some [4]) (fun x=>if x=1 then some [0,1] else none) (fun x=>if x=0 then some [0] else if x=1 then some [0,1] else none) nP
def qxs:Code:=cO Tryz.f156
def qQf:Array ResultVar:=Tryz.f156.results
noncomputable def qjs (K:Ex→Fr→OA):=fun s0=>K (.exit 0) (frOf [(0,da s0)])
def qnb (n:Nat):Ex→Fr→OA:=qh 0 (qna.cutb 0) (kSeq (evCP qna (evLP qna n) (sub qxs [1,1])) (kFnP qna qQf))
def qrU (s0:LU) (c1:UInt8):Fr:=frOf [(0,da s0),(1,dm c1)]
theorem qAL (K:Ex→Fr→OA):∀ (n:Nat) (s0:LU) (c1:UInt8),evLP qna n (sub qxs [1,0,0,0]) K (qrU s0 c1)=qlF (qjs K) n s0 c1:=by
 intro n;induction n with
 | zero=>intros; rfl
 | succ n IH =>
 intro s0 c1;have ih:(fun s0 c1=>evLP qna n (sub qxs [1,0,0,0]) K (qrU s0 c1))=qlF (qjs K) n:=by
  funext s0 c1;exact IH s0 c1
 show _=qvy (qjs K) (qlF (qjs K) n) n s0 c1;rw [← ih];kernel_rfl
theorem qrV (n:Nat) (s0:LU):(qnb n) (.exit 0) (frOf [(0,da s0)])=qip n s0:=by
 kernel_rfl
theorem qQg (n:Nat) (s0:LU) (o0:Lab) (c1:UInt8) (o1:Lab):evFnP qna n qxs qQf [db s0 o0,dn c1 o1]=qCN n s0 c1:=by
 unfold qCN;rw [show qlF (qip n) n=(fun s0 c1=>evLP qna n (sub qxs [1,0,0,0]) (qnb n) (qrU s0 c1)) from by
  funext s0 c1;refine Eq.trans ?_ (qAL (qnb n) n s0 c1).symm;rw [show (qjs (qnb n))=(qip n) from by
   funext s0;exact qrV n s0]
  all_goals kernel_rfl]
 kernel_rfl
theorem qAM:qe G Tryz.prog 156 s_z156:=by
 refine sQ (E:=qna) (c:=qxs) rfl (fun w S hg=>qc) Tryz.func156 ?_;intro avs r h;unfold s_z156 at h;split at h
 ·obtain ⟨hp,rfl⟩:=yj h;obtain ⟨n,hn⟩:=qIn _ _ hp;exact ⟨n,_,(qQg n _ _ _ _).trans hn,.inl rfl⟩
 ·cases h
def qnc:EnvP:=eQ [(153,s_z153)] 23 (some [4]) (fun x=>if x=1 then some [0,1] else none) (fun x=>if x=0 then some [0] else if x=1 then some [0,1] else none) nP
def qxt:Code:=cO Tryz.f157
def qQh:Array ResultVar:=Tryz.f157.results
noncomputable def qjt (K:Ex→Fr→OA):=fun s0=>K (.exit 0) (frOf [(0,da s0)])
def qnd (n:Nat):Ex→Fr→OA:=qh 0 (qnc.cutb 0) (kSeq (evCP qnc (evLP qnc n) (sub qxt [1,1])) (kFnP qnc qQh))
def qrW (s0:LU) (as1:List Bool):Fr:=frOf [(0,da s0),(1,(.adr (.arr 256 .bool) as1))]
theorem qAN (K:Ex→Fr→OA):∀ (n:Nat) (s0:LU) (as1:List Bool),evLP qnc n (sub qxt [1,0,0,0]) K (qrW s0 as1)=qhC (qjt K) n s0 as1:=by
 intro n;induction n with
 | zero=>intros; rfl
 | succ n IH =>
 intro s0 as1;have ih:(fun s0 as1=>evLP qnc n (sub qxt [1,0,0,0]) K (qrW s0 as1))=qhC (qjt K) n:=by
  funext s0 as1;exact IH s0 as1
 show _=qiq (qjt K) (qhC (qjt K) n) n s0 as1;rw [← ih];kernel_rfl
theorem qrX (n:Nat) (s0:LU):(qnd n) (.exit 0) (frOf [(0,da s0)])=qir n s0:=by
 kernel_rfl
theorem qQi (n:Nat) (s0:LU) (o0:Lab) (as1:List Bool):evFnP qnc n qxt qQh [db s0 o0,.adr (.arr 256 .bool) as1]=qvz n s0 as1:=by
 unfold qvz;rw [show qhC (qir n) n=(fun s0 as1=>evLP qnc n (sub qxt [1,0,0,0]) (qnd n) (qrW s0 as1)) from by
  funext s0 as1;refine Eq.trans ?_ (qAN (qnd n) n s0 as1).symm;rw [show (qjt (qnd n))=(qir n) from by
   funext s0;exact qrX n s0]
  all_goals kernel_rfl]
 kernel_rfl
theorem qAO:qe G Tryz.prog 157 s_z157:=by
 refine sQ (E:=qnc) (c:=qxt) rfl (fun w S hg=>(qa (qjq w S hg) qc)) Tryz.func157 ?_;intro avs r h;unfold s_z157 at h;split at h
 ·obtain ⟨hp,rfl⟩:=yj h;obtain ⟨n,hn⟩:=qIo _ _ hp;exact ⟨n,_,(qQi n _ _ _).trans hn,.inl rfl⟩
 ·cases h
end
end Go.Av
