import Derived.Test.YtnfehbljinflbaaGreatDoorRRRRErEvD
import Derived.Test.YtnfehbljinflbaaGreatDoorRRRREtN
import Derived.Test.YtnfehbljinflbaaGreatDoorRRRRProg
import Derived.KernelRfl
namespace Go.Av
noncomputable section
open Go.Proofs
set_option maxRecDepth 100000
def qRj:EnvP:=eQ [] 10 (some [2]) nC (fun x=>if x=0 then some [] else none) nP
def qRk:Code:=cO Tryz.f133
def qUx:Array ResultVar:=Tryz.f133.results
theorem qRl (n:Nat) (n0:Int) (o0:Lab):evFnP qRj n qRk qUx [de n0 o0]=qDt n n0:=by
 kernel_rfl
theorem qBq:qe G Tryz.prog 133 s_z133:=by
 refine sQ (E:=qRj) (c:=qRk) rfl (fun w S hg=>qc) Tryz.func133 ?_;intro avs r h;unfold s_z133 at h;split at h <;> cases h
 obtain ⟨n,hn⟩:=qIL _;exact ⟨n,_,(qRl n _ _).trans hn,.inl rfl⟩
def qnt:EnvP:=eQ [(131,s_z131),(132,s_z132),(133,s_z133)] 63 (some [2,3,4]) (fun x=>if x=12 then some [5,6,48,49,50] else none) (fun x=>if x=0 then some [0,5] else if x=1 then some [5,6] else if x=2 then some [5,6,48,49,50] else none) nP
def qxJ:Code:=cO Tryz.f102
def qRm:Array ResultVar:=Tryz.f102.results
noncomputable def qjy (K:Ex→Fr→OA):=fun n5 c6=>K (.exit 1) (frOf [(5,dc n5),(6,(di c6 none))])
def qnu (n:Nat):Ex→Fr→OA:=qg 1 (qnt.cutb 1) (kSeq (evCP qnt (evLP qnt n) (sub qxJ [1,1,1,1,1,1])) (kFnP qnt qRm))
def qsi (n5:Int) (c6:Int) (s48:LU) (s49:Int) (s50:Int):Fr:=frOf [(5,dc n5),(6,(di c6 none)),(48,da s48),(49,dc s49),(50,dc s50)]
theorem qxK (K:Ex→Fr→OA):∀ (n:Nat) (n5:Int) (c6:Int) (s48:LU) (s49:Int) (s50:Int),evLP qnt n (sub qxJ [1,1,1,1,1,0,1,0,0]) K (qsi n5 c6 s48 s49 s50)=qdI (qjy K) n n5 c6 s48 s49 s50:=by
 intro n;induction n with
 | zero=>intros; rfl
 | succ n IH =>
 intro n5 c6 s48 s49 s50;have ih:(fun n5 c6 s48 s49 s50=>evLP qnt n (sub qxJ [1,1,1,1,1,0,1,0,0]) K (qsi n5 c6 s48 s49 s50))=qdI (qjy K) n:=by
  funext n5 c6 s48 s49 s50;exact IH n5 c6 s48 s49 s50
 show _=qcE (qjy K) (qdI (qjy K) n) n n5 c6 s48 s49 s50;rw [← ih];kernel_rfl
theorem qpW (n:Nat) (n5:Int) (c6:Int):(qnu n) (.exit 1) (frOf [(5,dc n5),(6,(di c6 none))])=qcF n n5 c6:=by
 kernel_rfl
theorem qRn (n:Nat) (s0:LU) (o0:Lab):evFnP qnt n qxJ qRm [db s0 o0]=qvH n s0:=by
 unfold qvH qfT qfS qdJ qcG qbS;rw [show qdI (qcF n) n=(fun n5 c6 s48 s49 s50=>evLP qnt n (sub qxJ [1,1,1,1,1,0,1,0,0]) (qnu n) (qsi n5 c6 s48 s49 s50)) from by
  funext n5 c6 s48 s49 s50;refine Eq.trans ?_ (qxK (qnu n) n n5 c6 s48 s49 s50).symm;rw [show (qjy (qnu n))=(qcF n) from by
   funext n5 c6;exact qpW n n5 c6]
  all_goals kernel_rfl]
 kernel_rfl
theorem qBr:qe G Tryz.prog 102 s_z102:=by
 refine sQ (E:=qnt) (c:=qxJ) rfl (fun w S hg=>(qa (qBp w S hg) (qa (qpU w S hg) (qa (qBq w S hg) qc)))) Tryz.func102 ?_;intro avs r h;unfold s_z102 at h;split at h
 ·obtain ⟨hp,rfl⟩:=yj h;obtain ⟨n,hn⟩:=qJo _ hp;exact ⟨n,_,(qRn n _ _).trans hn,.inl rfl⟩
 ·cases h
def E_z61:EnvP:=⟨⟨tiOf tis,fnsOf [(102,s_z102)],cnsOf [],[],23,(fun x=>if x=0 then some [0,1,24] else none),(fun x=>if x=0 then some [24] else if x=1 then some [0,1,24] else none),some [24]⟩,fun _=>none,fun _=>none,fun _=>[],(fun x=>if x=62 then some s_z62 else none),fun _=>none,fun _=>none,fun _=>none⟩
def C_z61:Code:=cO Tryz.f61
def R_z61:Array ResultVar:=Tryz.f61.results
noncomputable def qpX (K:Ex→Fr→OA):=fun s24=>K (.exit 0) (frOf [(24,(.pbox (.osl 21 (.int .i32)) s24 none))])
def quM (s0:LU) (f1:LI):Ex→Fr→OA:=qg 0 (E_z61.cutb 0) (kFnM E_z61 R_z61 [db s0 none,.fn 62 [.pbox (.osl 21 (.int .i32)) f1 none]])
def qBs (s0:LU) (s24:LI):Fr:=frOf [(0,da s0),(1,(.padr 24 [.clo 62 false])),(24,(.pbox (.osl 21 (.int .i32)) s24 none))]
theorem qsj (K:Ex→Fr→OA):∀ (n:Nat) (s0:LU) (s24:LI),evLP E_z61 n (sub C_z61 [0,0]) K (qBs s0 s24)=qcj (qpX K) n s0 s24:=by
 intro n;induction n with
 | zero=>intros; rfl
 | succ n IH =>
 intro s0 s24;have ih:(fun s0 s24=>evLP E_z61 n (sub C_z61 [0,0]) K (qBs s0 s24))=qcj (qpX K) n:=by
  funext s0 s24;exact IH s0 s24
 show _=qei (qpX K) (qcj (qpX K) n) n s0 s24;rw [← ih];kernel_rfl
theorem qnv (s0:LU) (f1:LI) (n:Nat) (s24:LI):(quM s0 f1) (.exit 0) (frOf [(24,(.pbox (.osl 21 (.int .i32)) s24 none))])=qbx n s24:=by
 kernel_rfl
theorem qGO (n:Nat) (s0:LU) (o0:Lab) (f1:LI):evFnM E_z61 n C_z61 R_z61 [db s0 o0,.fn 62 [.pbox (.osl 21 (.int .i32)) f1 none]]=qom n s0 f1:=by
 unfold qom;rw [show qcj (qbx n) n=(fun s0 s24=>evLP E_z61 n (sub C_z61 [0,0]) (quM s0 f1) (qBs s0 s24)) from by
  funext s0 s24;refine Eq.trans ?_ (qsj (quM s0 f1) n s0 s24).symm;rw [show (qpX (quM s0 f1))=(qbx n) from by
   funext s24;exact qnv s0 f1 n s24]
  all_goals kernel_rfl]
 kernel_rfl
theorem qGP:qhN G Tryz.prog 61 s_z61:=by
 refine qT G_stays (E:=E_z61) (fn:=Tryz.f61) (c:=C_z61) (qj rfl qbd) (fun w S hg=>⟨⟨(qa (qBr w S hg) qc),fun f sp h=>qac f sp h w S⟩,qai w S hg,(fun f sp h=>(qbi (qGN w S hg) qfh) f sp h),(fun _ _ h=>by cases h),(fun _ _ h=>by cases h),(fun t kt vt h=>qah t kt vt h)⟩) follows Tryz.func61 (by kernel_rfl) (by kernel_rfl) (by kernel_rfl) ?_;intro avs r h;unfold s_z61 at h;split at h
 ·obtain ⟨hp,rfl⟩:=yj h;obtain ⟨n,hn⟩:=qyJ _ _ hp;exact ⟨n,(qGO n _ _ _).trans hn⟩
 ·cases h
def E_z38:EnvP:=⟨⟨tiOf tis,fnsOf [],cnsOf [],[],8,(fun _=>none),(fun _=>none),some [2]⟩,(fun x=>if x=3 then some (.osl 21 (.int .i32)) else none),fun _=>none,fun _=>[],(fun x=>if x=61 then some s_z61 else none),fun _=>none,fun _=>none,fun _=>none⟩
def C_z38:Code:=cO Tryz.f38
def R_z38:Array ResultVar:=Tryz.f38.results
theorem qUy (n:Nat) (s0:LU) (o0:Lab):evFnP E_z38 n C_z38 R_z38 [db s0 o0]=qME n s0:=by
 kernel_rfl
theorem quN:qe G Tryz.prog 38 s_z38:=by
 refine qB G_stays (E:=E_z38) (fn:=Tryz.f38) (c:=C_z38) (qj rfl qbd) (fun w S hg=>⟨⟨qc,fun f sp h=>qac f sp h w S⟩,qai w S hg,(fun f sp h=>(qbi (qGP w S hg) qfh) f sp h),(fun f sp h=>qaC f sp h),(fun f it h=>qaD f it h),(fun t kt vt h=>qah t kt vt h)⟩) follows Tryz.func38 (by kernel_rfl) (by kernel_rfl) (by kernel_rfl) ?_;intro avs r h;unfold s_z38 at h;split at h
 ·obtain ⟨hp,rfl⟩:=yj h;obtain ⟨n,hn⟩:=qOc _ hp;exact ⟨n,_,(qUy n _ _).trans hn,.inl rfl⟩
 ·cases h
def qnw:EnvP:=eQ [] 23 (some [2]) (fun x=>if x=3 then some [3,9,10,11] else none) (fun x=>if x=0 then some [3] else if x=1 then some [3,9,10,11] else none) (fun x=>if x=8 then some (.psl 21 (.leaf (.int .i32))) else none)
def qxL:Code:=cO Tryz.f106
def qRo:Array ResultVar:=Tryz.f106.results
noncomputable def qjz (K:Ex→Fr→OA):=fun t3=>K (.exit 0) (frOf [(3,(.pv (.psl 21 (.leaf (.int .i32))) t3 none))])
def qnx (n:Nat):Ex→Fr→OA:=qg 0 (qnw.cutb 0) (kSeq (evCP qnw (evLP qnw n) (sub qxL [1,1,1])) (kFnP qnw qRo))
def qsk (t3:LI) (s9:LU) (s10:Int) (s11:Int):Fr:=frOf [(3,(.pv (.psl 21 (.leaf (.int .i32))) t3 none)),(9,da s9),(10,dc s10),(11,dc s11)]
theorem qBt (K:Ex→Fr→OA):∀ (n:Nat) (t3:LI) (s9:LU) (s10:Int) (s11:Int),evLP qnw n (sub qxL [1,1,0,1,0,0]) K (qsk t3 s9 s10 s11)=qjY (qjz K) n t3 s9 s10 s11:=by
 intro n;induction n with
 | zero=>intros; rfl
 | succ n IH =>
 intro t3 s9 s10 s11;have ih:(fun t3 s9 s10 s11=>evLP qnw n (sub qxL [1,1,0,1,0,0]) K (qsk t3 s9 s10 s11))=qjY (qjz K) n:=by
  funext t3 s9 s10 s11;exact IH t3 s9 s10 s11
 show _=qej (qjz K) (qjY (qjz K) n) n t3 s9 s10 s11;rw [← ih];kernel_rfl
theorem qsl (n:Nat) (t3:LI):(qnx n) (.exit 0) (frOf [(3,(.pv (.psl 21 (.leaf (.int .i32))) t3 none))])=qfU n t3:=by
 kernel_rfl
theorem qRp (n:Nat) (s0:LU) (o0:Lab):evFnP qnw n qxL qRo [db s0 o0]=qvI n s0:=by
 unfold qvI;rw [show qjY (qfU n) n=(fun t3 s9 s10 s11=>evLP qnw n (sub qxL [1,1,0,1,0,0]) (qnx n) (qsk t3 s9 s10 s11)) from by
  funext t3 s9 s10 s11;refine Eq.trans ?_ (qBt (qnx n) n t3 s9 s10 s11).symm;rw [show (qjz (qnx n))=(qfU n) from by
   funext t3;exact qsl n t3]
  all_goals kernel_rfl]
 kernel_rfl
theorem qpY:qe G Tryz.prog 106 s_z106:=by
 refine sQ (E:=qnw) (c:=qxL) rfl (fun w S hg=>qc) Tryz.func106 ?_;intro avs r h;unfold s_z106 at h;split at h
 ·obtain ⟨hp,rfl⟩:=yj h;obtain ⟨n,hn⟩:=qIR _ hp;exact ⟨n,_,(qRp n _ _).trans hn,.inl rfl⟩
 ·cases h
def qRq:EnvP:=eQ [] 6 (some [2]) nC nC nP
def qRr:Code:=cO Tryz.f134
def qUz:Array ResultVar:=Tryz.f134.results
theorem qRs (n:Nat) (c0:Int) (o0:Lab):evFnP qRq n qRr qUz [di c0 o0]=qDu n c0:=by
 kernel_rfl
theorem qBu:qe G Tryz.prog 134 s_z134:=by
 refine sQ (E:=qRq) (c:=qRr) rfl (fun w S hg=>qc) Tryz.func134 ?_;intro avs r h;unfold s_z134 at h;split at h <;> cases h
 obtain ⟨n,hn⟩:=qIS _;exact ⟨n,_,(qRs n _ _).trans hn,.inl rfl⟩
def qny:EnvP:=eQ [(106,s_z106),(134,s_z134)] 24 (some [2]) (fun x=>if x=4 then some [3,4,9,10,11] else none) (fun x=>if x=0 then some [3] else if x=1 then some [3,4,9,10,11] else none) (fun x=>if x=8 then some (.psl 21 (.leaf (.int .i32))) else none)
def qxM:Code:=cO Tryz.f103
def qRt:Array ResultVar:=Tryz.f103.results
noncomputable def qBv (K:Ex→Fr→OA):=fun t3=>K (.exit 0) (frOf [(3,(.pv (.psl 21 (.leaf (.int .i32))) t3 none))])
def qnz (n:Nat):Ex→Fr→OA:=qg 0 (qny.cutb 0) (kSeq (evCP qny (evLP qny n) (sub qxM [1,1,1,1])) (kFnP qny qRt))
def qsm (t3:LI) (s10:Int) (s11:Int):Fr:=frOf [(3,(.pv (.psl 21 (.leaf (.int .i32))) t3 none)),(4,(.fn 134 [])),(9,(.pval 3 [])),(10,dc s10),(11,dc s11)]
theorem qBw (K:Ex→Fr→OA):∀ (n:Nat) (t3:LI) (s10:Int) (s11:Int),evLP qny n (sub qxM [1,1,1,0,1,0,0]) K (qsm t3 s10 s11)=qjZ (qBv K) n t3 s10 s11:=by
 intro n;induction n with
 | zero=>intros; rfl
 | succ n IH =>
 intro t3 s10 s11;have ih:(fun t3 s10 s11=>evLP qny n (sub qxM [1,1,1,0,1,0,0]) K (qsm t3 s10 s11))=qjZ (qBv K) n:=by
  funext t3 s10 s11;exact IH t3 s10 s11
 show _=qek (qBv K) (qjZ (qBv K) n) n t3 s10 s11;rw [← ih];kernel_rfl
theorem qsn (n:Nat) (t3:LI):(qnz n) (.exit 0) (frOf [(3,(.pv (.psl 21 (.leaf (.int .i32))) t3 none))])=qfV n t3:=by
 kernel_rfl
theorem qRu (n:Nat) (s0:LU) (o0:Lab):evFnP qny n qxM qRt [db s0 o0]=qvJ n s0:=by
 unfold qvJ;rw [show qjZ (qfV n) n=(fun t3 s10 s11=>evLP qny n (sub qxM [1,1,1,0,1,0,0]) (qnz n) (qsm t3 s10 s11)) from by
  funext t3 s10 s11;refine Eq.trans ?_ (qBw (qnz n) n t3 s10 s11).symm;rw [show (qBv (qnz n))=(qfV n) from by
   funext t3;exact qsn n t3]
  all_goals kernel_rfl]
 kernel_rfl
theorem qBx:qe G Tryz.prog 103 s_z103:=by
 refine sQ (E:=qny) (c:=qxM) rfl (fun w S hg=>(qa (qpY w S hg) (qa (qBu w S hg) qc))) Tryz.func103 ?_;intro avs r h;unfold s_z103 at h;split at h
 ·obtain ⟨hp,rfl⟩:=yj h;obtain ⟨n,hn⟩:=qIT _ hp;exact ⟨n,_,(qRu n _ _).trans hn,.inl rfl⟩
 ·cases h
def qRv:EnvP:=eQ [] 10 (some [0]) nC nC nP
def qRw:Code:=cO Tryz.f161
def qUA:Array ResultVar:=Tryz.f161.results
theorem qRx (n:Nat)  : evFnP qRv n qRw qUA []=qKr n  := by
 kernel_rfl
theorem qBy:qe G Tryz.prog 161 s_z161:=by
 refine sQ (E:=qRv) (c:=qRw) rfl (fun w S hg=>qc) Tryz.func161 ?_;intro avs r h;unfold s_z161 at h;split at h <;> cases h
 obtain ⟨n,hn⟩:=qIM;exact ⟨n,_,(qRx n ).trans hn,.inl rfl⟩
def qnA:EnvP:=eQ [(161,s_z161)] 18 (some [2]) (fun x=>if x=2 then some [0,5,6] else none) (fun x=>if x=0 then some [0] else if x=1 then some [0,5,6] else none) nP
def qxN:Code:=cO Tryz.f135
def qRy:Array ResultVar:=Tryz.f135.results
noncomputable def qnB (K:Ex→Fr→OA):=fun s2=>K .ret (frOf [(2,(di s2 none))])
noncomputable def qjA (K:Ex→Fr→OA):=fun x0=>K (.exit 0) (frOf [(0,dm x0)])
def qnC (n:Nat):Ex→Fr→OA:=qg 0 (qnA.cutb 0) (kSeq (evCP qnA (evLP qnA n) (sub qxN [1,1])) (kFnP qnA qRy))
def qso (x0:UInt8) (s5:List (UInt8×(Int×Unit))) (s6:Int):Fr:=frOf [(0,dm x0),(5,(.dat (.arr 8 (.pair .byte (.pair (.int .i32) .unit))) s5 none)),(6,dc s6)]
theorem qBz (K:Ex→Fr→OA):∀ (n:Nat) (x0:UInt8) (s5:List (UInt8×(Int×Unit))) (s6:Int),evLP qnA n (sub qxN [1,0,1,0,0]) K (qso x0 s5 s6)=qlK (qnB K) (qjA K) n x0 s5 s6:=by
 intro n;induction n with
 | zero=>intros; rfl
 | succ n IH =>
 intro x0 s5 s6;have ih:(fun x0 s5 s6=>evLP qnA n (sub qxN [1,0,1,0,0]) K (qso x0 s5 s6))=qlK (qnB K) (qjA K) n:=by
  funext x0 s5 s6;exact IH x0 s5 s6
 show _=qvK (qnB K) (qjA K) (qlK (qnB K) (qjA K) n) n x0 s5 s6;rw [← ih];kernel_rfl
theorem qsp (n:Nat) (x0:UInt8):(qnC n) (.exit 0) (frOf [(0,dm x0)])=qiv n x0:=by
 kernel_rfl
theorem qRz (n:Nat) (x0:UInt8) (o0:Lab):evFnP qnA n qxN qRy [dn x0 o0]=qvL n x0:=by
 unfold qvL;rw [show qlK qaV (qiv n) n=(fun x0 s5 s6=>evLP qnA n (sub qxN [1,0,1,0,0]) (qnC n) (qso x0 s5 s6)) from by
  funext x0 s5 s6;refine Eq.trans ?_ (qBz (qnC n) n x0 s5 s6).symm;rw [show (qjA (qnC n))=(qiv n) from by
   funext x0;exact qsp n x0]
  all_goals kernel_rfl]
 kernel_rfl
theorem qBA:qe G Tryz.prog 135 s_z135:=by
 refine sQ (E:=qnA) (c:=qxN) rfl (fun w S hg=>(qa (qBy w S hg) qc)) Tryz.func135 ?_;intro avs r h;unfold s_z135 at h;split at h <;> cases h
 obtain ⟨n,hn⟩:=qIU _;exact ⟨n,_,(qRz n _ _).trans hn,.inl rfl⟩
def qnD:EnvP:=eQ [(135,s_z135)] 19 (some [2]) (fun x=>if x=3 then some [3,6,7,8] else none) (fun x=>if x=0 then some [3] else if x=1 then some [3,6,7,8] else none) nP
def qxO:Code:=cO Tryz.f104
def qRA:Array ResultVar:=Tryz.f104.results
noncomputable def qjB (K:Ex→Fr→OA):=fun t3=>K (.exit 0) (frOf [(3,(.dat (.sl (.int .i32)) t3 (some (3,21))))])
def qnE (n:Nat):Ex→Fr→OA:=qg 0 (qnD.cutb 0) (kSeq (evCP qnD (evLP qnD n) (sub qxO [1,1,1])) (kFnP qnD qRA))
def qsq (t3:LI) (s6:LU) (s7:Int) (s8:Int):Fr:=frOf [(3,(.dat (.sl (.int .i32)) t3 (some (3,21)))),(6,da s6),(7,dc s7),(8,dc s8)]
theorem qBB (K:Ex→Fr→OA):∀ (n:Nat) (t3:LI) (s6:LU) (s7:Int) (s8:Int),evLP qnD n (sub qxO [1,1,0,1,0,0]) K (qsq t3 s6 s7 s8)=qka (qjB K) n t3 s6 s7 s8:=by
 intro n;induction n with
 | zero=>intros; rfl
 | succ n IH =>
 intro t3 s6 s7 s8;have ih:(fun t3 s6 s7 s8=>evLP qnD n (sub qxO [1,1,0,1,0,0]) K (qsq t3 s6 s7 s8))=qka (qjB K) n:=by
  funext t3 s6 s7 s8;exact IH t3 s6 s7 s8
 show _=qel (qjB K) (qka (qjB K) n) n t3 s6 s7 s8;rw [← ih];kernel_rfl
theorem qsr (n:Nat) (t3:LI):(qnE n) (.exit 0) (frOf [(3,(.dat (.sl (.int .i32)) t3 (some (3,21))))])=qem n t3:=by
 kernel_rfl
theorem qRB (n:Nat) (s0:LU) (o0:Lab):evFnP qnD n qxO qRA [db s0 o0]=qvM n s0:=by
 unfold qvM;rw [show qka (qem n) n=(fun t3 s6 s7 s8=>evLP qnD n (sub qxO [1,1,0,1,0,0]) (qnE n) (qsq t3 s6 s7 s8)) from by
  funext t3 s6 s7 s8;refine Eq.trans ?_ (qBB (qnE n) n t3 s6 s7 s8).symm;rw [show (qjB (qnE n))=(qem n) from by
   funext t3;exact qsr n t3]
  all_goals kernel_rfl]
 kernel_rfl
theorem qBC:qe G Tryz.prog 104 s_z104:=by
 refine sQ (E:=qnD) (c:=qxO) rfl (fun w S hg=>(qa (qBA w S hg) qc)) Tryz.func104 ?_;intro avs r h;unfold s_z104 at h;split at h
 ·obtain ⟨hp,rfl⟩:=yj h;obtain ⟨n,hn⟩:=qIV _ hp;exact ⟨n,_,(qRB n _ _).trans hn,.inl rfl⟩
 ·cases h
def qRC:EnvP:=⟨⟨tiOf tis,fnsOf [],cnsOf [],[],4,(fun _=>none),(fun _=>none),some [0]⟩,fun _=>none,fun _=>none,(fun x=>if x=500002 then [1] else []),fun _=>none,fun _=>none,fun _=>none,fun _=>none⟩
def qRD:Code:=cO Tryz.f162
def qUB:Array ResultVar:=Tryz.f162.results
theorem qRE (n:Nat)  : evFnP qRC n qRD qUB []=qKs n  := by
 kernel_rfl
theorem qBD:qe G Tryz.prog 162 s_z162:=by
 refine qB G_stays (E:=qRC) (fn:=Tryz.f162) (c:=qRD) (qj rfl qbd) (fun w S hg=>⟨⟨qc,fun f sp h=>qac f sp h w S⟩,qai w S hg,(fun _ _ h=>by cases h),(fun f sp h=>qaC f sp h),(fun f it h=>qaD f it h),(fun t kt vt h=>qah t kt vt h)⟩) follows Tryz.func162 (by kernel_rfl) (by kernel_rfl) (by kernel_rfl) ?_;intro avs r h;unfold s_z162 at h;split at h <;> cases h
 obtain ⟨n,hn⟩:=qIN;exact ⟨n,_,(qRE n ).trans hn,.inl rfl⟩
def qRF:EnvP:=eQ [(162,s_z162)] 20 (some [2]) nC nC nP
def qRG:Code:=cO Tryz.f136
def qUC:Array ResultVar:=Tryz.f136.results
theorem qRH (n:Nat) (x0:UInt8) (o0:Lab):evFnP qRF n qRG qUC [dn x0 o0]=qDy n x0:=by
 kernel_rfl
theorem qBE:qe G Tryz.prog 136 s_z136:=by
 refine sQ (E:=qRF) (c:=qRG) rfl (fun w S hg=>(qa (qBD w S hg) qc)) Tryz.func136 ?_;intro avs r h;unfold s_z136 at h;split at h <;> cases h
 obtain ⟨n,hn⟩:=qIW _;exact ⟨n,_,(qRH n _ _).trans hn,.inl rfl⟩
def qnF:EnvP:=eQ [(136,s_z136)] 22 (some [2]) (fun x=>if x=3 then some [3,9,10,11] else none) (fun x=>if x=0 then some [3] else if x=1 then some [3,9,10,11] else none) nP
def qxP:Code:=cO Tryz.f105
def qRI:Array ResultVar:=Tryz.f105.results
noncomputable def qjC (K:Ex→Fr→OA):=fun t3=>K (.exit 0) (frOf [(3,(.dat (.sl (.int .i32)) t3 (some (3,21))))])
def qnG (n:Nat):Ex→Fr→OA:=qg 0 (qnF.cutb 0) (kSeq (evCP qnF (evLP qnF n) (sub qxP [1,1,1])) (kFnP qnF qRI))
def qss (t3:LI) (s9:LU) (s10:Int) (s11:Int):Fr:=frOf [(3,(.dat (.sl (.int .i32)) t3 (some (3,21)))),(9,da s9),(10,dc s10),(11,dc s11)]
theorem qBF (K:Ex→Fr→OA):∀ (n:Nat) (t3:LI) (s9:LU) (s10:Int) (s11:Int),evLP qnF n (sub qxP [1,1,0,1,0,0]) K (qss t3 s9 s10 s11)=qkc (qjC K) n t3 s9 s10 s11:=by
 intro n;induction n with
 | zero=>intros; rfl
 | succ n IH =>
 intro t3 s9 s10 s11;have ih:(fun t3 s9 s10 s11=>evLP qnF n (sub qxP [1,1,0,1,0,0]) K (qss t3 s9 s10 s11))=qkc (qjC K) n:=by
  funext t3 s9 s10 s11;exact IH t3 s9 s10 s11
 show _=qen (qjC K) (qkc (qjC K) n) n t3 s9 s10 s11;rw [← ih];kernel_rfl
theorem qst (n:Nat) (t3:LI):(qnG n) (.exit 0) (frOf [(3,(.dat (.sl (.int .i32)) t3 (some (3,21))))])=qeo n t3:=by
 kernel_rfl
theorem qRJ (n:Nat) (s0:LU) (o0:Lab):evFnP qnF n qxP qRI [db s0 o0]=qvN n s0:=by
 unfold qvN;rw [show qkc (qeo n) n=(fun t3 s9 s10 s11=>evLP qnF n (sub qxP [1,1,0,1,0,0]) (qnG n) (qss t3 s9 s10 s11)) from by
  funext t3 s9 s10 s11;refine Eq.trans ?_ (qBF (qnG n) n t3 s9 s10 s11).symm;rw [show (qjC (qnG n))=(qeo n) from by
   funext t3;exact qst n t3]
  all_goals kernel_rfl]
 kernel_rfl
theorem qBG:qe G Tryz.prog 105 s_z105:=by
 refine sQ (E:=qnF) (c:=qxP) rfl (fun w S hg=>(qa (qBE w S hg) qc)) Tryz.func105 ?_;intro avs r h;unfold s_z105 at h;split at h
 ·obtain ⟨hp,rfl⟩:=yj h;obtain ⟨n,hn⟩:=qIX _ hp;exact ⟨n,_,(qRJ n _ _).trans hn,.inl rfl⟩
 ·cases h
def E_z63:EnvP:=eQ [(38,s_z38),(103,s_z103),(104,s_z104),(105,s_z105),(106,s_z106)] 24 (some [1000004]) nC (fun x=>if x=0 then some [1] else none) nP
def C_z63:Code:=cO Tryz.f63
def R_z63:Array ResultVar:=Tryz.f63.results
theorem qUD (n:Nat) (charset0:Int) (o0:Lab) (s1:LU) (o1:Lab):evFnP E_z63 n C_z63 R_z63 [de charset0 o0,db s1 o1]=qMF n charset0 s1:=by
 kernel_rfl
theorem qGQ:qe G Tryz.prog 63 s_z63:=by
 refine sQ (E:=E_z63) (c:=C_z63) rfl (fun w S hg=>(qa (quN w S hg) (qa (qBx w S hg) (qa (qBC w S hg) (qa (qBG w S hg) (qa (qpY w S hg) qc)))))) Tryz.func63 ?_;intro avs r h;unfold s_z63 at h;split at h
 ·obtain ⟨hp,rfl⟩:=yj h;obtain ⟨n,hn⟩:=qNK _ _ hp;exact ⟨n,_,(qUD n _ _ _ _).trans hn,.inl rfl⟩
 ·cases h
def qsu:EnvP:=eQ [(121,s_z121)] 28 (some [28,29]) (fun x=>if x=1 then some [0,7,8,9,28,29] else none) (fun x=>if x=0 then some [28,29] else if x=1 then some [0,7,8,9,28,29] else none) nP
def qBH:Code:=cO Tryz.f173
def qRK:Array ResultVar:=Tryz.f173.results
def qnH (V:Sigma Inv) (x0:Den V.1) (x1:LU):Ex→Fr→OA:=qg 0 (qsu.cutb 0) (kFnM qsu qRK [.abs V.1 V.2 x0,.pbox (.leaf (.sl .byte)) x1 none])
def qsv (s7:LU) (s8:Int) (s9:Int) (V:Sigma Inv) (xv:Den V.1) (s29:LU):Fr:=frOf [(0,(.padr 28 [])),(7,da s7),(8,dc s8),(9,dc s9),(28,(.abs V.1 V.2 xv)),(29,(.pbox (.leaf (.sl .byte)) s29 none))]
def qcq (V:Sigma Inv) (xv:Den V.1) (s29:LU):Fr:=frOf [(28,(.abs V.1 V.2 xv)),(29,(.pbox (.leaf (.sl .byte)) s29 none))]
theorem qBI (V:Sigma Inv) (K:Ex→Fr→OA):∀ (n:Nat) (s7:LU) (s8:Int) (s9:Int) (xv:Den V.1) (s29:LU),evLP qsu n (sub qBH [1,0,0]) K (qsv s7 s8 s9 V xv s29)=(qfW V) (fun xv s29=>K .ret (qcq V xv s29)) (fun xv s29=>K (.exit 0) (qcq V xv s29)) n s7 s8 s9 xv s29:=by
 intro n;induction n with
 | zero=>intros; rfl
 | succ n IH =>
 intro s7 s8 s9 xv s29;have ih:(fun s7 s8 s9 xv s29=>evLP qsu n (sub qBH [1,0,0]) K (qsv s7 s8 s9 V xv s29))=(qfW V) (fun xv s29=>K .ret (qcq V xv s29)) (fun xv s29=>K (.exit 0) (qcq V xv s29)) n:=by
  funext s7 s8 s9 xv s29;exact IH s7 s8 s9 xv s29
 show _=(qep V) (fun xv s29=>K .ret (qcq V xv s29)) (fun xv s29=>K (.exit 0) (qcq V xv s29)) ((qfW V) (fun xv s29=>K .ret (qcq V xv s29)) (fun xv s29=>K (.exit 0) (qcq V xv s29)) n) n s7 s8 s9 xv s29;rw [← ih];kernel_rfl
theorem qsw (V:Sigma Inv) (x0:Den V.1) (x1:LU) (n:Nat) (xv:Den V.1) (s29:LU):(qnH V x0 x1) (.exit 0) (qcq V xv s29)=(qda V) n xv s29:=by
 kernel_rfl
theorem qRL (V:Sigma Inv) (n:Nat) (x0:Den V.1) (x1:LU):evFnM qsu n qBH qRK [.abs V.1 V.2 x0,.pbox (.leaf (.sl .byte)) x1 none]=(qvO V) n x0 x1:=by
 unfold qvO;rw [show (qfW V) (qbU V) ((qda V) n) n=(fun s7 s8 s9 xv s29=>evLP qsu n (sub qBH [1,0,0]) (qnH V x0 x1) (qsv s7 s8 s9 V xv s29)) from by
  funext s7 s8 s9 xv s29;refine Eq.trans ?_ ((qBI V) (qnH V x0 x1) n s7 s8 s9 xv s29).symm;rw [show (fun xv s29=>(qnH V x0 x1) (.exit 0) (qcq V xv s29))=((qda V) n) from by
   funext xv s29;exact (qsw V) x0 x1 n xv s29]
  all_goals kernel_rfl]
 kernel_rfl
theorem qxQ:qhN G Tryz.prog 173 s_z173:=by
 refine qT G_stays (E:=qsu) (fn:=Tryz.f173) (c:=qBH) (qj rfl qbd) (fun w S hg=>⟨⟨(qa (qpL w S hg) qc),fun f sp h=>qac f sp h w S⟩,qai w S hg,(fun _ _ h=>by cases h),(fun f sp h=>qaC f sp h),(fun f it h=>qaD f it h),(fun t kt vt h=>qah t kt vt h)⟩) follows Tryz.func173 (by kernel_rfl) (by kernel_rfl) (by kernel_rfl) ?_;intro avs r h;unfold s_z173 at h;split at h
 ·rename_i s V x _;simp only [yb] at h;obtain ⟨hp,rfl⟩:=h;obtain ⟨n,hn⟩:=qJg ⟨s,V⟩ _ _ hp;exact ⟨n,(qRL ⟨s,V⟩ n _ _).trans hn⟩
 ·cases h
theorem qBJ:qPp G Tryz.prog 173 qJU:=qww qxQ (enters_of Tryz.func173 (by kernel_rfl) rfl) (fun s V x x' y h=>by
 obtain ⟨h1,h2⟩:=yj h;subst h2;refine ⟨_,_,Prod.ext h1 rfl⟩)
end
end Go.Av
