import Derived.Test.YtnfehbljinflbaaGreatDoorRRRRErEvD
import Derived.Test.YtnfehbljinflbaaGreatDoorRRRREtN
import Derived.Test.YtnfehbljinflbaaGreatDoorRRRRProg
import Derived.KernelRfl
namespace Go.Av
noncomputable section
open Go.Proofs
set_option maxRecDepth 100000
def qRm:EnvP:=eQ [] 10 (some [2]) nC (fun x=>if x=0 then some [] else none) nP
def qRn:Code:=cO Tryz.f133
def qUB:Array ResultVar:=Tryz.f133.results
theorem qRo (n:Nat) (n0:Int) (o0:Lab):evFnP qRm n qRn qUB [de n0 o0]=qDo n n0:=by
 kernel_rfl
theorem qBm:qe G Tryz.prog 133 s_z133:=by
 refine sQ (E:=qRm) (c:=qRn) rfl (fun w S hg=>qc) Tryz.func133 ?_;intro avs r h;unfold s_z133 at h;split at h <;> cases h
 obtain ⟨n,hn⟩:=qIJ _;exact ⟨n,_,(qRo n _ _).trans hn,.inl rfl⟩
def qnp:EnvP:=eQ [(131,s_z131),(132,s_z132),(133,s_z133)] 63 (some [2,3,4]) (fun x=>if x=12 then some [5,6,48,49,50] else none) (fun x=>if x=0 then some [0,5] else if x=1 then some [5,6] else if x=2 then some [5,6,48,49,50] else none) nP
def qxF:Code:=cO Tryz.f102
def qRp:Array ResultVar:=Tryz.f102.results
noncomputable def qjy (K:Ex→Fr→OA):=fun n5 c6=>K (.exit 1) (frOf [(5,dc n5),(6,(di c6 none))])
def qnq (n:Nat):Ex→Fr→OA:=qh 1 (qnp.cutb 1) (kSeq (evCP qnp (evLP qnp n) (sub qxF [1,1,1,1,1,1])) (kFnP qnp qRp))
def qsg (n5:Int) (c6:Int) (s48:LU) (s49:Int) (s50:Int):Fr:=frOf [(5,dc n5),(6,(di c6 none)),(48,da s48),(49,dc s49),(50,dc s50)]
theorem qxG (K:Ex→Fr→OA):∀ (n:Nat) (n5:Int) (c6:Int) (s48:LU) (s49:Int) (s50:Int),evLP qnp n (sub qxF [1,1,1,1,1,0,1,0,0]) K (qsg n5 c6 s48 s49 s50)=qdI (qjy K) n n5 c6 s48 s49 s50:=by
 intro n;induction n with
 | zero=>intros; rfl
 | succ n IH =>
 intro n5 c6 s48 s49 s50;have ih:(fun n5 c6 s48 s49 s50=>evLP qnp n (sub qxF [1,1,1,1,1,0,1,0,0]) K (qsg n5 c6 s48 s49 s50))=qdI (qjy K) n:=by
  funext n5 c6 s48 s49 s50;exact IH n5 c6 s48 s49 s50
 show _=qcE (qjy K) (qdI (qjy K) n) n n5 c6 s48 s49 s50;rw [← ih];kernel_rfl
theorem qpR (n:Nat) (n5:Int) (c6:Int):(qnq n) (.exit 1) (frOf [(5,dc n5),(6,(di c6 none))])=qcF n n5 c6:=by
 kernel_rfl
theorem qRq (n:Nat) (s0:LU) (o0:Lab):evFnP qnp n qxF qRp [db s0 o0]=qvE n s0:=by
 unfold qvE qfU qfT qdJ qcG qbS;rw [show qdI (qcF n) n=(fun n5 c6 s48 s49 s50=>evLP qnp n (sub qxF [1,1,1,1,1,0,1,0,0]) (qnq n) (qsg n5 c6 s48 s49 s50)) from by
  funext n5 c6 s48 s49 s50;refine Eq.trans ?_ (qxG (qnq n) n n5 c6 s48 s49 s50).symm;rw [show (qjy (qnq n))=(qcF n) from by
   funext n5 c6;exact qpR n n5 c6]
  all_goals kernel_rfl]
 kernel_rfl
theorem qBn:qe G Tryz.prog 102 s_z102:=by
 refine sQ (E:=qnp) (c:=qxF) rfl (fun w S hg=>(qa (qBl w S hg) (qa (qpP w S hg) (qa (qBm w S hg) qc)))) Tryz.func102 ?_;intro avs r h;unfold s_z102 at h;split at h
 ·obtain ⟨hp,rfl⟩:=yj h;obtain ⟨n,hn⟩:=qJm _ hp;exact ⟨n,_,(qRq n _ _).trans hn,.inl rfl⟩
 ·cases h
def E_z61:EnvP:=⟨⟨tiOf tis,fnsOf [(102,s_z102)],cnsOf [],[],23,(fun x=>if x=0 then some [0,1,24] else none),(fun x=>if x=0 then some [24] else if x=1 then some [0,1,24] else none),some [24]⟩,fun _=>none,fun _=>none,fun _=>[],(fun x=>if x=62 then some s_z62 else none),fun _=>none,fun _=>none,fun _=>none⟩
def C_z61:Code:=cO Tryz.f61
def R_z61:Array ResultVar:=Tryz.f61.results
noncomputable def qpS (K:Ex→Fr→OA):=fun s24=>K (.exit 0) (frOf [(24,(.pbox (.osl 21 (.int .i32)) s24 none))])
def quK (s0:LU) (f1:LI):Ex→Fr→OA:=qh 0 (E_z61.cutb 0) (kFnM E_z61 R_z61 [db s0 none,.fn 62 [.pbox (.osl 21 (.int .i32)) f1 none]])
def qBo (s0:LU) (s24:LI):Fr:=frOf [(0,da s0),(1,(.padr 24 [.clo 62 false])),(24,(.pbox (.osl 21 (.int .i32)) s24 none))]
theorem qsh (K:Ex→Fr→OA):∀ (n:Nat) (s0:LU) (s24:LI),evLP E_z61 n (sub C_z61 [0,0]) K (qBo s0 s24)=qcj (qpS K) n s0 s24:=by
 intro n;induction n with
 | zero=>intros; rfl
 | succ n IH =>
 intro s0 s24;have ih:(fun s0 s24=>evLP E_z61 n (sub C_z61 [0,0]) K (qBo s0 s24))=qcj (qpS K) n:=by
  funext s0 s24;exact IH s0 s24
 show _=qeh (qpS K) (qcj (qpS K) n) n s0 s24;rw [← ih];kernel_rfl
theorem qnr (s0:LU) (f1:LI) (n:Nat) (s24:LI):(quK s0 f1) (.exit 0) (frOf [(24,(.pbox (.osl 21 (.int .i32)) s24 none))])=qbx n s24:=by
 kernel_rfl
theorem qGH (n:Nat) (s0:LU) (o0:Lab) (f1:LI):evFnM E_z61 n C_z61 R_z61 [db s0 o0,.fn 62 [.pbox (.osl 21 (.int .i32)) f1 none]]=qoj n s0 f1:=by
 unfold qoj;rw [show qcj (qbx n) n=(fun s0 s24=>evLP E_z61 n (sub C_z61 [0,0]) (quK s0 f1) (qBo s0 s24)) from by
  funext s0 s24;refine Eq.trans ?_ (qsh (quK s0 f1) n s0 s24).symm;rw [show (qpS (quK s0 f1))=(qbx n) from by
   funext s24;exact qnr s0 f1 n s24]
  all_goals kernel_rfl]
 kernel_rfl
theorem qGI:qhO G Tryz.prog 61 s_z61:=by
 refine qT G_stays (E:=E_z61) (fn:=Tryz.f61) (c:=C_z61) (qj rfl qbd) (fun w S hg=>⟨⟨(qa (qBn w S hg) qc),fun f sp h=>qac f sp h w S⟩,qai w S hg,(fun f sp h=>(qbj (qGG w S hg) qfg) f sp h),(fun _ _ h=>by cases h),(fun _ _ h=>by cases h),(fun t kt vt h=>qah t kt vt h)⟩) follows Tryz.func61 (by kernel_rfl) (by kernel_rfl) (by kernel_rfl) ?_;intro avs r h;unfold s_z61 at h;split at h
 ·obtain ⟨hp,rfl⟩:=yj h;obtain ⟨n,hn⟩:=qyH _ _ hp;exact ⟨n,(qGH n _ _ _).trans hn⟩
 ·cases h
def E_z38:EnvP:=⟨⟨tiOf tis,fnsOf [],cnsOf [],[],8,(fun _=>none),(fun _=>none),some [2]⟩,(fun x=>if x=3 then some (.osl 21 (.int .i32)) else none),fun _=>none,fun _=>[],(fun x=>if x=61 then some s_z61 else none),fun _=>none,fun _=>none,fun _=>none⟩
def C_z38:Code:=cO Tryz.f38
def R_z38:Array ResultVar:=Tryz.f38.results
theorem qUC (n:Nat) (s0:LU) (o0:Lab):evFnP E_z38 n C_z38 R_z38 [db s0 o0]=qMG n s0:=by
 kernel_rfl
theorem quL:qe G Tryz.prog 38 s_z38:=by
 refine qB G_stays (E:=E_z38) (fn:=Tryz.f38) (c:=C_z38) (qj rfl qbd) (fun w S hg=>⟨⟨qc,fun f sp h=>qac f sp h w S⟩,qai w S hg,(fun f sp h=>(qbj (qGI w S hg) qfg) f sp h),(fun f sp h=>qaD f sp h),(fun f it h=>qaE f it h),(fun t kt vt h=>qah t kt vt h)⟩) follows Tryz.func38 (by kernel_rfl) (by kernel_rfl) (by kernel_rfl) ?_;intro avs r h;unfold s_z38 at h;split at h
 ·obtain ⟨hp,rfl⟩:=yj h;obtain ⟨n,hn⟩:=qOf _ hp;exact ⟨n,_,(qUC n _ _).trans hn,.inl rfl⟩
 ·cases h
def qns:EnvP:=eQ [] 23 (some [2]) (fun x=>if x=3 then some [3,9,10,11] else none) (fun x=>if x=0 then some [3] else if x=1 then some [3,9,10,11] else none) (fun x=>if x=8 then some (.psl 21 (.leaf (.int .i32))) else none)
def qxH:Code:=cO Tryz.f106
def qRr:Array ResultVar:=Tryz.f106.results
noncomputable def qjz (K:Ex→Fr→OA):=fun t3=>K (.exit 0) (frOf [(3,(.pv (.psl 21 (.leaf (.int .i32))) t3 none))])
def qnt (n:Nat):Ex→Fr→OA:=qh 0 (qns.cutb 0) (kSeq (evCP qns (evLP qns n) (sub qxH [1,1,1])) (kFnP qns qRr))
def qsi (t3:LI) (s9:LU) (s10:Int) (s11:Int):Fr:=frOf [(3,(.pv (.psl 21 (.leaf (.int .i32))) t3 none)),(9,da s9),(10,dc s10),(11,dc s11)]
theorem qBp (K:Ex→Fr→OA):∀ (n:Nat) (t3:LI) (s9:LU) (s10:Int) (s11:Int),evLP qns n (sub qxH [1,1,0,1,0,0]) K (qsi t3 s9 s10 s11)=qjY (qjz K) n t3 s9 s10 s11:=by
 intro n;induction n with
 | zero=>intros; rfl
 | succ n IH =>
 intro t3 s9 s10 s11;have ih:(fun t3 s9 s10 s11=>evLP qns n (sub qxH [1,1,0,1,0,0]) K (qsi t3 s9 s10 s11))=qjY (qjz K) n:=by
  funext t3 s9 s10 s11;exact IH t3 s9 s10 s11
 show _=qei (qjz K) (qjY (qjz K) n) n t3 s9 s10 s11;rw [← ih];kernel_rfl
theorem qsj (n:Nat) (t3:LI):(qnt n) (.exit 0) (frOf [(3,(.pv (.psl 21 (.leaf (.int .i32))) t3 none))])=qfV n t3:=by
 kernel_rfl
theorem qRs (n:Nat) (s0:LU) (o0:Lab):evFnP qns n qxH qRr [db s0 o0]=qvF n s0:=by
 unfold qvF;rw [show qjY (qfV n) n=(fun t3 s9 s10 s11=>evLP qns n (sub qxH [1,1,0,1,0,0]) (qnt n) (qsi t3 s9 s10 s11)) from by
  funext t3 s9 s10 s11;refine Eq.trans ?_ (qBp (qnt n) n t3 s9 s10 s11).symm;rw [show (qjz (qnt n))=(qfV n) from by
   funext t3;exact qsj n t3]
  all_goals kernel_rfl]
 kernel_rfl
theorem qpT:qe G Tryz.prog 106 s_z106:=by
 refine sQ (E:=qns) (c:=qxH) rfl (fun w S hg=>qc) Tryz.func106 ?_;intro avs r h;unfold s_z106 at h;split at h
 ·obtain ⟨hp,rfl⟩:=yj h;obtain ⟨n,hn⟩:=qIP _ hp;exact ⟨n,_,(qRs n _ _).trans hn,.inl rfl⟩
 ·cases h
def qRt:EnvP:=eQ [] 6 (some [2]) nC nC nP
def qRu:Code:=cO Tryz.f134
def qUD:Array ResultVar:=Tryz.f134.results
theorem qRv (n:Nat) (c0:Int) (o0:Lab):evFnP qRt n qRu qUD [di c0 o0]=qDp n c0:=by
 kernel_rfl
theorem qBq:qe G Tryz.prog 134 s_z134:=by
 refine sQ (E:=qRt) (c:=qRu) rfl (fun w S hg=>qc) Tryz.func134 ?_;intro avs r h;unfold s_z134 at h;split at h <;> cases h
 obtain ⟨n,hn⟩:=qIQ _;exact ⟨n,_,(qRv n _ _).trans hn,.inl rfl⟩
def qnu:EnvP:=eQ [(106,s_z106),(134,s_z134)] 24 (some [2]) (fun x=>if x=4 then some [3,4,9,10,11] else none) (fun x=>if x=0 then some [3] else if x=1 then some [3,4,9,10,11] else none) (fun x=>if x=8 then some (.psl 21 (.leaf (.int .i32))) else none)
def qxI:Code:=cO Tryz.f103
def qRw:Array ResultVar:=Tryz.f103.results
noncomputable def qBr (K:Ex→Fr→OA):=fun t3=>K (.exit 0) (frOf [(3,(.pv (.psl 21 (.leaf (.int .i32))) t3 none))])
def qnv (n:Nat):Ex→Fr→OA:=qh 0 (qnu.cutb 0) (kSeq (evCP qnu (evLP qnu n) (sub qxI [1,1,1,1])) (kFnP qnu qRw))
def qsk (t3:LI) (s10:Int) (s11:Int):Fr:=frOf [(3,(.pv (.psl 21 (.leaf (.int .i32))) t3 none)),(4,(.fn 134 [])),(9,(.pval 3 [])),(10,dc s10),(11,dc s11)]
theorem qBs (K:Ex→Fr→OA):∀ (n:Nat) (t3:LI) (s10:Int) (s11:Int),evLP qnu n (sub qxI [1,1,1,0,1,0,0]) K (qsk t3 s10 s11)=qjZ (qBr K) n t3 s10 s11:=by
 intro n;induction n with
 | zero=>intros; rfl
 | succ n IH =>
 intro t3 s10 s11;have ih:(fun t3 s10 s11=>evLP qnu n (sub qxI [1,1,1,0,1,0,0]) K (qsk t3 s10 s11))=qjZ (qBr K) n:=by
  funext t3 s10 s11;exact IH t3 s10 s11
 show _=qej (qBr K) (qjZ (qBr K) n) n t3 s10 s11;rw [← ih];kernel_rfl
theorem qsl (n:Nat) (t3:LI):(qnv n) (.exit 0) (frOf [(3,(.pv (.psl 21 (.leaf (.int .i32))) t3 none))])=qfW n t3:=by
 kernel_rfl
theorem qRx (n:Nat) (s0:LU) (o0:Lab):evFnP qnu n qxI qRw [db s0 o0]=qvG n s0:=by
 unfold qvG;rw [show qjZ (qfW n) n=(fun t3 s10 s11=>evLP qnu n (sub qxI [1,1,1,0,1,0,0]) (qnv n) (qsk t3 s10 s11)) from by
  funext t3 s10 s11;refine Eq.trans ?_ (qBs (qnv n) n t3 s10 s11).symm;rw [show (qBr (qnv n))=(qfW n) from by
   funext t3;exact qsl n t3]
  all_goals kernel_rfl]
 kernel_rfl
theorem qBt:qe G Tryz.prog 103 s_z103:=by
 refine sQ (E:=qnu) (c:=qxI) rfl (fun w S hg=>(qa (qpT w S hg) (qa (qBq w S hg) qc))) Tryz.func103 ?_;intro avs r h;unfold s_z103 at h;split at h
 ·obtain ⟨hp,rfl⟩:=yj h;obtain ⟨n,hn⟩:=qIR _ hp;exact ⟨n,_,(qRx n _ _).trans hn,.inl rfl⟩
 ·cases h
def qRy:EnvP:=eQ [] 10 (some [0]) nC nC nP
def qRz:Code:=cO Tryz.f161
def qUE:Array ResultVar:=Tryz.f161.results
theorem qRA (n:Nat)  : evFnP qRy n qRz qUE []=qKo n  := by
 kernel_rfl
theorem qBu:qe G Tryz.prog 161 s_z161:=by
 refine sQ (E:=qRy) (c:=qRz) rfl (fun w S hg=>qc) Tryz.func161 ?_;intro avs r h;unfold s_z161 at h;split at h <;> cases h
 obtain ⟨n,hn⟩:=qIK;exact ⟨n,_,(qRA n ).trans hn,.inl rfl⟩
def qnw:EnvP:=eQ [(161,s_z161)] 18 (some [2]) (fun x=>if x=2 then some [0,5,6] else none) (fun x=>if x=0 then some [0] else if x=1 then some [0,5,6] else none) nP
def qxJ:Code:=cO Tryz.f135
def qRB:Array ResultVar:=Tryz.f135.results
noncomputable def qnx (K:Ex→Fr→OA):=fun s2=>K .ret (frOf [(2,(di s2 none))])
noncomputable def qjA (K:Ex→Fr→OA):=fun x0=>K (.exit 0) (frOf [(0,dm x0)])
def qny (n:Nat):Ex→Fr→OA:=qh 0 (qnw.cutb 0) (kSeq (evCP qnw (evLP qnw n) (sub qxJ [1,1])) (kFnP qnw qRB))
def qsm (x0:UInt8) (s5:List (UInt8×(Int×Unit))) (s6:Int):Fr:=frOf [(0,dm x0),(5,(.dat (.arr 8 (.pair .byte (.pair (.int .i32) .unit))) s5 none)),(6,dc s6)]
theorem qBv (K:Ex→Fr→OA):∀ (n:Nat) (x0:UInt8) (s5:List (UInt8×(Int×Unit))) (s6:Int),evLP qnw n (sub qxJ [1,0,1,0,0]) K (qsm x0 s5 s6)=qlI (qnx K) (qjA K) n x0 s5 s6:=by
 intro n;induction n with
 | zero=>intros; rfl
 | succ n IH =>
 intro x0 s5 s6;have ih:(fun x0 s5 s6=>evLP qnw n (sub qxJ [1,0,1,0,0]) K (qsm x0 s5 s6))=qlI (qnx K) (qjA K) n:=by
  funext x0 s5 s6;exact IH x0 s5 s6
 show _=qvH (qnx K) (qjA K) (qlI (qnx K) (qjA K) n) n x0 s5 s6;rw [← ih];kernel_rfl
theorem qsn (n:Nat) (x0:UInt8):(qny n) (.exit 0) (frOf [(0,dm x0)])=qiv n x0:=by
 kernel_rfl
theorem qRC (n:Nat) (x0:UInt8) (o0:Lab):evFnP qnw n qxJ qRB [dn x0 o0]=qvI n x0:=by
 unfold qvI;rw [show qlI qaV (qiv n) n=(fun x0 s5 s6=>evLP qnw n (sub qxJ [1,0,1,0,0]) (qny n) (qsm x0 s5 s6)) from by
  funext x0 s5 s6;refine Eq.trans ?_ (qBv (qny n) n x0 s5 s6).symm;rw [show (qjA (qny n))=(qiv n) from by
   funext x0;exact qsn n x0]
  all_goals kernel_rfl]
 kernel_rfl
theorem qBw:qe G Tryz.prog 135 s_z135:=by
 refine sQ (E:=qnw) (c:=qxJ) rfl (fun w S hg=>(qa (qBu w S hg) qc)) Tryz.func135 ?_;intro avs r h;unfold s_z135 at h;split at h <;> cases h
 obtain ⟨n,hn⟩:=qIS _;exact ⟨n,_,(qRC n _ _).trans hn,.inl rfl⟩
def qnz:EnvP:=eQ [(135,s_z135)] 19 (some [2]) (fun x=>if x=3 then some [3,6,7,8] else none) (fun x=>if x=0 then some [3] else if x=1 then some [3,6,7,8] else none) nP
def qxK:Code:=cO Tryz.f104
def qRD:Array ResultVar:=Tryz.f104.results
noncomputable def qjB (K:Ex→Fr→OA):=fun t3=>K (.exit 0) (frOf [(3,(.dat (.sl (.int .i32)) t3 (some (3,21))))])
def qnA (n:Nat):Ex→Fr→OA:=qh 0 (qnz.cutb 0) (kSeq (evCP qnz (evLP qnz n) (sub qxK [1,1,1])) (kFnP qnz qRD))
def qso (t3:LI) (s6:LU) (s7:Int) (s8:Int):Fr:=frOf [(3,(.dat (.sl (.int .i32)) t3 (some (3,21)))),(6,da s6),(7,dc s7),(8,dc s8)]
theorem qBx (K:Ex→Fr→OA):∀ (n:Nat) (t3:LI) (s6:LU) (s7:Int) (s8:Int),evLP qnz n (sub qxK [1,1,0,1,0,0]) K (qso t3 s6 s7 s8)=qka (qjB K) n t3 s6 s7 s8:=by
 intro n;induction n with
 | zero=>intros; rfl
 | succ n IH =>
 intro t3 s6 s7 s8;have ih:(fun t3 s6 s7 s8=>evLP qnz n (sub qxK [1,1,0,1,0,0]) K (qso t3 s6 s7 s8))=qka (qjB K) n:=by
  funext t3 s6 s7 s8;exact IH t3 s6 s7 s8
 show _=qek (qjB K) (qka (qjB K) n) n t3 s6 s7 s8;rw [← ih];kernel_rfl
theorem qsp (n:Nat) (t3:LI):(qnA n) (.exit 0) (frOf [(3,(.dat (.sl (.int .i32)) t3 (some (3,21))))])=qel n t3:=by
 kernel_rfl
theorem qRE (n:Nat) (s0:LU) (o0:Lab):evFnP qnz n qxK qRD [db s0 o0]=qvJ n s0:=by
 unfold qvJ;rw [show qka (qel n) n=(fun t3 s6 s7 s8=>evLP qnz n (sub qxK [1,1,0,1,0,0]) (qnA n) (qso t3 s6 s7 s8)) from by
  funext t3 s6 s7 s8;refine Eq.trans ?_ (qBx (qnA n) n t3 s6 s7 s8).symm;rw [show (qjB (qnA n))=(qel n) from by
   funext t3;exact qsp n t3]
  all_goals kernel_rfl]
 kernel_rfl
theorem qBy:qe G Tryz.prog 104 s_z104:=by
 refine sQ (E:=qnz) (c:=qxK) rfl (fun w S hg=>(qa (qBw w S hg) qc)) Tryz.func104 ?_;intro avs r h;unfold s_z104 at h;split at h
 ·obtain ⟨hp,rfl⟩:=yj h;obtain ⟨n,hn⟩:=qIT _ hp;exact ⟨n,_,(qRE n _ _).trans hn,.inl rfl⟩
 ·cases h
def qRF:EnvP:=⟨⟨tiOf tis,fnsOf [],cnsOf [],[],4,(fun _=>none),(fun _=>none),some [0]⟩,fun _=>none,fun _=>none,(fun x=>if x=500002 then [1] else []),fun _=>none,fun _=>none,fun _=>none,fun _=>none⟩
def qRG:Code:=cO Tryz.f162
def qUF:Array ResultVar:=Tryz.f162.results
theorem qRH (n:Nat)  : evFnP qRF n qRG qUF []=qKp n  := by
 kernel_rfl
theorem qBz:qe G Tryz.prog 162 s_z162:=by
 refine qB G_stays (E:=qRF) (fn:=Tryz.f162) (c:=qRG) (qj rfl qbd) (fun w S hg=>⟨⟨qc,fun f sp h=>qac f sp h w S⟩,qai w S hg,(fun _ _ h=>by cases h),(fun f sp h=>qaD f sp h),(fun f it h=>qaE f it h),(fun t kt vt h=>qah t kt vt h)⟩) follows Tryz.func162 (by kernel_rfl) (by kernel_rfl) (by kernel_rfl) ?_;intro avs r h;unfold s_z162 at h;split at h <;> cases h
 obtain ⟨n,hn⟩:=qIL;exact ⟨n,_,(qRH n ).trans hn,.inl rfl⟩
def qRI:EnvP:=eQ [(162,s_z162)] 20 (some [2]) nC nC nP
def qRJ:Code:=cO Tryz.f136
def qUG:Array ResultVar:=Tryz.f136.results
theorem qRK (n:Nat) (x0:UInt8) (o0:Lab):evFnP qRI n qRJ qUG [dn x0 o0]=qDt n x0:=by
 kernel_rfl
theorem qBA:qe G Tryz.prog 136 s_z136:=by
 refine sQ (E:=qRI) (c:=qRJ) rfl (fun w S hg=>(qa (qBz w S hg) qc)) Tryz.func136 ?_;intro avs r h;unfold s_z136 at h;split at h <;> cases h
 obtain ⟨n,hn⟩:=qIU _;exact ⟨n,_,(qRK n _ _).trans hn,.inl rfl⟩
def qnB:EnvP:=eQ [(136,s_z136)] 22 (some [2]) (fun x=>if x=3 then some [3,9,10,11] else none) (fun x=>if x=0 then some [3] else if x=1 then some [3,9,10,11] else none) nP
def qxL:Code:=cO Tryz.f105
def qRL:Array ResultVar:=Tryz.f105.results
noncomputable def qjC (K:Ex→Fr→OA):=fun t3=>K (.exit 0) (frOf [(3,(.dat (.sl (.int .i32)) t3 (some (3,21))))])
def qnC (n:Nat):Ex→Fr→OA:=qh 0 (qnB.cutb 0) (kSeq (evCP qnB (evLP qnB n) (sub qxL [1,1,1])) (kFnP qnB qRL))
def qsq (t3:LI) (s9:LU) (s10:Int) (s11:Int):Fr:=frOf [(3,(.dat (.sl (.int .i32)) t3 (some (3,21)))),(9,da s9),(10,dc s10),(11,dc s11)]
theorem qBB (K:Ex→Fr→OA):∀ (n:Nat) (t3:LI) (s9:LU) (s10:Int) (s11:Int),evLP qnB n (sub qxL [1,1,0,1,0,0]) K (qsq t3 s9 s10 s11)=qkc (qjC K) n t3 s9 s10 s11:=by
 intro n;induction n with
 | zero=>intros; rfl
 | succ n IH =>
 intro t3 s9 s10 s11;have ih:(fun t3 s9 s10 s11=>evLP qnB n (sub qxL [1,1,0,1,0,0]) K (qsq t3 s9 s10 s11))=qkc (qjC K) n:=by
  funext t3 s9 s10 s11;exact IH t3 s9 s10 s11
 show _=qem (qjC K) (qkc (qjC K) n) n t3 s9 s10 s11;rw [← ih];kernel_rfl
theorem qsr (n:Nat) (t3:LI):(qnC n) (.exit 0) (frOf [(3,(.dat (.sl (.int .i32)) t3 (some (3,21))))])=qen n t3:=by
 kernel_rfl
theorem qRM (n:Nat) (s0:LU) (o0:Lab):evFnP qnB n qxL qRL [db s0 o0]=qvK n s0:=by
 unfold qvK;rw [show qkc (qen n) n=(fun t3 s9 s10 s11=>evLP qnB n (sub qxL [1,1,0,1,0,0]) (qnC n) (qsq t3 s9 s10 s11)) from by
  funext t3 s9 s10 s11;refine Eq.trans ?_ (qBB (qnC n) n t3 s9 s10 s11).symm;rw [show (qjC (qnC n))=(qen n) from by
   funext t3;exact qsr n t3]
  all_goals kernel_rfl]
 kernel_rfl
theorem qBC:qe G Tryz.prog 105 s_z105:=by
 refine sQ (E:=qnB) (c:=qxL) rfl (fun w S hg=>(qa (qBA w S hg) qc)) Tryz.func105 ?_;intro avs r h;unfold s_z105 at h;split at h
 ·obtain ⟨hp,rfl⟩:=yj h;obtain ⟨n,hn⟩:=qIV _ hp;exact ⟨n,_,(qRM n _ _).trans hn,.inl rfl⟩
 ·cases h
def E_z63:EnvP:=eQ [(38,s_z38),(103,s_z103),(104,s_z104),(105,s_z105),(106,s_z106)] 24 (some [1000004]) nC (fun x=>if x=0 then some [1] else none) nP
def C_z63:Code:=cO Tryz.f63
def R_z63:Array ResultVar:=Tryz.f63.results
theorem qUH (n:Nat) (charset0:Int) (o0:Lab) (s1:LU) (o1:Lab):evFnP E_z63 n C_z63 R_z63 [de charset0 o0,db s1 o1]=qMH n charset0 s1:=by
 kernel_rfl
theorem qGJ:qe G Tryz.prog 63 s_z63:=by
 refine sQ (E:=E_z63) (c:=C_z63) rfl (fun w S hg=>(qa (quL w S hg) (qa (qBt w S hg) (qa (qBy w S hg) (qa (qBC w S hg) (qa (qpT w S hg) qc)))))) Tryz.func63 ?_;intro avs r h;unfold s_z63 at h;split at h
 ·obtain ⟨hp,rfl⟩:=yj h;obtain ⟨n,hn⟩:=qNN _ _ hp;exact ⟨n,_,(qUH n _ _ _ _).trans hn,.inl rfl⟩
 ·cases h
def qss:EnvP:=eQ [(121,s_z121)] 28 (some [28,29]) (fun x=>if x=1 then some [0,7,8,9,28,29] else none) (fun x=>if x=0 then some [28,29] else if x=1 then some [0,7,8,9,28,29] else none) nP
def qBD:Code:=cO Tryz.f173
def qRN:Array ResultVar:=Tryz.f173.results
def qnD (V:Sigma Inv) (x0:Den V.1) (x1:LU):Ex→Fr→OA:=qh 0 (qss.cutb 0) (kFnM qss qRN [.abs V.1 V.2 x0,.pbox (.leaf (.sl .byte)) x1 none])
def qst (s7:LU) (s8:Int) (s9:Int) (V:Sigma Inv) (xv:Den V.1) (s29:LU):Fr:=frOf [(0,(.padr 28 [])),(7,da s7),(8,dc s8),(9,dc s9),(28,(.abs V.1 V.2 xv)),(29,(.pbox (.leaf (.sl .byte)) s29 none))]
def qcq (V:Sigma Inv) (xv:Den V.1) (s29:LU):Fr:=frOf [(28,(.abs V.1 V.2 xv)),(29,(.pbox (.leaf (.sl .byte)) s29 none))]
theorem qBE (V:Sigma Inv) (K:Ex→Fr→OA):∀ (n:Nat) (s7:LU) (s8:Int) (s9:Int) (xv:Den V.1) (s29:LU),evLP qss n (sub qBD [1,0,0]) K (qst s7 s8 s9 V xv s29)=(qfX V) (fun xv s29=>K .ret (qcq V xv s29)) (fun xv s29=>K (.exit 0) (qcq V xv s29)) n s7 s8 s9 xv s29:=by
 intro n;induction n with
 | zero=>intros; rfl
 | succ n IH =>
 intro s7 s8 s9 xv s29;have ih:(fun s7 s8 s9 xv s29=>evLP qss n (sub qBD [1,0,0]) K (qst s7 s8 s9 V xv s29))=(qfX V) (fun xv s29=>K .ret (qcq V xv s29)) (fun xv s29=>K (.exit 0) (qcq V xv s29)) n:=by
  funext s7 s8 s9 xv s29;exact IH s7 s8 s9 xv s29
 show _=(qeo V) (fun xv s29=>K .ret (qcq V xv s29)) (fun xv s29=>K (.exit 0) (qcq V xv s29)) ((qfX V) (fun xv s29=>K .ret (qcq V xv s29)) (fun xv s29=>K (.exit 0) (qcq V xv s29)) n) n s7 s8 s9 xv s29;rw [← ih];kernel_rfl
theorem qsu (V:Sigma Inv) (x0:Den V.1) (x1:LU) (n:Nat) (xv:Den V.1) (s29:LU):(qnD V x0 x1) (.exit 0) (qcq V xv s29)=(qda V) n xv s29:=by
 kernel_rfl
theorem qRO (V:Sigma Inv) (n:Nat) (x0:Den V.1) (x1:LU):evFnM qss n qBD qRN [.abs V.1 V.2 x0,.pbox (.leaf (.sl .byte)) x1 none]=(qvL V) n x0 x1:=by
 unfold qvL;rw [show (qfX V) (qbU V) ((qda V) n) n=(fun s7 s8 s9 xv s29=>evLP qss n (sub qBD [1,0,0]) (qnD V x0 x1) (qst s7 s8 s9 V xv s29)) from by
  funext s7 s8 s9 xv s29;refine Eq.trans ?_ ((qBE V) (qnD V x0 x1) n s7 s8 s9 xv s29).symm;rw [show (fun xv s29=>(qnD V x0 x1) (.exit 0) (qcq V xv s29))=((qda V) n) from by
   funext xv s29;exact (qsu V) x0 x1 n xv s29]
  all_goals kernel_rfl]
 kernel_rfl
theorem qxM:qhO G Tryz.prog 173 s_z173:=by
 refine qT G_stays (E:=qss) (fn:=Tryz.f173) (c:=qBD) (qj rfl qbd) (fun w S hg=>⟨⟨(qa (qpG w S hg) qc),fun f sp h=>qac f sp h w S⟩,qai w S hg,(fun _ _ h=>by cases h),(fun f sp h=>qaD f sp h),(fun f it h=>qaE f it h),(fun t kt vt h=>qah t kt vt h)⟩) follows Tryz.func173 (by kernel_rfl) (by kernel_rfl) (by kernel_rfl) ?_;intro avs r h;unfold s_z173 at h;split at h
 ·rename_i s V x _;simp only [yb] at h;obtain ⟨hp,rfl⟩:=h;obtain ⟨n,hn⟩:=qJe ⟨s,V⟩ _ _ hp;exact ⟨n,(qRO ⟨s,V⟩ n _ _).trans hn⟩
 ·cases h
theorem qBF:qPs G Tryz.prog 173 qJS:=qwt qxM (enters_of Tryz.func173 (by kernel_rfl) rfl) (fun s V x x' y h=>by
 obtain ⟨h1,h2⟩:=yj h;subst h2;refine ⟨_,_,Prod.ext h1 rfl⟩)
end
end Go.Av
