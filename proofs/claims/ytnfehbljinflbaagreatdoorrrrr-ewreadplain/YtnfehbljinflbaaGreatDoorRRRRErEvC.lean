import Derived.Test.YtnfehbljinflbaaGreatDoorRRRRErEvB
import Derived.Test.YtnfehbljinflbaaGreatDoorRRRREtN
import Derived.Test.YtnfehbljinflbaaGreatDoorRRRRProg
import Derived.KernelRfl
namespace Go.Av
set_option linter.unusedSimpArgs false
noncomputable section
open Go.Proofs
set_option maxRecDepth 100000
set_option linter.unusedVariables false
def qFD:EnvP:=eQ [] 19 (some [2]) nC (fun x=>if x=0 then some [] else none) nP
def qFE:Code:=cO Tryz.f117
def qIQ:Array ResultVar:=Tryz.f117.results
theorem qFF (n:Nat) (charset0:Int) (o0:Lab):evFnP qFD n qFE qIQ [de charset0 o0]=qvQ n charset0:=by
 kernel_rfl
theorem quq:qf G Tryz.prog 117 s_z117:=by
 refine sQ (E:=qFD) (c:=qFE) rfl (fun w S hg=>qc) Tryz.func117 ?_;intro avs r h;unfold s_z117 at h;split at h <;> cases h
 obtain ⟨n,hn⟩:=qAj _;exact ⟨n,_,(qFF n _ _).trans hn,.inl rfl⟩
def E_z86:EnvP:=⟨⟨tiOf tis,fnsOf [(117,s_z117)],cnsOf [],[],22,(fun x=>if x=3 then some [1,2] else if x=6 then some [1,2,11,12,13] else none),(fun x=>if x=0 then some [1] else if x=1 then some [1,2] else if x=2 then some [1,2] else if x=3 then some [1,2,11,12,13] else none),none⟩,fun _=>none,fun _=>none,fun _=>[],fun _=>none,fun _=>none,fun _=>none,(fun x=>if x=99 then some (9,3) else none)⟩
def C_z86:Code:=cO Tryz.f86
def R_z86:Array ResultVar:=Tryz.f86.results
def qfC (m1:List ((List UInt8)×Int)) (n2:Int):Fr:=frOf [(1,(.abs (.sl (.pair .str (.int .i64))) (qjF .str (.int .i64)) m1)),(2,dc n2)]
noncomputable def qlY (K:Ex→Fr→Option AV):=fun m1 n2=>K (.exit 2) (qfC m1 n2)
noncomputable def qhm (K:Ex→Fr→Option AV):=fun m1=>K (.exit 0) (frOf [(1,(.abs (.sl (.pair .str (.int .i64))) (qjF .str (.int .i64)) m1))])
def qpN (n:Nat) (K:Ex→Fr→Option AV):Ex→Fr→Option AV:=qm 2 (E_z86.cutb 2) (qm 1 (E_z86.cutb 1) (kSeq (evCP E_z86 (evLP E_z86 n) (sub C_z86 [1,1,0,1,0,0,1,1])) (kSeq (fun K fr=>evLP E_z86 n (sub C_z86 [1,1,0,1,0,0]) K (cutFP (E_z86.cuts 3) fr)) K)))
def qpO (n:Nat):Ex→Fr→Option AV:=qm 0 (E_z86.cutb 0) (kSeq (evCP E_z86 (evLP E_z86 n) (sub C_z86 [1,1,1])) (kFnR R_z86))
def qur (m1:List ((List UInt8)×Int)) (n2:Int) (s11:List (List UInt8)) (s12:Int) (s13:Int):Fr:=frOf [(1,(.abs (.sl (.pair .str (.int .i64))) (qjF .str (.int .i64)) m1)),(2,dc n2),(11,(.dat (.sl .str) s11 (some (11,9)))),(12,dc s12),(13,dc s13)]
theorem qyP (K:Ex→Fr→Option AV):∀ (n:Nat) (m1:List ((List UInt8)×Int)) (n2:Int) (s11:List (List UInt8)) (s12:Int) (s13:Int),evLP E_z86 n (sub C_z86 [1,1,0,1,0,0,1,0,0,1,0,0]) K (qur m1 n2 s11 s12 s13)=qsp (qlY K) n m1 n2 s11 s12 s13:=by
 intro n;induction n with
 | zero=>intros; rfl
 | succ n IH =>
 intro m1 n2 s11 s12 s13;have ih:(fun m1 n2 s11 s12 s13=>evLP E_z86 n (sub C_z86 [1,1,0,1,0,0,1,0,0,1,0,0]) K (qur m1 n2 s11 s12 s13))=qsp (qlY K) n:=by
  funext m1 n2 s11 s12 s13;exact IH m1 n2 s11 s12 s13
 show _=qvR (qlY K) (qsp (qlY K) n) n m1 n2 s11 s12 s13;rw [← ih];kernel_rfl
theorem qrA (K:Ex→Fr→Option AV) (n:Nat) (m1:List ((List UInt8)×Int)) (n2:Int):(qpN n K) (.exit 2) (qfC m1 n2)=qkU (fun m1=>K (.exit 0) (frOf [(1,(.abs (.sl (.pair .str (.int .i64))) (qjF .str (.int .i64)) m1))])) (fun m1 n2=>evLP E_z86 n (sub C_z86 [1,1,0,1,0,0]) K (qfC m1 n2)) n m1 n2:=by
 kernel_rfl
theorem qyQ (K:Ex→Fr→Option AV):∀ (n:Nat) (m1:List ((List UInt8)×Int)) (n2:Int),evLP E_z86 n (sub C_z86 [1,1,0,1,0,0]) K (qfC m1 n2)=qsq (qhm K) n m1 n2:=by
 intro n;induction n with
 | zero=>intros; rfl
 | succ n IH =>
 intro m1 n2;have ih:(fun m1 n2=>evLP E_z86 n (sub C_z86 [1,1,0,1,0,0]) K (qfC m1 n2))=qsq (qhm K) n:=by
  funext m1 n2;exact IH m1 n2
 show _=qoo (qhm K) (qsq (qhm K) n) n m1 n2;rw [← ih];unfold qoo;rw [show qsp (qkU (qhm K) (fun m1 n2=>evLP E_z86 n (sub C_z86 [1,1,0,1,0,0]) K (qfC m1 n2)) n) n=(fun m1 n2 s11 s12 s13=>evLP E_z86 n (sub C_z86 [1,1,0,1,0,0,1,0,0,1,0,0]) (qpN n K) (qur m1 n2 s11 s12 s13)) from by
  funext m1 n2 s11 s12 s13;refine Eq.trans ?_ (qyP (qpN n K) n m1 n2 s11 s12 s13).symm;rw [show (qlY (qpN n K))=(qkU (qhm K) (fun m1 n2=>evLP E_z86 n (sub C_z86 [1,1,0,1,0,0]) K (qfC m1 n2)) n) from by
   funext m1 n2;exact qrA K n m1 n2]
  all_goals kernel_rfl]
 kernel_rfl
theorem qrB (n:Nat) (m1:List ((List UInt8)×Int)):(qpO n) (.exit 0) (frOf [(1,(.abs (.sl (.pair .str (.int .i64))) (qjF .str (.int .i64)) m1))])=qkV n m1:=by
 kernel_rfl
theorem qIR (n:Nat)  : evFnR E_z86 n C_z86 R_z86 []=qDn n  := by
 unfold qDn;rw [show qsq (qkV n) n=(fun m1 n2=>evLP E_z86 n (sub C_z86 [1,1,0,1,0,0]) (qpO n) (qfC m1 n2)) from by
  funext m1 n2;refine Eq.trans ?_ (qyQ (qpO n) n m1 n2).symm;rw [show (qhm (qpO n))=(qkV n) from by
   funext m1;exact qrB n m1]
  all_goals kernel_rfl]
 kernel_rfl
theorem qyR:qCn G Tryz.prog 86 s_z86:=by
 refine qgG G_stays (E:=E_z86) (fn:=Tryz.f86) (c:=C_z86) (qe rfl qaU) (fun w S hg=>⟨⟨(qb (quq w S hg) qc),fun f sp h=>qZ f sp h w S⟩,qae w S hg,(fun _ _ h=>by cases h),(fun f sp h=>qat f sp h),(fun f it h=>qau f it h),(fun t kt vt h=>(qsG (by kernel_rfl) qaa) t kt vt h)⟩) follows Tryz.func86 (by kernel_rfl) (by kernel_rfl) (by kernel_rfl) ?_;intro avs r h;unfold s_z86 at h;split at h <;> cases h
 obtain ⟨n,hn⟩:=qEh;exact ⟨n,(qIR n ).trans hn⟩
def qjY:EnvP:=eQ [] 21 (some [1000004]) (fun x=>if x=1 then some [0,1] else none) (fun x=>if x=0 then some [0] else if x=1 then some [0,1] else none) nP
def qrC:Code:=cO Tryz.f146
def qFG:Array ResultVar:=Tryz.f146.results
noncomputable def qhn (K:Ex→Fr→Option AV):=fun s0=>K (.exit 0) (frOf [(0,da s0)])
def qjZ (n:Nat):Ex→Fr→Option AV:=qm 0 (qjY.cutb 0) (kSeq (evCP qjY (evLP qjY n) (sub qrC [1,1])) (kFnP qjY qFG))
def qnz (s0:List UInt8) (c1:UInt8):Fr:=frOf [(0,da s0),(1,(di c1 none))]
theorem qus (K:Ex→Fr→Option AV):∀ (n:Nat) (s0:List UInt8) (c1:UInt8),evLP qjY n (sub qrC [1,0,0,0]) K (qnz s0 c1)=qiO (qhn K) n s0 c1:=by
 intro n;induction n with
 | zero=>intros; rfl
 | succ n IH =>
 intro s0 c1;have ih:(fun s0 c1=>evLP qjY n (sub qrC [1,0,0,0]) K (qnz s0 c1))=qiO (qhn K) n:=by
  funext s0 c1;exact IH s0 c1
 show _=qqj (qhn K) (qiO (qhn K) n) n s0 c1;rw [← ih];kernel_rfl
theorem qnA (n:Nat) (s0:List UInt8):(qjZ n) (.exit 0) (frOf [(0,da s0)])=qgq n s0:=by
 kernel_rfl
theorem qFH (n:Nat) (s0:List UInt8) (o0:Lab) (c1:UInt8) (o1:Lab):evFnP qjY n qrC qFG [db s0 o0,di c1 o1]=qvS n s0 c1:=by
 unfold qvS;rw [show qiO (qgq n) n=(fun s0 c1=>evLP qjY n (sub qrC [1,0,0,0]) (qjZ n) (qnz s0 c1)) from by
  funext s0 c1;refine Eq.trans ?_ (qus (qjZ n) n s0 c1).symm;rw [show (qhn (qjZ n))=(qgq n) from by
   funext s0;exact qnA n s0]
  all_goals kernel_rfl]
 kernel_rfl
theorem qlZ:qf G Tryz.prog 146 s_z146:=by
 refine sQ (E:=qjY) (c:=qrC) rfl (fun w S hg=>qc) Tryz.func146 ?_;intro avs r h;unfold s_z146 at h;split at h
 ·obtain ⟨hp,rfl⟩:=yj h;obtain ⟨n,hn⟩:=qzQ _ _ hp;exact ⟨n,_,(qFH n _ _ _ _).trans hn,.inl rfl⟩
 ·cases h
def qka:EnvP:=eQ [] 21 (some [2,3]) (fun x=>if x=2 then some [0,2,4] else none) (fun x=>if x=0 then some [2] else if x=1 then some [0,2,4] else none) nP
def qrD:Code:=cO Tryz.f147
def qFI:Array ResultVar:=Tryz.f147.results
noncomputable def qkb (K:Ex→Fr→Option AV):=fun as2 ok3=>K .ret (frOf [(2,(.box (.arr 256 .bool) as2)),(3,dg ok3)])
noncomputable def qho (K:Ex→Fr→Option AV):=fun as2=>K (.exit 0) (frOf [(2,(.box (.arr 256 .bool) as2))])
def qkc (n:Nat):Ex→Fr→Option AV:=qm 0 (qka.cutb 0) (kSeq (evCP qka (evLP qka n) (sub qrD [1,1])) (kFnP qka qFI))
def qnB (chars0:List UInt8) (as2:List Bool) (i4:Int):Fr:=frOf [(0,(df chars0 none)),(2,(.box (.arr 256 .bool) as2)),(4,dc i4)]
theorem qut (K:Ex→Fr→Option AV):∀ (n:Nat) (chars0:List UInt8) (as2:List Bool) (i4:Int),evLP qka n (sub qrD [1,0,1,0,0]) K (qnB chars0 as2 i4)=qeF (qkb K) (qho K) n chars0 as2 i4:=by
 intro n;induction n with
 | zero=>intros; rfl
 | succ n IH =>
 intro chars0 as2 i4;have ih:(fun chars0 as2 i4=>evLP qka n (sub qrD [1,0,1,0,0]) K (qnB chars0 as2 i4))=qeF (qkb K) (qho K) n:=by
  funext chars0 as2 i4;exact IH chars0 as2 i4
 show _=qdt (qkb K) (qho K) (qeF (qkb K) (qho K) n) n chars0 as2 i4;rw [← ih];kernel_rfl
theorem qnC (n:Nat) (as2:List Bool):(qkc n) (.exit 0) (frOf [(2,(.box (.arr 256 .bool) as2))])=qeG n as2:=by
 kernel_rfl
theorem qFJ (n:Nat) (chars0:List UInt8) (o0:Lab):evFnP qka n qrD qFI [df chars0 o0]=qvT n chars0:=by
 unfold qvT;rw [show qeF qhH (qeG n) n=(fun chars0 as2 i4=>evLP qka n (sub qrD [1,0,1,0,0]) (qkc n) (qnB chars0 as2 i4)) from by
  funext chars0 as2 i4;refine Eq.trans ?_ (qut (qkc n) n chars0 as2 i4).symm;rw [show (qho (qkc n))=(qeG n) from by
   funext as2;exact qnC n as2]
  all_goals kernel_rfl]
 kernel_rfl
theorem qhp:qf G Tryz.prog 147 s_z147:=by
 refine sQ (E:=qka) (c:=qrD) rfl (fun w S hg=>qc) Tryz.func147 ?_;intro avs r h;unfold s_z147 at h;split at h
 ·obtain ⟨hp,rfl⟩:=yj h;obtain ⟨n,hn⟩:=qzM _ hp;exact ⟨n,_,(qFJ n _ _).trans hn,.inl rfl⟩
 ·cases h
def qFK:EnvP:=eQ [] 10 (some [4]) nC nC nP
def qFL:Code:=cO Tryz.f153
def qIS:Array ResultVar:=Tryz.f153.results
theorem qFM (n:Nat) (as0:List Bool) (c1:UInt8) (o1:Lab):evFnP qFK n qFL qIS [.adr (.arr 256 .bool) as0,di c1 o1]=qvV n as0 c1:=by
 kernel_rfl
theorem qhq:qf G Tryz.prog 153 s_z153:=by
 refine sQ (E:=qFK) (c:=qFL) rfl (fun w S hg=>qc) Tryz.func153 ?_;intro avs r h;unfold s_z153 at h;split at h <;> cases h
 obtain ⟨n,hn⟩:=qzN _ _;exact ⟨n,_,(qFM n _ _ _).trans hn,.inl rfl⟩
def qkd:EnvP:=eQ [(153,s_z153)] 20 (some [1000004]) (fun x=>if x=1 then some [0,1] else none) (fun x=>if x=0 then some [0] else if x=1 then some [0,1] else none) nP
def qrE:Code:=cO Tryz.f148
def qFN:Array ResultVar:=Tryz.f148.results
noncomputable def qhr (K:Ex→Fr→Option AV):=fun s0=>K (.exit 0) (frOf [(0,da s0)])
def qke (n:Nat):Ex→Fr→Option AV:=qm 0 (qkd.cutb 0) (kSeq (evCP qkd (evLP qkd n) (sub qrE [1,1])) (kFnP qkd qFN))
def qnD (s0:List UInt8) (as1:List Bool):Fr:=frOf [(0,da s0),(1,(.adr (.arr 256 .bool) as1))]
theorem quu (K:Ex→Fr→Option AV):∀ (n:Nat) (s0:List UInt8) (as1:List Bool),evLP qkd n (sub qrE [1,0,0,0]) K (qnD s0 as1)=qfF (qhr K) n s0 as1:=by
 intro n;induction n with
 | zero=>intros; rfl
 | succ n IH =>
 intro s0 as1;have ih:(fun s0 as1=>evLP qkd n (sub qrE [1,0,0,0]) K (qnD s0 as1))=qfF (qhr K) n:=by
  funext s0 as1;exact IH s0 as1
 show _=qgr (qhr K) (qfF (qhr K) n) n s0 as1;rw [← ih];kernel_rfl
theorem qnE (n:Nat) (s0:List UInt8):(qke n) (.exit 0) (frOf [(0,da s0)])=qeH n s0:=by
 kernel_rfl
theorem qFO (n:Nat) (s0:List UInt8) (o0:Lab) (as1:List Bool):evFnP qkd n qrE qFN [db s0 o0,.adr (.arr 256 .bool) as1]=qqk n s0 as1:=by
 unfold qqk;rw [show qfF (qeH n) n=(fun s0 as1=>evLP qkd n (sub qrE [1,0,0,0]) (qke n) (qnD s0 as1)) from by
  funext s0 as1;refine Eq.trans ?_ (quu (qke n) n s0 as1).symm;rw [show (qhr (qke n))=(qeH n) from by
   funext s0;exact qnE n s0]
  all_goals kernel_rfl]
 kernel_rfl
theorem qma:qf G Tryz.prog 148 s_z148:=by
 refine sQ (E:=qkd) (c:=qrE) rfl (fun w S hg=>(qb (qhq w S hg) qc)) Tryz.func148 ?_;intro avs r h;unfold s_z148 at h;split at h
 ·obtain ⟨hp,rfl⟩:=yj h;obtain ⟨n,hn⟩:=qzT _ _ hp;exact ⟨n,_,(qFO n _ _ _).trans hn,.inl rfl⟩
 ·cases h
def qkf:EnvP:=eQ [] 24 (some [4]) (fun x=>if x=1 then some [0,1] else none) (fun x=>if x=0 then some [0] else if x=1 then some [0,1] else none) nP
def qrF:Code:=cO Tryz.f156
def qFP:Array ResultVar:=Tryz.f156.results
noncomputable def qhs (K:Ex→Fr→Option AV):=fun s0=>K (.exit 0) (frOf [(0,da s0)])
def qkg (n:Nat):Ex→Fr→Option AV:=qm 0 (qkf.cutb 0) (kSeq (evCP qkf (evLP qkf n) (sub qrF [1,1])) (kFnP qkf qFP))
def qnF (s0:List UInt8) (c1:UInt8):Fr:=frOf [(0,da s0),(1,(di c1 none))]
theorem quv (K:Ex→Fr→Option AV):∀ (n:Nat) (s0:List UInt8) (c1:UInt8),evLP qkf n (sub qrF [1,0,0,0]) K (qnF s0 c1)=qiP (qhs K) n s0 c1:=by
 intro n;induction n with
 | zero=>intros; rfl
 | succ n IH =>
 intro s0 c1;have ih:(fun s0 c1=>evLP qkf n (sub qrF [1,0,0,0]) K (qnF s0 c1))=qiP (qhs K) n:=by
  funext s0 c1;exact IH s0 c1
 show _=qql (qhs K) (qiP (qhs K) n) n s0 c1;rw [← ih];kernel_rfl
theorem qnG (n:Nat) (s0:List UInt8):(qkg n) (.exit 0) (frOf [(0,da s0)])=qgs n s0:=by
 kernel_rfl
theorem qFQ (n:Nat) (s0:List UInt8) (o0:Lab) (c1:UInt8) (o1:Lab):evFnP qkf n qrF qFP [db s0 o0,di c1 o1]=qvX n s0 c1:=by
 unfold qvX;rw [show qiP (qgs n) n=(fun s0 c1=>evLP qkf n (sub qrF [1,0,0,0]) (qkg n) (qnF s0 c1)) from by
  funext s0 c1;refine Eq.trans ?_ (quv (qkg n) n s0 c1).symm;rw [show (qhs (qkg n))=(qgs n) from by
   funext s0;exact qnG n s0]
  all_goals kernel_rfl]
 kernel_rfl
theorem quw:qf G Tryz.prog 156 s_z156:=by
 refine sQ (E:=qkf) (c:=qrF) rfl (fun w S hg=>qc) Tryz.func156 ?_;intro avs r h;unfold s_z156 at h;split at h
 ·obtain ⟨hp,rfl⟩:=yj h;obtain ⟨n,hn⟩:=qzR _ _ hp;exact ⟨n,_,(qFQ n _ _ _ _).trans hn,.inl rfl⟩
 ·cases h
def qkh:EnvP:=eQ [(153,s_z153)] 23 (some [4]) (fun x=>if x=1 then some [0,1] else none) (fun x=>if x=0 then some [0] else if x=1 then some [0,1] else none) nP
def qrG:Code:=cO Tryz.f157
def qFR:Array ResultVar:=Tryz.f157.results
noncomputable def qht (K:Ex→Fr→Option AV):=fun s0=>K (.exit 0) (frOf [(0,da s0)])
def qki (n:Nat):Ex→Fr→Option AV:=qm 0 (qkh.cutb 0) (kSeq (evCP qkh (evLP qkh n) (sub qrG [1,1])) (kFnP qkh qFR))
def qnH (s0:List UInt8) (as1:List Bool):Fr:=frOf [(0,da s0),(1,(.adr (.arr 256 .bool) as1))]
theorem qux (K:Ex→Fr→Option AV):∀ (n:Nat) (s0:List UInt8) (as1:List Bool),evLP qkh n (sub qrG [1,0,0,0]) K (qnH s0 as1)=qfG (qht K) n s0 as1:=by
 intro n;induction n with
 | zero=>intros; rfl
 | succ n IH =>
 intro s0 as1;have ih:(fun s0 as1=>evLP qkh n (sub qrG [1,0,0,0]) K (qnH s0 as1))=qfG (qht K) n:=by
  funext s0 as1;exact IH s0 as1
 show _=qgt (qht K) (qfG (qht K) n) n s0 as1;rw [← ih];kernel_rfl
theorem qnI (n:Nat) (s0:List UInt8):(qki n) (.exit 0) (frOf [(0,da s0)])=qgu n s0:=by
 kernel_rfl
theorem qFS (n:Nat) (s0:List UInt8) (o0:Lab) (as1:List Bool):evFnP qkh n qrG qFR [db s0 o0,.adr (.arr 256 .bool) as1]=qqm n s0 as1:=by
 unfold qqm;rw [show qfG (qgu n) n=(fun s0 as1=>evLP qkh n (sub qrG [1,0,0,0]) (qki n) (qnH s0 as1)) from by
  funext s0 as1;refine Eq.trans ?_ (qux (qki n) n s0 as1).symm;rw [show (qht (qki n))=(qgu n) from by
   funext s0;exact qnI n s0]
  all_goals kernel_rfl]
 kernel_rfl
theorem quy:qf G Tryz.prog 157 s_z157:=by
 refine sQ (E:=qkh) (c:=qrG) rfl (fun w S hg=>(qb (qhq w S hg) qc)) Tryz.func157 ?_;intro avs r h;unfold s_z157 at h;split at h
 ·obtain ⟨hp,rfl⟩:=yj h;obtain ⟨n,hn⟩:=qzS _ _ hp;exact ⟨n,_,(qFS n _ _ _).trans hn,.inl rfl⟩
 ·cases h
end
end Go.Av
