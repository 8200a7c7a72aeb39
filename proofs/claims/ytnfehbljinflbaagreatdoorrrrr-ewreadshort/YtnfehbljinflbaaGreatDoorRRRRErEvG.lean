import Derived.Test.YtnfehbljinflbaaGreatDoorRRRRErEvF
import Derived.Test.YtnfehbljinflbaaGreatDoorRRRREtN
import Derived.Test.YtnfehbljinflbaaGreatDoorRRRRProg
import Derived.KernelRfl
namespace Go.Av
set_option linter.unusedSimpArgs false
noncomputable section
open Go.Proofs
set_option maxRecDepth 100000
set_option linter.unusedVariables false
def qHo:EnvP:=eQ [] 10 (some [2]) nC (fun x=>if x=0 then some [] else none) nP
def qHp:Code:=cO Tryz.f133
def qJU:Array ResultVar:=Tryz.f133.results
theorem qHq (n:Nat) (n0:Int) (o0:Lab):evFnP qHo n qHp qJU [de n0 o0]=qwE n n0:=by
 kernel_rfl
theorem quZ:qg G Tryz.prog 133 s_z133:=by
 refine sQ (E:=qHo) (c:=qHp) rfl (fun w S hg=>qc) Tryz.func133 ?_;intro avs r h;unfold s_z133 at h;split at h <;> cases h
 obtain ⟨n,hn⟩:=qAq _;exact ⟨n,_,(qHq n _ _).trans hn,.inl rfl⟩
def qks:EnvP:=eQ [(131,s_z131),(132,s_z132),(133,s_z133)] 63 (some [2,3,4]) (fun x=>if x=12 then some [5,6,48,49,50] else none) (fun x=>if x=0 then some [0,5] else if x=1 then some [5,6] else if x=2 then some [5,6,48,49,50] else none) nP
def qrV:Code:=cO Tryz.f102
def qHr:Array ResultVar:=Tryz.f102.results
noncomputable def qhu (K:Ex→Fr→Option AV):=fun n5 c6=>K (.exit 1) (frOf [(5,dc n5),(6,(di c6 none))])
def qkt (n:Nat):Ex→Fr→Option AV:=qo 1 (qks.cutb 1) (kSeq (evCP qks (evLP qks n) (sub qrV [1,1,1,1,1,1])) (kFnP qks qHr))
def qnR (n5:Int) (c6:Int) (s48:List UInt8) (s49:Int) (s50:Int):Fr:=frOf [(5,dc n5),(6,(di c6 none)),(48,da s48),(49,dc s49),(50,dc s50)]
theorem qrW (K:Ex→Fr→Option AV):∀ (n:Nat) (n5:Int) (c6:Int) (s48:List UInt8) (s49:Int) (s50:Int),evLP qks n (sub qrV [1,1,1,1,1,0,1,0,0]) K (qnR n5 c6 s48 s49 s50)=qcZ (qhu K) n n5 c6 s48 s49 s50:=by
 intro n;induction n with
 | zero=>intros; rfl
 | succ n IH =>
 intro n5 c6 s48 s49 s50;have ih:(fun n5 c6 s48 s49 s50=>evLP qks n (sub qrV [1,1,1,1,1,0,1,0,0]) K (qnR n5 c6 s48 s49 s50))=qcZ (qhu K) n:=by
  funext n5 c6 s48 s49 s50;exact IH n5 c6 s48 s49 s50
 show _=qcc (qhu K) (qcZ (qhu K) n) n n5 c6 s48 s49 s50;rw [← ih];kernel_rfl
theorem qmm (n:Nat) (n5:Int) (c6:Int):(qkt n) (.exit 1) (frOf [(5,dc n5),(6,(di c6 none))])=qcd n n5 c6:=by
 kernel_rfl
theorem qHs (n:Nat) (s0:List UInt8) (o0:Lab):evFnP qks n qrV qHr [db s0 o0]=qqt n s0:=by
 unfold qqt qeM qeL qda qce qbu;rw [show qcZ (qcd n) n=(fun n5 c6 s48 s49 s50=>evLP qks n (sub qrV [1,1,1,1,1,0,1,0,0]) (qkt n) (qnR n5 c6 s48 s49 s50)) from by
  funext n5 c6 s48 s49 s50;refine Eq.trans ?_ (qrW (qkt n) n n5 c6 s48 s49 s50).symm;rw [show (qhu (qkt n))=(qcd n) from by
   funext n5 c6;exact qmm n n5 c6]
  all_goals kernel_rfl]
 kernel_rfl
theorem qva:qg G Tryz.prog 102 s_z102:=by
 refine sQ (E:=qks) (c:=qrV) rfl (fun w S hg=>(qb (quY w S hg) (qb (qmk w S hg) (qb (quZ w S hg) qc)))) Tryz.func102 ?_;intro avs r h;unfold s_z102 at h;split at h
 ·obtain ⟨hp,rfl⟩:=yj h;obtain ⟨n,hn⟩:=qAR _ hp;exact ⟨n,_,(qHs n _ _).trans hn,.inl rfl⟩
 ·cases h
def E_z61:EnvP:=⟨⟨tiOf tis,fnsOf [(102,s_z102)],cnsOf [],[],23,(fun x=>if x=0 then some [0,1,24] else none),(fun x=>if x=0 then some [24] else if x=1 then some [0,1,24] else none),some [24]⟩,fun _=>none,fun _=>none,fun _=>[],(fun x=>if x=62 then some s_z62 else none),fun _=>none,fun _=>none,fun _=>none⟩
def C_z61:Code:=cO Tryz.f61
def R_z61:Array ResultVar:=Tryz.f61.results
noncomputable def qmn (K:Ex→Fr→Option AV):=fun s24=>K (.exit 0) (frOf [(24,(.pbox (.osl 21 (.int .i32)) s24 none))])
def qpX (s0:List UInt8) (f1:List Int):Ex→Fr→Option AV:=qo 0 (E_z61.cutb 0) (kFnM E_z61 R_z61 [db s0 none,.fn 62 [.pbox (.osl 21 (.int .i32)) f1 none]])
def qvb (s0:List UInt8) (s24:List Int):Fr:=frOf [(0,da s0),(1,(.padr 24 [.clo 62 false])),(24,(.pbox (.osl 21 (.int .i32)) s24 none))]
theorem qnS (K:Ex→Fr→Option AV):∀ (n:Nat) (s0:List UInt8) (s24:List Int),evLP E_z61 n (sub C_z61 [0,0]) K (qvb s0 s24)=qbH (qmn K) n s0 s24:=by
 intro n;induction n with
 | zero=>intros; rfl
 | succ n IH =>
 intro s0 s24;have ih:(fun s0 s24=>evLP E_z61 n (sub C_z61 [0,0]) K (qvb s0 s24))=qbH (qmn K) n:=by
  funext s0 s24;exact IH s0 s24
 show _=qdw (qmn K) (qbH (qmn K) n) n s0 s24;rw [← ih];kernel_rfl
theorem qku (s0:List UInt8) (f1:List Int) (n:Nat) (s24:List Int):(qpX s0 f1) (.exit 0) (frOf [(24,(.pbox (.osl 21 (.int .i32)) s24 none))])=qbg n s24:=by
 kernel_rfl
theorem qzr (n:Nat) (s0:List UInt8) (o0:Lab) (f1:List Int):evFnM E_z61 n C_z61 R_z61 [db s0 o0,.fn 62 [.pbox (.osl 21 (.int .i32)) f1 none]]=qkY n s0 f1:=by
 unfold qkY;rw [show qbH (qbg n) n=(fun s0 s24=>evLP E_z61 n (sub C_z61 [0,0]) (qpX s0 f1) (qvb s0 s24)) from by
  funext s0 s24;refine Eq.trans ?_ (qnS (qpX s0 f1) n s0 s24).symm;rw [show (qmn (qpX s0 f1))=(qbg n) from by
   funext s24;exact qku s0 f1 n s24]
  all_goals kernel_rfl]
 kernel_rfl
theorem qzs:qfO G Tryz.prog 61 s_z61:=by
 refine qP G_stays (E:=E_z61) (fn:=Tryz.f61) (c:=C_z61) (qf rfl qaS) (fun w S hg=>⟨⟨(qb (qva w S hg) qc),fun f sp h=>qZ f sp h w S⟩,qae w S hg,(fun f sp h=>(qaQ (qzq w S hg) qeb) f sp h),(fun _ _ h=>by cases h),(fun _ _ h=>by cases h),(fun t kt vt h=>qaa t kt vt h)⟩) follows Tryz.func61 (by kernel_rfl) (by kernel_rfl) (by kernel_rfl) ?_;intro avs r h;unfold s_z61 at h;split at h
 ·obtain ⟨hp,rfl⟩:=yj h;obtain ⟨n,hn⟩:=qsv _ _ hp;exact ⟨n,(qzr n _ _ _).trans hn⟩
 ·cases h
def E_z38:EnvP:=⟨⟨tiOf tis,fnsOf [],cnsOf [],[],8,(fun _=>none),(fun _=>none),some [2]⟩,(fun x=>if x=3 then some (.osl 21 (.int .i32)) else none),fun _=>none,fun _=>[],(fun x=>if x=61 then some s_z61 else none),fun _=>none,fun _=>none,fun _=>none⟩
def C_z38:Code:=cO Tryz.f38
def R_z38:Array ResultVar:=Tryz.f38.results
theorem qJV (n:Nat) (s0:List UInt8) (o0:Lab):evFnP E_z38 n C_z38 R_z38 [db s0 o0]=qDP n s0:=by
 kernel_rfl
theorem qpY:qg G Tryz.prog 38 s_z38:=by
 refine qB G_stays (E:=E_z38) (fn:=Tryz.f38) (c:=C_z38) (qf rfl qaS) (fun w S hg=>⟨⟨qc,fun f sp h=>qZ f sp h w S⟩,qae w S hg,(fun f sp h=>(qaQ (qzs w S hg) qeb) f sp h),(fun f sp h=>qat f sp h),(fun f it h=>qau f it h),(fun t kt vt h=>qaa t kt vt h)⟩) follows Tryz.func38 (by kernel_rfl) (by kernel_rfl) (by kernel_rfl) ?_;intro avs r h;unfold s_z38 at h;split at h
 ·obtain ⟨hp,rfl⟩:=yj h;obtain ⟨n,hn⟩:=qEG _ hp;exact ⟨n,_,(qJV n _ _).trans hn,.inl rfl⟩
 ·cases h
def qkv:EnvP:=eQ [] 23 (some [2]) (fun x=>if x=3 then some [3,9,10,11] else none) (fun x=>if x=0 then some [3] else if x=1 then some [3,9,10,11] else none) (fun x=>if x=8 then some (.psl 21 (.leaf (.int .i32))) else none)
def qrX:Code:=cO Tryz.f106
def qHt:Array ResultVar:=Tryz.f106.results
noncomputable def qhv (K:Ex→Fr→Option AV):=fun t3=>K (.exit 0) (frOf [(3,(.pv (.psl 21 (.leaf (.int .i32))) t3 none))])
def qkw (n:Nat):Ex→Fr→Option AV:=qo 0 (qkv.cutb 0) (kSeq (evCP qkv (evLP qkv n) (sub qrX [1,1,1])) (kFnP qkv qHt))
def qnT (t3:List Int) (s9:List UInt8) (s10:Int) (s11:Int):Fr:=frOf [(3,(.pv (.psl 21 (.leaf (.int .i32))) t3 none)),(9,da s9),(10,dc s10),(11,dc s11)]
theorem qvc (K:Ex→Fr→Option AV):∀ (n:Nat) (t3:List Int) (s9:List UInt8) (s10:Int) (s11:Int),evLP qkv n (sub qrX [1,1,0,1,0,0]) K (qnT t3 s9 s10 s11)=qhQ (qhv K) n t3 s9 s10 s11:=by
 intro n;induction n with
 | zero=>intros; rfl
 | succ n IH =>
 intro t3 s9 s10 s11;have ih:(fun t3 s9 s10 s11=>evLP qkv n (sub qrX [1,1,0,1,0,0]) K (qnT t3 s9 s10 s11))=qhQ (qhv K) n:=by
  funext t3 s9 s10 s11;exact IH t3 s9 s10 s11
 show _=qdx (qhv K) (qhQ (qhv K) n) n t3 s9 s10 s11;rw [← ih];kernel_rfl
theorem qnU (n:Nat) (t3:List Int):(qkw n) (.exit 0) (frOf [(3,(.pv (.psl 21 (.leaf (.int .i32))) t3 none))])=qeN n t3:=by
 kernel_rfl
theorem qHu (n:Nat) (s0:List UInt8) (o0:Lab):evFnP qkv n qrX qHt [db s0 o0]=qqu n s0:=by
 unfold qqu;rw [show qhQ (qeN n) n=(fun t3 s9 s10 s11=>evLP qkv n (sub qrX [1,1,0,1,0,0]) (qkw n) (qnT t3 s9 s10 s11)) from by
  funext t3 s9 s10 s11;refine Eq.trans ?_ (qvc (qkw n) n t3 s9 s10 s11).symm;rw [show (qhv (qkw n))=(qeN n) from by
   funext t3;exact qnU n t3]
  all_goals kernel_rfl]
 kernel_rfl
theorem qmo:qg G Tryz.prog 106 s_z106:=by
 refine sQ (E:=qkv) (c:=qrX) rfl (fun w S hg=>qc) Tryz.func106 ?_;intro avs r h;unfold s_z106 at h;split at h
 ·obtain ⟨hp,rfl⟩:=yj h;obtain ⟨n,hn⟩:=qAu _ hp;exact ⟨n,_,(qHu n _ _).trans hn,.inl rfl⟩
 ·cases h
def qHv:EnvP:=eQ [] 6 (some [2]) nC nC nP
def qHw:Code:=cO Tryz.f134
def qJW:Array ResultVar:=Tryz.f134.results
theorem qHx (n:Nat) (c0:Int) (o0:Lab):evFnP qHv n qHw qJW [di c0 o0]=qwF n c0:=by
 kernel_rfl
theorem qvd:qg G Tryz.prog 134 s_z134:=by
 refine sQ (E:=qHv) (c:=qHw) rfl (fun w S hg=>qc) Tryz.func134 ?_;intro avs r h;unfold s_z134 at h;split at h <;> cases h
 obtain ⟨n,hn⟩:=qAv _;exact ⟨n,_,(qHx n _ _).trans hn,.inl rfl⟩
def qkx:EnvP:=eQ [(106,s_z106),(134,s_z134)] 24 (some [2]) (fun x=>if x=4 then some [3,4,9,10,11] else none) (fun x=>if x=0 then some [3] else if x=1 then some [3,4,9,10,11] else none) (fun x=>if x=8 then some (.psl 21 (.leaf (.int .i32))) else none)
def qrY:Code:=cO Tryz.f103
def qHy:Array ResultVar:=Tryz.f103.results
noncomputable def qve (K:Ex→Fr→Option AV):=fun t3=>K (.exit 0) (frOf [(3,(.pv (.psl 21 (.leaf (.int .i32))) t3 none))])
def qky (n:Nat):Ex→Fr→Option AV:=qo 0 (qkx.cutb 0) (kSeq (evCP qkx (evLP qkx n) (sub qrY [1,1,1,1])) (kFnP qkx qHy))
def qnV (t3:List Int) (s10:Int) (s11:Int):Fr:=frOf [(3,(.pv (.psl 21 (.leaf (.int .i32))) t3 none)),(4,(.fn 134 [])),(9,(.pval 3 [])),(10,dc s10),(11,dc s11)]
theorem qvf (K:Ex→Fr→Option AV):∀ (n:Nat) (t3:List Int) (s10:Int) (s11:Int),evLP qkx n (sub qrY [1,1,1,0,1,0,0]) K (qnV t3 s10 s11)=qhR (qve K) n t3 s10 s11:=by
 intro n;induction n with
 | zero=>intros; rfl
 | succ n IH =>
 intro t3 s10 s11;have ih:(fun t3 s10 s11=>evLP qkx n (sub qrY [1,1,1,0,1,0,0]) K (qnV t3 s10 s11))=qhR (qve K) n:=by
  funext t3 s10 s11;exact IH t3 s10 s11
 show _=qdy (qve K) (qhR (qve K) n) n t3 s10 s11;rw [← ih];kernel_rfl
theorem qnW (n:Nat) (t3:List Int):(qky n) (.exit 0) (frOf [(3,(.pv (.psl 21 (.leaf (.int .i32))) t3 none))])=qeO n t3:=by
 kernel_rfl
theorem qHz (n:Nat) (s0:List UInt8) (o0:Lab):evFnP qkx n qrY qHy [db s0 o0]=qqv n s0:=by
 unfold qqv;rw [show qhR (qeO n) n=(fun t3 s10 s11=>evLP qkx n (sub qrY [1,1,1,0,1,0,0]) (qky n) (qnV t3 s10 s11)) from by
  funext t3 s10 s11;refine Eq.trans ?_ (qvf (qky n) n t3 s10 s11).symm;rw [show (qve (qky n))=(qeO n) from by
   funext t3;exact qnW n t3]
  all_goals kernel_rfl]
 kernel_rfl
theorem qvg:qg G Tryz.prog 103 s_z103:=by
 refine sQ (E:=qkx) (c:=qrY) rfl (fun w S hg=>(qb (qmo w S hg) (qb (qvd w S hg) qc))) Tryz.func103 ?_;intro avs r h;unfold s_z103 at h;split at h
 ·obtain ⟨hp,rfl⟩:=yj h;obtain ⟨n,hn⟩:=qAw _ hp;exact ⟨n,_,(qHz n _ _).trans hn,.inl rfl⟩
 ·cases h
def qHA:EnvP:=eQ [] 10 (some [0]) nC nC nP
def qHB:Code:=cO Tryz.f161
def qJX:Array ResultVar:=Tryz.f161.results
theorem qHC (n:Nat)  : evFnP qHA n qHB qJX []=qBK n  := by
 kernel_rfl
theorem qvh:qg G Tryz.prog 161 s_z161:=by
 refine sQ (E:=qHA) (c:=qHB) rfl (fun w S hg=>qc) Tryz.func161 ?_;intro avs r h;unfold s_z161 at h;split at h <;> cases h
 obtain ⟨n,hn⟩:=qAr;exact ⟨n,_,(qHC n ).trans hn,.inl rfl⟩
def qkz:EnvP:=eQ [(161,s_z161)] 18 (some [2]) (fun x=>if x=2 then some [0,5,6] else none) (fun x=>if x=0 then some [0] else if x=1 then some [0,5,6] else none) nP
def qrZ:Code:=cO Tryz.f135
def qHD:Array ResultVar:=Tryz.f135.results
noncomputable def qkA (K:Ex→Fr→Option AV):=fun s2=>K .ret (frOf [(2,(di s2 none))])
noncomputable def qhw (K:Ex→Fr→Option AV):=fun x0=>K (.exit 0) (frOf [(0,(dm x0 none))])
def qkB (n:Nat):Ex→Fr→Option AV:=qo 0 (qkz.cutb 0) (kSeq (evCP qkz (evLP qkz n) (sub qrZ [1,1])) (kFnP qkz qHD))
def qnX (x0:UInt8) (s5:List (UInt8×(Int×Unit))) (s6:Int):Fr:=frOf [(0,(dm x0 none)),(5,(.dat (.arr 8 (.pair .byte (.pair (.int .i32) .unit))) s5 none)),(6,dc s6)]
theorem qvi (K:Ex→Fr→Option AV):∀ (n:Nat) (x0:UInt8) (s5:List (UInt8×(Int×Unit))) (s6:Int),evLP qkz n (sub qrZ [1,0,1,0,0]) K (qnX x0 s5 s6)=qiR (qkA K) (qhw K) n x0 s5 s6:=by
 intro n;induction n with
 | zero=>intros; rfl
 | succ n IH =>
 intro x0 s5 s6;have ih:(fun x0 s5 s6=>evLP qkz n (sub qrZ [1,0,1,0,0]) K (qnX x0 s5 s6))=qiR (qkA K) (qhw K) n:=by
  funext x0 s5 s6;exact IH x0 s5 s6
 show _=qqw (qkA K) (qhw K) (qiR (qkA K) (qhw K) n) n x0 s5 s6;rw [← ih];kernel_rfl
theorem qnY (n:Nat) (x0:UInt8):(qkB n) (.exit 0) (frOf [(0,(dm x0 none))])=qgu n x0:=by
 kernel_rfl
theorem qHE (n:Nat) (x0:UInt8) (o0:Lab):evFnP qkz n qrZ qHD [dm x0 o0]=qqx n x0:=by
 unfold qqx;rw [show qiR qaI (qgu n) n=(fun x0 s5 s6=>evLP qkz n (sub qrZ [1,0,1,0,0]) (qkB n) (qnX x0 s5 s6)) from by
  funext x0 s5 s6;refine Eq.trans ?_ (qvi (qkB n) n x0 s5 s6).symm;rw [show (qhw (qkB n))=(qgu n) from by
   funext x0;exact qnY n x0]
  all_goals kernel_rfl]
 kernel_rfl
theorem qvj:qg G Tryz.prog 135 s_z135:=by
 refine sQ (E:=qkz) (c:=qrZ) rfl (fun w S hg=>(qb (qvh w S hg) qc)) Tryz.func135 ?_;intro avs r h;unfold s_z135 at h;split at h <;> cases h
 obtain ⟨n,hn⟩:=qAx _;exact ⟨n,_,(qHE n _ _).trans hn,.inl rfl⟩
def qkC:EnvP:=eQ [(135,s_z135)] 19 (some [2]) (fun x=>if x=3 then some [3,6,7,8] else none) (fun x=>if x=0 then some [3] else if x=1 then some [3,6,7,8] else none) nP
def qsa:Code:=cO Tryz.f104
def qHF:Array ResultVar:=Tryz.f104.results
noncomputable def qhx (K:Ex→Fr→Option AV):=fun t3=>K (.exit 0) (frOf [(3,(.dat (.sl (.int .i32)) t3 (some (3,21))))])
def qkD (n:Nat):Ex→Fr→Option AV:=qo 0 (qkC.cutb 0) (kSeq (evCP qkC (evLP qkC n) (sub qsa [1,1,1])) (kFnP qkC qHF))
def qnZ (t3:List Int) (s6:List UInt8) (s7:Int) (s8:Int):Fr:=frOf [(3,(.dat (.sl (.int .i32)) t3 (some (3,21)))),(6,da s6),(7,dc s7),(8,dc s8)]
theorem qvk (K:Ex→Fr→Option AV):∀ (n:Nat) (t3:List Int) (s6:List UInt8) (s7:Int) (s8:Int),evLP qkC n (sub qsa [1,1,0,1,0,0]) K (qnZ t3 s6 s7 s8)=qhS (qhx K) n t3 s6 s7 s8:=by
 intro n;induction n with
 | zero=>intros; rfl
 | succ n IH =>
 intro t3 s6 s7 s8;have ih:(fun t3 s6 s7 s8=>evLP qkC n (sub qsa [1,1,0,1,0,0]) K (qnZ t3 s6 s7 s8))=qhS (qhx K) n:=by
  funext t3 s6 s7 s8;exact IH t3 s6 s7 s8
 show _=qdz (qhx K) (qhS (qhx K) n) n t3 s6 s7 s8;rw [← ih];kernel_rfl
theorem qoa (n:Nat) (t3:List Int):(qkD n) (.exit 0) (frOf [(3,(.dat (.sl (.int .i32)) t3 (some (3,21))))])=qdA n t3:=by
 kernel_rfl
theorem qHG (n:Nat) (s0:List UInt8) (o0:Lab):evFnP qkC n qsa qHF [db s0 o0]=qqy n s0:=by
 unfold qqy;rw [show qhS (qdA n) n=(fun t3 s6 s7 s8=>evLP qkC n (sub qsa [1,1,0,1,0,0]) (qkD n) (qnZ t3 s6 s7 s8)) from by
  funext t3 s6 s7 s8;refine Eq.trans ?_ (qvk (qkD n) n t3 s6 s7 s8).symm;rw [show (qhx (qkD n))=(qdA n) from by
   funext t3;exact qoa n t3]
  all_goals kernel_rfl]
 kernel_rfl
theorem qvl:qg G Tryz.prog 104 s_z104:=by
 refine sQ (E:=qkC) (c:=qsa) rfl (fun w S hg=>(qb (qvj w S hg) qc)) Tryz.func104 ?_;intro avs r h;unfold s_z104 at h;split at h
 ·obtain ⟨hp,rfl⟩:=yj h;obtain ⟨n,hn⟩:=qAy _ hp;exact ⟨n,_,(qHG n _ _).trans hn,.inl rfl⟩
 ·cases h
end
end Go.Av
