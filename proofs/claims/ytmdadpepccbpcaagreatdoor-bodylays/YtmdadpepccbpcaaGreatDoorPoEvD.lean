import Derived.Test.YtmdadpepccbpcaaGreatDoorPoEvC
import Derived.Test.YtmdadpepccbpcaaGreatDoorPoD
import Derived.Test.YtmdadpepccbpcaaGreatDoorAvE
import Derived.Test.YtmdadpepccbpcaaGreatDoorProg
import Derived.KernelRfl
namespace Go.Av
set_option linter.unusedSimpArgs false
set_option linter.unusedVariables false
section
noncomputable section
open Go.Proofs
set_option maxRecDepth 100000
set_option linter.unusedVariables false
def qbt:EnvP:=eQ [(222,s_z222)] 49 (some [2]) (fun x=>if x=4 then some [3,4,5,8,9,10] else if x=8 then some [3,4,5,8,9,10] else none) (fun x=>if x=0 then some [3,4,5] else if x=1 then some [3,4,5,8,9,10] else if x=2 then some [3,4,5,8,9,10] else if x=3 then some [3,4,5,8,9,10] else none) nP
def qea:Code:=cO Tryz.f182
def qJI:Array ResultVar:=Tryz.f182.results
def qbu (out3:LU) (held4:Int) (many5:Int) (s8:LU) (s9:Int) (s10:Int):Fr:=frOf [(3,(db out3 (some (3,5)))),(4,dc held4),(5,dc many5),(8,da s8),(9,dc s9),(10,dc s10)]
noncomputable def qhI (K:Ex→Fr→OA):=fun out3 held4 many5 s8 s9 s10=>K (.exit 2) (qbu out3 held4 many5 s8 s9 s10)
def qoi (out3:LU) (held4:Int) (many5:Int):Fr:=frOf [(3,(db out3 (some (3,5)))),(4,dc held4),(5,dc many5)]
noncomputable def qeb (K:Ex→Fr→OA):=fun out3 held4 many5=>K (.exit 0) (qoi out3 held4 many5)
def qkp (n:Nat) (K:Ex→Fr→OA):Ex→Fr→OA:=qo 2 (qbt.cutb 2) (kSeq (evCP qbt (evLP qbt n) (sub qea [1,1,1,0,1,0,0,1,1,0,0,1,1,1,1])) (qo 1 (qbt.cutb 1) (kSeq (evCP qbt (evLP qbt n) (sub qea [1,1,1,0,1,0,0,1,1,1])) (kSeq (fun K fr=>evLP qbt n (sub qea [1,1,1,0,1,0,0]) K (cutFP (qbt.cuts 4) fr)) K))))
def qkq (n:Nat):Ex→Fr→OA:=qo 0 (qbt.cutb 0) (kSeq (evCP qbt (evLP qbt n) (sub qea [1,1,1,1])) (kFnP qbt qJI))
theorem qvQ (K:Ex→Fr→OA):∀ (n:Nat) (out3:LU) (held4:Int) (many5:Int) (s8:LU) (s9:Int) (s10:Int),evLP qbt n (sub qea [1,1,1,0,1,0,0,1,1,0,0,1,1,1,0,0,0]) K (qbu out3 held4 many5 s8 s9 s10)=qcf (qhI K) n out3 held4 many5 s8 s9 s10:=by
 intro n;induction n with
 | zero=>intros; rfl
 | succ n IH =>
 intro out3 held4 many5 s8 s9 s10;have ih:(fun out3 held4 many5 s8 s9 s10=>evLP qbt n (sub qea [1,1,1,0,1,0,0,1,1,0,0,1,1,1,0,0,0]) K (qbu out3 held4 many5 s8 s9 s10))=qcf (qhI K) n:=by
  funext out3 held4 many5 s8 s9 s10;exact IH out3 held4 many5 s8 s9 s10
 show _=qqY (qhI K) (qcf (qhI K) n) n out3 held4 many5 s8 s9 s10;rw [← ih];kernel_rfl
theorem qoj (K:Ex→Fr→OA) (n:Nat) (out3:LU) (held4:Int) (many5:Int) (s8:LU) (s9:Int) (s10:Int):(qkp n K) (.exit 2) (qbu out3 held4 many5 s8 s9 s10)=qbR (fun out3 held4 many5=>K (.exit 0) (qoi out3 held4 many5)) (fun out3 held4 many5 s8 s9 s10=>evLP qbt n (sub qea [1,1,1,0,1,0,0]) K (qbu out3 held4 many5 s8 s9 s10)) n out3 held4 many5 s8 s9 s10:=by
 kernel_rfl
theorem qvR (K:Ex→Fr→OA):∀ (n:Nat) (out3:LU) (held4:Int) (many5:Int) (s8:LU) (s9:Int) (s10:Int),evLP qbt n (sub qea [1,1,1,0,1,0,0]) K (qbu out3 held4 many5 s8 s9 s10)=qig (qeb K) n out3 held4 many5 s8 s9 s10:=by
 intro n;induction n with
 | zero=>intros; rfl
 | succ n IH =>
 intro out3 held4 many5 s8 s9 s10;have ih:(fun out3 held4 many5 s8 s9 s10=>evLP qbt n (sub qea [1,1,1,0,1,0,0]) K (qbu out3 held4 many5 s8 s9 s10))=qig (qeb K) n:=by
  funext out3 held4 many5 s8 s9 s10;exact IH out3 held4 many5 s8 s9 s10
 show _=qcr (qeb K) (qig (qeb K) n) n out3 held4 many5 s8 s9 s10;rw [← ih];unfold qcr;rw [show qcf (qbR (qeb K) (fun out3 held4 many5 s8 s9 s10=>evLP qbt n (sub qea [1,1,1,0,1,0,0]) K (qbu out3 held4 many5 s8 s9 s10)) n) n=(fun out3 held4 many5 s8 s9 s10=>evLP qbt n (sub qea [1,1,1,0,1,0,0,1,1,0,0,1,1,1,0,0,0]) (qkp n K) (qbu out3 held4 many5 s8 s9 s10)) from by
  funext out3 held4 many5 s8 s9 s10;refine Eq.trans ?_ (qvQ (qkp n K) n out3 held4 many5 s8 s9 s10).symm;rw [show (qhI (qkp n K))=(qbR (qeb K) (fun out3 held4 many5 s8 s9 s10=>evLP qbt n (sub qea [1,1,1,0,1,0,0]) K (qbu out3 held4 many5 s8 s9 s10)) n) from by
   funext out3 held4 many5 s8 s9 s10;exact qoj K n out3 held4 many5 s8 s9 s10]
  all_goals kernel_rfl]
 kernel_rfl
theorem qok (n:Nat) (out3:LU) (held4:Int) (many5:Int):(qkq n) (.exit 0) (qoi out3 held4 many5)=qcs n out3 held4 many5:=by
 kernel_rfl
theorem qJJ (n:Nat) (s0:LU) (o0:Lab):evFnP qbt n qea qJI [db s0 o0]=qqZ n s0:=by
 unfold qqZ;rw [show qig (qcs n) n=(fun out3 held4 many5 s8 s9 s10=>evLP qbt n (sub qea [1,1,1,0,1,0,0]) (qkq n) (qbu out3 held4 many5 s8 s9 s10)) from by
  funext out3 held4 many5 s8 s9 s10;refine Eq.trans ?_ (qvR (qkq n) n out3 held4 many5 s8 s9 s10).symm;rw [show (qeb (qkq n))=(qcs n) from by
   funext out3 held4 many5;exact qok n out3 held4 many5]
  all_goals kernel_rfl]
 kernel_rfl
theorem qvS:qe G Tryz.prog 182 s_z182:=by
 refine sQ (E:=qbt) (c:=qea) rfl (fun w S hg=>(qa (qvP w S hg) qc)) Tryz.func182 ?_;intro avs r h;unfold s_z182 at h;split at h
 ·obtain ⟨hp,rfl⟩:=yj h;obtain ⟨n,hn⟩:=qCS _ hp;exact ⟨n,_,(qJJ n _ _).trans hn,.inl rfl⟩
 ·cases h
theorem qvT:qe G Tryz.prog 123 s_z123:=fun w S hg vals avs r h hS ha=>by
 unfold s_z123 at h;split at h
 ·rename_i s o;simp only [yb] at h;obtain ⟨hp,rfl⟩:=h;obtain ⟨u,rfl,h1⟩:=args1 ha;obtain ⟨A,cap,rfl,hcap,hA,hcA⟩:=qfz h1;have hent:(callFunc 123 #[.slice A (List.length s) cap]).run Tryz.prog w=.ok (.enter 123 #[.slice A (List.length s) cap]) w:=enters_of (c:=Tryz.f123.body.getD .skip) Tryz.func123 (by kernel_rfl) (by kernel_rfl) _ _;refine .inl ⟨hent,(Go.Proofs.lay_walk (S:=S) (qm hp) ?_).mono ?_⟩
  ·intro w' hb;have hk:Keeps w S w' S:=fun b o hs=>⟨hs,ql (hb.block b (hS b o hs)) o⟩;have hS':∀ b o,S b o→b < w'.heap.size:=fun b o hs=>yH (hS b o hs) hb.size;rcases qvS w' S (G_stays w S w' S hk hg) [.slice A (List.length s) cap] [db s none] _ (show s_z182 _=(true,_) from Prod.ext hp rfl) hS' (qfg ((h1.keeps hk).relab none) (qlA _ _)) with ⟨_,h2⟩ | ⟨v,w2,h2,_⟩
   ·refine h2.mono fun e w2 ⟨v,he,S2,g2,hr⟩=>?_;obtain ⟨A',cap',rfl,_,hA',hc'⟩:=qfz hr.rd;refine ⟨A',cap',he,g2.below,hA',fun ad ha' i x hx=>?_⟩;have hi:=(List.getElem?_eq_some_iff.1 hx).1;have hx':(z182 s)[i]? = some x:=hx;have:=hc' ad ha' i hi;rw [yY,List.getElem?_map,hx'] at this;exact this
   ·exfalso;have:(callFunc 182 #[.slice A (List.length s) cap]).run Tryz.prog w'=.ok (.enter 182 #[.slice A (List.length s) cap]) w':=enters_of (c:=Tryz.f182.body.getD .skip) Tryz.func182 (by kernel_rfl) (by kernel_rfl) _ _;rw [this] at h2;cases h2
  ·rintro e w' ⟨v,rfl,hf,hb⟩;exact ⟨v,rfl,Go.Proofs.res_fresh hS hb hf⟩
 ·cases h
def E_z64:EnvP:=eQ [(123,s_z123)] 24 (some [2]) (fun x=>if x=3 then some [3,4] else none) (fun x=>if x=0 then some [4] else if x=1 then some [3,4] else none) nP
def C_z64:Code:=cO Tryz.f64
def R_z64:Array ResultVar:=Tryz.f64.results
noncomputable def qmD (K:Ex→Fr→OA):=fun out4=>K (.exit 0) (frOf [(4,(db out4 (some (4,5))))])
def qqv (n:Nat):Ex→Fr→OA:=qo 0 (E_z64.cutb 0) (kSeq (evCP E_z64 (evLP E_z64 n) (sub C_z64 [1,1,1,1])) (kFnP E_z64 R_z64))
def qvU (code3:LU) (out4:LU):Fr:=frOf [(3,da code3),(4,(db out4 (some (4,5))))]
theorem qAx (K:Ex→Fr→OA):∀ (n:Nat) (code3:LU) (out4:LU),evLP E_z64 n (sub C_z64 [1,1,1,0,0,0]) K (qvU code3 out4)=qnd (qmD K) n code3 out4:=by
 intro n;induction n with
 | zero=>intros; rfl
 | succ n IH =>
 intro code3 out4;have ih:(fun code3 out4=>evLP E_z64 n (sub C_z64 [1,1,1,0,0,0]) K (qvU code3 out4))=qnd (qmD K) n:=by
  funext code3 out4;exact IH code3 out4
 show _=qlf (qmD K) (qnd (qmD K) n) n code3 out4;rw [← ih];kernel_rfl
theorem qsy (n:Nat) (out4:LU):(qqv n) (.exit 0) (frOf [(4,(db out4 (some (4,5))))])=qih n out4:=by
 kernel_rfl
theorem qNj (n:Nat) (s0:LU) (o0:Lab):evFnP E_z64 n C_z64 R_z64 [db s0 o0]=qBG n s0:=by
 unfold qBG;rw [show qnd (qih n) n=(fun code3 out4=>evLP E_z64 n (sub C_z64 [1,1,1,0,0,0]) (qqv n) (qvU code3 out4)) from by
  funext code3 out4;refine Eq.trans ?_ (qAx (qqv n) n code3 out4).symm;rw [show (qmD (qqv n))=(qih n) from by
   funext out4;exact qsy n out4]
  all_goals kernel_rfl]
 kernel_rfl
theorem qAy:qe G Tryz.prog 64 s_z64:=by
 refine sQ (E:=E_z64) (c:=C_z64) rfl (fun w S hg=>(qa (qvT w S hg) qc)) Tryz.func64 ?_;intro avs r h;unfold s_z64 at h;split at h
 ·obtain ⟨hp,rfl⟩:=yj h;obtain ⟨n,hn⟩:=qFu _ hp;exact ⟨n,_,(qNj n _ _).trans hn,.inl rfl⟩
 ·cases h
def E_z63:EnvP:=eQ [(64,s_z64)] 6 (some [2,3]) nC nC nP
def C_z63:Code:=cO Tryz.f63
def R_z63:Array ResultVar:=Tryz.f63.results
theorem qNk (n:Nat) (s0:LU) (o0:Lab):evFnP E_z63 n C_z63 R_z63 [db s0 o0]=qFO n s0:=by
 kernel_rfl
theorem qAz:qe G Tryz.prog 63 s_z63:=by
 refine sQ (E:=E_z63) (c:=C_z63) rfl (fun w S hg=>(qa (qAy w S hg) qc)) Tryz.func63 ?_;intro avs r h;unfold s_z63 at h;split at h
 ·obtain ⟨hp,rfl⟩:=yj h;obtain ⟨n,hn⟩:=qFz _ hp;exact ⟨n,_,(qNk n _ _).trans hn,.inl rfl⟩
 ·cases h
def E_z30:EnvP:=eQ [] 11 (some [2,3]) nC (fun x=>if x=0 then some [] else none) nP
def C_z30:Code:=cO Tryz.f30
def R_z30:Array ResultVar:=Tryz.f30.results
theorem qNl (n:Nat) (coding0:Int) (o0:Lab):evFnP E_z30 n C_z30 R_z30 [de coding0 o0]=qFP n coding0:=by
 kernel_rfl
theorem qAA:qe G Tryz.prog 30 s_z30:=by
 refine qgX G_stays (E:=E_z30) (fn:=Tryz.f30) (c:=C_z30) (qd rfl qZ) (fun w S hg=>⟨⟨qc,fun f sp h=>qx f sp h w S⟩,qy w S hg,(fun _ _ h=>by cases h),(fun _ _ h=>by cases h),(fun _ _ h=>by cases h),(fun _ _ _ h=>by cases h)⟩) follows Tryz.func30 (by kernel_rfl) (by kernel_rfl) (by kernel_rfl) ?_;intro avs r h;unfold s_z30 at h;split at h <;> cases h
 obtain ⟨n,r,hn,hp⟩:=qFA _;exact ⟨n,r,(qNl n _ _).trans hn,hp⟩
def E_z65:EnvP:=eQ [] 13 (some [2]) nC (fun x=>if x=0 then some [] else none) nP
def C_z65:Code:=cO Tryz.f65
def R_z65:Array ResultVar:=Tryz.f65.results
theorem qNm (n:Nat) (charset0:Int) (o0:Lab):evFnP E_z65 n C_z65 R_z65 [de charset0 o0]=qFQ n charset0:=by
 kernel_rfl
theorem qqw:qe G Tryz.prog 65 s_z65:=by
 refine sQ (E:=E_z65) (c:=C_z65) rfl (fun w S hg=>qc) Tryz.func65 ?_;intro avs r h;unfold s_z65 at h;split at h <;> cases h
 obtain ⟨n,hn⟩:=qGz _;exact ⟨n,_,(qNm n _ _).trans hn,.inl rfl⟩
def qJK:EnvP:=eQ [] 6 (some [2]) nC nC nP
def qJL:Code:=cO Tryz.f158
def qNn:Array ResultVar:=Tryz.f158.results
theorem qJM (n:Nat) (c0:Int) (o0:Lab):evFnP qJK n qJL qNn [di c0 o0]=qDS n c0:=by
 kernel_rfl
theorem qmE:qe G Tryz.prog 158 s_z158:=by
 refine sQ (E:=qJK) (c:=qJL) rfl (fun w S hg=>qc) Tryz.func158 ?_;intro avs r h;unfold s_z158 at h;split at h <;> cases h
 obtain ⟨n,hn⟩:=qCK _;exact ⟨n,_,(qJM n _ _).trans hn,.inl rfl⟩
def qkr:EnvP:=eQ [(176,s_z176)] 31 (some [2,3]) (fun x=>if x=2 then some [0,6,7] else none) (fun x=>if x=0 then some [0] else if x=1 then some [0,6,7] else if x=2 then some [0,6,7] else none) nP
def qsz:Code:=cO Tryz.f127
def qJN:Array ResultVar:=Tryz.f127.results
noncomputable def qks (K:Ex→Fr→OA):=fun s2 s3=>K .ret (frOf [(2,dm s2),(3,dg s3)])
noncomputable def qhJ (K:Ex→Fr→OA):=fun c0=>K (.exit 0) (frOf [(0,(di c0 none))])
def qkt (n:Nat):Ex→Fr→OA:=qo 0 (qkr.cutb 0) (kSeq (evCP qkr (evLP qkr n) (sub qsz [1,1])) (kFnP qkr qJN))
def qol (c0:Int) (s6:List (UInt8×(Int×Unit))) (s7:Int):Fr:=frOf [(0,(di c0 none)),(6,(.dat (.arr 8 (.pair .byte (.pair (.int .i32) .unit))) s6 none)),(7,dc s7)]
theorem qvV (K:Ex→Fr→OA):∀ (n:Nat) (c0:Int) (s6:List (UInt8×(Int×Unit))) (s7:Int),evLP qkr n (sub qsz [1,0,1,0,0]) K (qol c0 s6 s7)=qjl (qks K) (qhJ K) n c0 s6 s7:=by
 intro n;induction n with
 | zero=>intros; rfl
 | succ n IH =>
 intro c0 s6 s7;have ih:(fun c0 s6 s7=>evLP qkr n (sub qsz [1,0,1,0,0]) K (qol c0 s6 s7))=qjl (qks K) (qhJ K) n:=by
  funext c0 s6 s7;exact IH c0 s6 s7
 show _=qra (qks K) (qhJ K) (qjl (qks K) (qhJ K) n) n c0 s6 s7;rw [← ih];kernel_rfl
theorem qom (n:Nat) (c0:Int):(qkt n) (.exit 0) (frOf [(0,(di c0 none))])=qdq n c0:=by
 kernel_rfl
theorem qJO (n:Nat) (c0:Int) (o0:Lab):evFnP qkr n qsz qJN [di c0 o0]=qxO n c0:=by
 unfold qxO;rw [show qjl qda (qdq n) n=(fun c0 s6 s7=>evLP qkr n (sub qsz [1,0,1,0,0]) (qkt n) (qol c0 s6 s7)) from by
  funext c0 s6 s7;refine Eq.trans ?_ (qvV (qkt n) n c0 s6 s7).symm;rw [show (qhJ (qkt n))=(qdq n) from by
   funext c0;exact qom n c0]
  all_goals kernel_rfl]
 kernel_rfl
theorem qmF:qe G Tryz.prog 127 s_z127:=by
 refine sQ (E:=qkr) (c:=qsz) rfl (fun w S hg=>(qa (qvy w S hg) qc)) Tryz.func127 ?_;intro avs r h;unfold s_z127 at h;split at h <;> cases h
 obtain ⟨n,hn⟩:=qCG _;exact ⟨n,_,(qJO n _ _).trans hn,.inl rfl⟩
def qJP:EnvP:=eQ [(127,s_z127)] 11 (some [2]) nC nC nP
def qJQ:Code:=cO Tryz.f159
def qNo:Array ResultVar:=Tryz.f159.results
theorem qJR (n:Nat) (c0:Int) (o0:Lab):evFnP qJP n qJQ qNo [di c0 o0]=qDT n c0:=by
 kernel_rfl
theorem qvW:qe G Tryz.prog 159 s_z159:=by
 refine sQ (E:=qJP) (c:=qJQ) rfl (fun w S hg=>(qa (qmF w S hg) qc)) Tryz.func159 ?_;intro avs r h;unfold s_z159 at h;split at h <;> cases h
 obtain ⟨n,hn⟩:=qCH _;exact ⟨n,_,(qJR n _ _).trans hn,.inl rfl⟩
def qku:EnvP:=eQ [] 19 (some [4]) (fun x=>if x=2 then some [0,1,7,8] else none) (fun x=>if x=0 then some [] else if x=1 then some [0,1,7,8] else none) nP
def qsA:Code:=cO Tryz.f186
def qJS:Array ResultVar:=Tryz.f186.results
noncomputable def qkv (K:Ex→Fr→OA):=fun s4=>K .ret (frOf [(4,dc s4)])
def qkw (n:Nat):Ex→Fr→OA:=qo 0 (qku.cutb 0) (kSeq (evCP qku (evLP qku n) (sub qsA [1,1])) (kFnP qku qJS))
def qon (s0:LI) (v1:Int) (s7:Int) (s8:Int):Fr:=frOf [(0,(.dat (.sl (.int .i32)) s0 none)),(1,(di v1 none)),(7,dc s7),(8,dc s8)]
theorem qvX (K:Ex→Fr→OA):∀ (n:Nat) (s0:LI) (v1:Int) (s7:Int) (s8:Int),evLP qku n (sub qsA [1,0,1,0,0]) K (qon s0 v1 s7 s8)=qij (qkv K) (K (.exit 0) (frOf [])) n s0 v1 s7 s8:=by
 intro n;induction n with
 | zero=>intros; rfl
 | succ n IH =>
 intro s0 v1 s7 s8;have ih:(fun s0 v1 s7 s8=>evLP qku n (sub qsA [1,0,1,0,0]) K (qon s0 v1 s7 s8))=qij (qkv K) (K (.exit 0) (frOf [])) n:=by
  funext s0 v1 s7 s8;exact IH s0 v1 s7 s8
 show _=qdr (qkv K) (K (.exit 0) (frOf [])) (qij (qkv K) (K (.exit 0) (frOf [])) n) n s0 v1 s7 s8;rw [← ih];kernel_rfl
theorem qoo (n:Nat)  : (qkw n) (.exit 0) (frOf [])=qeK n  := by
 kernel_rfl
theorem qJT (n:Nat) (s0:LI) (o0:Lab) (v1:Int) (o1:Lab):evFnP qku n qsA qJS [.dat (.sl (.int .i32)) s0 o0,di v1 o1]=qrb n s0 v1:=by
 unfold qrb;rw [show qij qii (qeK n) n=(fun s0 v1 s7 s8=>evLP qku n (sub qsA [1,0,1,0,0]) (qkw n) (qon s0 v1 s7 s8)) from by
  funext s0 v1 s7 s8;refine Eq.trans ?_ (qvX (qkw n) n s0 v1 s7 s8).symm;rw [show ((qkw n) (.exit 0) (frOf []))=(qeK n) from by
   exact qoo n ]
  all_goals kernel_rfl]
 kernel_rfl
theorem qvY:qe G Tryz.prog 186 s_z186:=by
 refine sQ (E:=qku) (c:=qsA) rfl (fun w S hg=>qc) Tryz.func186 ?_;intro avs r h;unfold s_z186 at h;split at h
 ·obtain ⟨hp,rfl⟩:=yj h;obtain ⟨n,hn⟩:=qCy _ _ hp;exact ⟨n,_,(qJT n _ _ _ _).trans hn,.inl rfl⟩
 ·cases h
def qJU:EnvP:=eQ [(177,s_z177),(186,s_z186)] 31 (some [2,3]) nC (fun x=>if x=0 then some [0] else none) nP
def qJV:Code:=cO Tryz.f129
def qNp:Array ResultVar:=Tryz.f129.results
theorem qJW (n:Nat) (c0:Int) (o0:Lab):evFnP qJU n qJV qNp [di c0 o0]=qxQ n c0:=by
 kernel_rfl
theorem qmG:qe G Tryz.prog 129 s_z129:=by
 refine sQ (E:=qJU) (c:=qJV) rfl (fun w S hg=>(qa (qvz w S hg) (qa (qvY w S hg) qc))) Tryz.func129 ?_;intro avs r h;unfold s_z129 at h;split at h <;> cases h
 obtain ⟨n,hn⟩:=qCI _;exact ⟨n,_,(qJW n _ _).trans hn,.inl rfl⟩
def qJX:EnvP:=eQ [(129,s_z129)] 11 (some [2]) nC nC nP
def qJY:Code:=cO Tryz.f160
def qNq:Array ResultVar:=Tryz.f160.results
theorem qJZ (n:Nat) (c0:Int) (o0:Lab):evFnP qJX n qJY qNq [di c0 o0]=qDU n c0:=by
 kernel_rfl
theorem qmH:qe G Tryz.prog 160 s_z160:=by
 refine sQ (E:=qJX) (c:=qJY) rfl (fun w S hg=>(qa (qmG w S hg) qc)) Tryz.func160 ?_;intro avs r h;unfold s_z160 at h;split at h <;> cases h
 obtain ⟨n,hn⟩:=qCJ _;exact ⟨n,_,(qJZ n _ _).trans hn,.inl rfl⟩
def qKa:EnvP:=eQ [] 9 (some [2]) nC nC nP
def qKb:Code:=cO Tryz.f211
def qNr:Array ResultVar:=Tryz.f211.results
theorem qKc (n:Nat) (c0:Int) (o0:Lab):evFnP qKa n qKb qNr [di c0 o0]=qxS n c0:=by
 kernel_rfl
theorem qvZ:qe G Tryz.prog 211 s_z211:=by
 refine sQ (E:=qKa) (c:=qKb) rfl (fun w S hg=>qc) Tryz.func211 ?_;intro avs r h;unfold s_z211 at h;split at h <;> cases h
 obtain ⟨n,hn⟩:=qCv _;exact ⟨n,_,(qKc n _ _).trans hn,.inl rfl⟩
def qKd:EnvP:=eQ [(211,s_z211)] 11 (some [2]) nC nC nP
def qKe:Code:=cO Tryz.f161
def qNs:Array ResultVar:=Tryz.f161.results
theorem qKf (n:Nat) (c0:Int) (o0:Lab):evFnP qKd n qKe qNs [di c0 o0]=qxT n c0:=by
 kernel_rfl
theorem qhK:qe G Tryz.prog 161 s_z161:=by
 refine sQ (E:=qKd) (c:=qKe) rfl (fun w S hg=>(qa (qvZ w S hg) qc)) Tryz.func161 ?_;intro avs r h;unfold s_z161 at h;split at h <;> cases h
 obtain ⟨n,hn⟩:=qCw _;exact ⟨n,_,(qKf n _ _).trans hn,.inl rfl⟩
def qKg:EnvP:=eQ [(158,s_z158),(159,s_z159),(160,s_z160),(161,s_z161)] 30 (some [4]) nC (fun x=>if x=0 then some [] else none) nP
def qKh:Code:=cO Tryz.f105
def qNt:Array ResultVar:=Tryz.f105.results
theorem qKi (n:Nat) (charset0:Int) (o0:Lab) (c1:Int) (o1:Lab):evFnP qKg n qKh qNt [de charset0 o0,di c1 o1]=qxU n charset0 c1:=by
 kernel_rfl
theorem qmI:qe G Tryz.prog 105 s_z105:=by
 refine sQ (E:=qKg) (c:=qKh) rfl (fun w S hg=>(qa (qmE w S hg) (qa (qvW w S hg) (qa (qmH w S hg) (qa (qhK w S hg) qc))))) Tryz.func105 ?_;intro avs r h;unfold s_z105 at h;split at h <;> cases h
 obtain ⟨n,hn⟩:=qCL _ _;exact ⟨n,_,(qKi n _ _ _ _).trans hn,.inl rfl⟩
end
end
end Go.Av
