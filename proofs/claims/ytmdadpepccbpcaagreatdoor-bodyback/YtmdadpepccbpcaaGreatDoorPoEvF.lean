import Derived.Test.YtmdadpepccbpcaaGreatDoorPoEvE
import Derived.Test.YtmdadpepccbpcaaGreatDoorPoD
import Derived.Test.YtmdadpepccbpcaaGreatDoorAvE
import Derived.Test.YtmdadpepccbpcaaGreatDoorProg
import Derived.KernelRfl
namespace Go.Av
set_option linter.unusedSimpArgs false
set_option linter.unusedVariables false
section
open List (length)
noncomputable section
open Go.Proofs Go.Proofs.Tryz
set_option maxRecDepth 100000
set_option linter.unusedVariables false
theorem qvI:gG 123 s_z123:=fun w S hg vals avs r h hS ha=>by
 unfold s_z123 at h;split at h
 ·rename_i s o;simp only[yb] at h;obtain⟨hp,rfl⟩:=h;obtain⟨u,rfl,h1⟩:=args1 ha;obtain⟨A,cap,rfl,hcap,hA,hcA⟩:=qfr h1;have hent:(callFunc 123 #[.slice A (length s) cap]).run prog w=.ok (.enter 123 #[.slice A (length s) cap]) w:=enters_of (c:=f123.body.getD .skip) func123 (by kernel_rfl) (by kernel_rfl) _ _;refine .inl ⟨hent,(Go.Proofs.lay_walk (S:=S) (qd hp) ?_).mono ?_⟩
  ·intro w' hb;have hk:Keeps w S w' S:=fun b o hs=>⟨hs,qh (hb.block b (hS b o hs)) o⟩;have hS':∀ b o,S b o→b < w'.heap.size:=fun b o hs=>yH (hS b o hs) hb.size;rcases qvH w' S (G_stays w S w' S hk hg) [.slice A (length s) cap] [db s none] _ (show s_z182 _=(true,_) from Prod.ext hp rfl) hS' (qdi ((h1.keeps hk).relab none) (qkE _ _)) with ⟨_,h2⟩ | ⟨v,w2,h2,_⟩
   ·refine h2.mono fun e w2 ⟨v,he,S2,g2,hr⟩=>?_;obtain⟨A',cap',rfl,_,hA',hc'⟩:=qfr hr.rd;refine⟨A',cap',he,g2.below,hA',fun ad ha' i x hx=>?_⟩;have hi:=(List.getElem?_eq_some_iff.1 hx).1;have hx':(z182 s)[i]? = some x:=hx;have:=hc' ad ha' i hi;rw[yZ,List.getElem?_map,hx'] at this;exact this
   ·exfalso;have:(callFunc 182 #[.slice A (length s) cap]).run prog w'=.ok (.enter 182 #[.slice A (length s) cap]) w':=enters_of (c:=f182.body.getD .skip) func182 (by kernel_rfl) (by kernel_rfl) _ _;rw[this] at h2;cases h2
  ·rintro e w' ⟨v,rfl,hf,hb⟩;exact⟨v,rfl,Go.Proofs.res_fresh hS hb hf⟩
 ·cases h
def E_z64:EnvP:=eQ [(123,s_z123)] 24 (some [2]) (fun x=>if x=3 then some [3,4] else none) (fun x=>if x=0 then some [4] else if x=1 then some [3,4] else none) nP
def C_z64:Code:=cO f64
def R_z64:Array ResultVar:=f64.results
noncomputable def qvJ (K:KT):=fun out4=>K (.exit 0) (frOf [(4,(db out4 (some (4,5))))])
def qKZ (n:Nat):KT:=qk 0 (E_z64.cutb 0) (kSeq (evCP E_z64 (evLP E_z64 n) (sub C_z64 [1,1,1,1])) (kFnP E_z64 R_z64))
def qLa (code3:LU) (out4:LU):Fr:=frOf [(3,da code3),(4,(db out4 (some (4,5))))]
theorem qAG (K:KT) (n:Nat):(fun code3 out4=>evLP E_z64 n (sub C_z64 [1,1,1,0,0,0]) K (qLa code3 out4))=qoB (qvJ K) n:=by
 induction n
 kernel_rfl;rename_i n ih;show _=qke (qvJ K) (qoB (qvJ K) n) n;rw[← ih];kernel_rfl
theorem qNz (n:Nat) (s0:LU) (o0:Lab):evFnP E_z64 n C_z64 R_z64 [db s0 o0]=qBU n s0:=by
 unfold qBU;rw[(Eq.trans (by kernel_rfl) (qAG (qKZ n) n).symm:qoB (qoC n) n=_)];kernel_rfl
theorem qAH:gG 64 s_z64:=sQ (E:=E_z64) (c:=C_z64) rfl (fC qvI fN) func64 fun avs r h=>by
 unfold s_z64 at h;split at h
 ·obtain⟨hp,rfl⟩:=yj h;exact eX (qHK _ hp) fun n=>qNz n _ _
 ·cases h
theorem qAI:gG 63 s_z63:=sY [(64,s_z64)] 6 (some [2,3]) (fC qAH fN) func63 fun avs r h=>by
 unfold s_z63 at h;split at h
 ·obtain⟨hp,rfl⟩:=yj h;exact eX (qHP _ hp) fun n=>by kernel_rfl
 ·cases h
def E_z30:EnvP:=eQ [] 11 (some [2,3]) nC (fun x=>if x=0 then some [] else none) nP
def C_z30:Code:=cO f30
def R_z30:Array ResultVar:=f30.results
theorem qNA (n:Nat) (coding0:Int) (o0:Lab):evFnP E_z30 n C_z30 R_z30 [de coding0 o0]=qIe n coding0:=by
 kernel_rfl
theorem qAJ:gG 30 s_z30:=by
 refine qgL G_stays (E:=E_z30) (fn:=f30) (c:=C_z30) (qo rfl qeD) (fun w S hg=>⟨⟨qQ,fun f sp h=>qP f sp h w S⟩,qW w S hg,(fun _ _ h=>by cases h),(fun _ _ h=>by cases h),(fun _ _ h=>by cases h),(fun _ _ _ h=>by cases h)⟩) follows func30 (by kernel_rfl) (by kernel_rfl) (by kernel_rfl) ?_;intro avs r h;unfold s_z30 at h;split at h <;> cases h
 obtain⟨n,r,hn,hp⟩:=qHQ _;exact⟨n,r,(qNA n _ _).trans hn,hp⟩
theorem qqc:gG 65 s_z65:=sZ [] 13 (some [2]) nC (fun x=>if x=0 then some [] else none) nP fN func65 fun avs r h=>by
 unfold s_z65 at h;split at h <;> cases h
 exact eX (qIB _) fun n=>by kernel_rfl
theorem qlP:gG 158 s_z158:=sY [] 6 (some [2]) fN func158 fun avs r h=>by
 unfold s_z158 at h;split at h <;> cases h
 exact eX (qDd _) fun n=>by kernel_rfl
def qnX:EnvP:=eQ [(176,s_z176)] 31 (some [2,3]) (fun x=>if x=2 then some [0,6,7] else none) (fun x=>if x=0 then some [0] else if x=1 then some [0,6,7] else if x=2 then some [0,6,7] else none) nP
def qAK:Code:=cO f127
def qLb:Array ResultVar:=f127.results
noncomputable def qnY (K:KT):=fun s2 s3=>K .ret (frOf [(2,(dm s2 none)),(3,dg s3)])
noncomputable def qnZ (K:KT):=fun c0=>K (.exit 0) (frOf [(0,(di c0 none))])
def qHo (n:Nat):KT:=qk 0 (qnX.cutb 0) (kSeq (evCP qnX (evLP qnX n) (sub qAK [1,1])) (kFnP qnX qLb))
def qHp (c0:Int) (s6:List (UInt8×(Int×Unit))) (s7:Int):Fr:=frOf [(0,(di c0 none)),(6,(.dat (.arr 8 (.pair .byte (.pair (.int .i32) .unit))) s6 none)),(7,dc s7)]
theorem qvK (K:KT) (n:Nat):(fun c0 s6 s7=>evLP qnX n (sub qAK [1,0,1,0,0]) K (qHp c0 s6 s7))=qmg (qnY K) (qnZ K) n:=by
 induction n
 kernel_rfl;rename_i n ih;show _=qqI (qnY K) (qnZ K) (qmg (qnY K) (qnZ K) n) n;rw[← ih];kernel_rfl
theorem qLc (n:Nat) (c0:Int) (o0:Lab):evFnP qnX n qAK qLb [di c0 o0]=qxv n c0:=by
 unfold qxv;rw[(Eq.trans (by kernel_rfl) (qvK (qHo n) n).symm:qmg qjY (qgE n) n=_)];kernel_rfl
theorem qlQ:gG 127 s_z127:=sQ (E:=qnX) (c:=qAK) rfl (fC qlH fN) func127 fun avs r h=>by
 unfold s_z127 at h;split at h <;> cases h
 exact eX (qCZ _) fun n=>qLc n _ _
theorem qvL:gG 159 s_z159:=sY [(127,s_z127)] 11 (some [2]) (fC qlQ fN) func159 fun avs r h=>by
 unfold s_z159 at h;split at h <;> cases h
 exact eX (qDa _) fun n=>by kernel_rfl
def qoa:EnvP:=eQ [] 19 (some [4]) (fun x=>if x=2 then some [0,1,7,8] else none) (fun x=>if x=0 then some [] else if x=1 then some [0,1,7,8] else none) nP
def qAL:Code:=cO f186
def qLd:Array ResultVar:=f186.results
noncomputable def qob (K:KT):=fun s4=>K .ret (frOf [(4,dc s4)])
def qHq (n:Nat):KT:=qk 0 (qoa.cutb 0) (kSeq (evCP qoa (evLP qoa n) (sub qAL [1,1])) (kFnP qoa qLd))
def qHr (s0:LI) (v1:Int) (s7:Int) (s8:Int):Fr:=frOf [(0,(.dat (.sl (.int .i32)) s0 none)),(1,(di v1 none)),(7,dc s7),(8,dc s8)]
theorem qvM (K:KT) (n:Nat):(fun s0 v1 s7 s8=>evLP qoa n (sub qAL [1,0,1,0,0]) K (qHr s0 v1 s7 s8))=qiN (qob K) (K (.exit 0) (frOf [])) n:=by
 induction n
 kernel_rfl;rename_i n ih;show _=qdw (qob K) (K (.exit 0) (frOf [])) (qiN (qob K) (K (.exit 0) (frOf [])) n) n;rw[← ih];kernel_rfl
theorem qLe (n:Nat) (s0:LI) (o0:Lab) (v1:Int) (o1:Lab):evFnP qoa n qAL qLd [.dat (.sl (.int .i32)) s0 o0,di v1 o1]=qqJ n s0 v1:=by
 unfold qqJ;rw[(Eq.trans (by kernel_rfl) (qvM (qHq n) n).symm:qiN qEt (qkf n) n=_)];kernel_rfl
theorem qvN:gG 186 s_z186:=sQ (E:=qoa) (c:=qAL) rfl fN func186 fun avs r h=>by
 unfold s_z186 at h;split at h
 ·obtain⟨hp,rfl⟩:=yj h;exact eX (qCR _ _ hp) fun n=>qLe n _ _ _ _
 ·cases h
theorem qlR:gG 129 s_z129:=sZ [(177,s_z177),(186,s_z186)] 31 (some [2,3]) nC (fun x=>if x=0 then some [0] else none) nP (fC qlI (fC qvN fN)) func129 fun avs r h=>by
 unfold s_z129 at h;split at h <;> cases h
 exact eX (qDb _) fun n=>by kernel_rfl
theorem qlS:gG 160 s_z160:=sY [(129,s_z129)] 11 (some [2]) (fC qlR fN) func160 fun avs r h=>by
 unfold s_z160 at h;split at h <;> cases h
 exact eX (qDc _) fun n=>by kernel_rfl
theorem qvO:gG 211 s_z211:=sY [] 9 (some [2]) fN func211 fun avs r h=>by
 unfold s_z211 at h;split at h <;> cases h
 exact eX (qCO _) fun n=>by kernel_rfl
theorem qht:gG 161 s_z161:=sY [(211,s_z211)] 11 (some [2]) (fC qvO fN) func161 fun avs r h=>by
 unfold s_z161 at h;split at h <;> cases h
 exact eX (qCP _) fun n=>by kernel_rfl
theorem qlT:gG 105 s_z105:=sZ [(158,s_z158),(159,s_z159),(160,s_z160),(161,s_z161)] 30 (some [4]) nC (fun x=>if x=0 then some [] else none) nP (fC qlP (fC qvL (fC qlS (fC qht fN)))) func105 fun avs r h=>by
 unfold s_z105 at h;split at h <;> cases h
 exact eX (qDe _ _) fun n=>by kernel_rfl
def qoc:EnvP:=eQ [(105,s_z105)] 20 (some [4]) (fun x=>if x=2 then some [0,7,8,9] else none) (fun x=>if x=0 then some [] else if x=1 then some [0,7,8,9] else none) nP
def qAM:Code:=cO f124
def qLf:Array ResultVar:=f124.results
noncomputable def qod (K:KT):=fun s4=>K .ret (frOf [(4,dc s4)])
def qHs (n:Nat):KT:=qk 0 (qoc.cutb 0) (kSeq (evCP qoc (evLP qoc n) (sub qAM [1,1])) (kFnP qoc qLf))
def qHt (charset0:Int) (s7:LI) (s8:Int) (s9:Int):Fr:=frOf [(0,dc charset0),(7,(.dat (.sl (.int .i32)) s7 none)),(8,dc s8),(9,dc s9)]
theorem qvP (K:KT) (n:Nat):(fun charset0 s7 s8 s9=>evLP qoc n (sub qAM [1,0,1,0,0]) K (qHt charset0 s7 s8 s9))=qiO (qod K) (K (.exit 0) (frOf [])) n:=by
 induction n
 kernel_rfl;rename_i n ih;show _=qdx (qod K) (K (.exit 0) (frOf [])) (qiO (qod K) (K (.exit 0) (frOf [])) n) n;rw[← ih];kernel_rfl
theorem qLg (n:Nat) (charset0:Int) (o0:Lab) (t1:LI) (o1:Lab):evFnP qoc n qAM qLf [de charset0 o0,.dat (.sl (.int .i32)) t1 o1]=qqK n charset0 t1:=by
 unfold qqK;rw[(Eq.trans (by kernel_rfl) (qvP (qHs n) n).symm:qiO qEt (qkg n) n=_)];kernel_rfl
theorem qvQ:gG 124 s_z124:=sQ (E:=qoc) (c:=qAM) rfl (fC qlT fN) func124 fun avs r h=>by
 unfold s_z124 at h;split at h
 ·obtain⟨hp,rfl⟩:=yj h;exact eX (qCU _ _ hp) fun n=>qLg n _ _ _ _
 ·cases h
theorem qAN:gG 66 s_z66:=sY [(65,s_z65),(124,s_z124)] 14 (some [4]) (fC qqc (fC qvQ fN)) func66 fun avs r h=>by
 unfold s_z66 at h;split at h
 ·obtain⟨hp,rfl⟩:=yj h;exact eX (qIC _ _ hp) fun n=>by kernel_rfl
 ·cases h
end
end
end Go.Av
