import Derived.Test.YtnfehbljinflbaaGreatDoorRRRRErEvC
import Derived.Test.YtnfehbljinflbaaGreatDoorRRRREtN
import Derived.Test.YtnfehbljinflbaaGreatDoorRRRRProg
import Derived.KernelRfl
namespace Go.Av
set_option linter.unusedSimpArgs false
noncomputable section
open Go.Proofs
set_option maxRecDepth 100000
set_option linter.unusedVariables false
def qGl:EnvP:=⟨⟨tiOf tis,fnsOf [(146,s_z146),(147,s_z147),(148,s_z148),(149,s_z149),(156,s_z156),(157,s_z157),(158,s_z158)],cnsOf [],[],42,(fun _=>none),(fun _=>none),some [1000004]⟩,fun _=>none,fun _=>none,(fun x=>if x=500009 then [5] else []),fun _=>none,fun _=>none,fun _=>none,fun _=>none⟩
def qGm:Code:=cO Tryz.f129
def qJo:Array ResultVar:=Tryz.f129.results
theorem qGn (n:Nat) (s0:List UInt8) (o0:Lab) (cutset1:List UInt8) (o1:Lab):evFnP qGl n qGm qJo [db s0 o0,df cutset1 o1]=qwf n s0 cutset1:=by
 kernel_rfl
theorem qma:qg G Tryz.prog 129 s_z129:=by
 refine qB G_stays (E:=qGl) (fn:=Tryz.f129) (c:=qGm) (qf rfl qaS) (fun w S hg=>⟨⟨(qb (qlY w S hg) (qb (qhl w S hg) (qb (qlZ w S hg) (qb (qlS w S hg) (qb (quz w S hg) (qb (quB w S hg) (qb (qud w S hg) qc))))))),fun f sp h=>qZ f sp h w S⟩,qae w S hg,(fun _ _ h=>by cases h),(fun f sp h=>qat f sp h),(fun f it h=>qau f it h),(fun t kt vt h=>qaa t kt vt h)⟩) follows Tryz.func129 (by kernel_rfl) (by kernel_rfl) (by kernel_rfl) ?_;intro avs r h;unfold s_z129 at h;split at h
 ·obtain ⟨hp,rfl⟩:=yj h;obtain ⟨n,hn⟩:=qAe _ _ hp;exact ⟨n,_,(qGn n _ _ _ _).trans hn,.inl rfl⟩
 ·cases h
def qGo:EnvP:=eQ [(83,s_z83),(129,s_z129)] 6 (some [2]) nC nC nP
def qGp:Code:=cO Tryz.f119
def qJp:Array ResultVar:=Tryz.f119.results
theorem qGq (n:Nat) (s0:List UInt8) (o0:Lab):evFnP qGo n qGp qJp [db s0 o0]=qwh n s0:=by
 kernel_rfl
theorem quC:qg G Tryz.prog 119 s_z119:=by
 refine sQ (E:=qGo) (c:=qGp) rfl (fun w S hg=>(qb (qgi w S hg) (qb (qma w S hg) qc))) Tryz.func119 ?_;intro avs r h;unfold s_z119 at h;split at h
 ·obtain ⟨hp,rfl⟩:=yj h;obtain ⟨n,hn⟩:=qAl _ hp;exact ⟨n,_,(qGq n _ _).trans hn,.inl rfl⟩
 ·cases h
def E_z88:EnvP:=eQ [(91,s_z91),(119,s_z119)] 13 (some [2]) nC nC nP
def C_z88:Code:=cO Tryz.f88
def R_z88:Array ResultVar:=Tryz.f88.results
theorem qJq (n:Nat) (s0:List UInt8) (o0:Lab):evFnP E_z88 n C_z88 R_z88 [db s0 o0]=qDD n s0:=by
 kernel_rfl
theorem qyY:qg G Tryz.prog 88 s_z88:=by
 refine sQ (E:=E_z88) (c:=C_z88) rfl (fun w S hg=>(qb (qpK w S hg) (qb (quC w S hg) qc))) Tryz.func88 ?_;intro avs r h;unfold s_z88 at h;split at h
 ·obtain ⟨hp,rfl⟩:=yj h;obtain ⟨n,hn⟩:=qEz _ hp;exact ⟨n,_,(qJq n _ _).trans hn,.inl rfl⟩
 ·cases h
def E_z53:EnvP:=⟨⟨tiOf tis,fnsOf [(87,s_z87),(88,s_z88)],cnsOf [],[],18,(fun _=>none),(fun _=>none),some [2,3]⟩,fun _=>none,fun _=>none,fun _=>[],fun _=>none,(fun x=>if x=86 then some s_z86 else none),fun _=>none,(fun x=>if x=99 then some (9,3) else none)⟩
def C_z53:Code:=cO Tryz.f53
def R_z53:Array ResultVar:=Tryz.f53.results
theorem qJr (n:Nat) (s0:List UInt8) (o0:Lab):evFnP E_z53 n C_z53 R_z53 [db s0 o0]=qDE n s0:=by
 kernel_rfl
theorem qpQ:qg G Tryz.prog 53 s_z53:=by
 refine qB G_stays (E:=E_z53) (fn:=Tryz.f53) (c:=C_z53) (qf rfl qaS) (fun w S hg=>⟨⟨(qb (qpM w S hg) (qb (qyY w S hg) qc)),fun f sp h=>qZ f sp h w S⟩,qae w S hg,(fun _ _ h=>by cases h),(fun f sp h=>(qsH (qyX w S hg) qat) f sp h),(fun f it h=>qau f it h),(fun t kt vt h=>(qsI (by kernel_rfl) qaa) t kt vt h)⟩) follows Tryz.func53 (by kernel_rfl) (by kernel_rfl) (by kernel_rfl) ?_;intro avs r h;unfold s_z53 at h;split at h
 ·obtain ⟨hp,rfl⟩:=yj h;obtain ⟨n,hn⟩:=qEA _ hp;exact ⟨n,_,(qJr n _ _).trans hn,.inl rfl⟩
 ·cases h
def E_z52:EnvP:=eQ [(53,s_z53)] 14 (some [2]) nC nC nP
def C_z52:Code:=cO Tryz.f52
def R_z52:Array ResultVar:=Tryz.f52.results
theorem qJs (n:Nat) (w0:(List UInt8)×(Int×((List UInt8)×Unit))) (o0:Lab):evFnP E_z52 n C_z52 R_z52 [.dat (.pair (.sl .byte) (.pair (.int .i64) (.pair (.sl .byte) .unit))) w0 o0]=qDF n w0:=by
 kernel_rfl
theorem qpR:qg G Tryz.prog 52 s_z52:=by
 refine sQ (E:=E_z52) (c:=C_z52) rfl (fun w S hg=>(qb (qpQ w S hg) qc)) Tryz.func52 ?_;intro avs r h;unfold s_z52 at h;split at h
 ·obtain ⟨hp,rfl⟩:=yj h;obtain ⟨n,hn⟩:=qEB _ hp;exact ⟨n,_,(qJs n _ _).trans hn,.inl rfl⟩
 ·cases h
def E_z31:EnvP:=eQ [(51,s_z51),(52,s_z52)] 14 (some [2]) nC nC nP
def C_z31:Code:=cO Tryz.f31
def R_z31:Array ResultVar:=Tryz.f31.results
theorem qJt (n:Nat) (s0:List UInt8) (o0:Lab):evFnP E_z31 n C_z31 R_z31 [db s0 o0]=qDG n s0:=by
 kernel_rfl
theorem qyZ:qg G Tryz.prog 31 s_z31:=by
 refine sQ (E:=E_z31) (c:=C_z31) rfl (fun w S hg=>(qb (qgj w S hg) (qb (qpR w S hg) qc))) Tryz.func31 ?_;intro avs r h;unfold s_z31 at h;split at h
 ·obtain ⟨hp,rfl⟩:=yj h;obtain ⟨n,hn⟩:=qEI _ hp;exact ⟨n,_,(qJt n _ _).trans hn,.inl rfl⟩
 ·cases h
def E_z30:EnvP:=eQ [(31,s_z31)] 8 (some [9]) nC nC (fun x=>if x=3 then some (.osl 3 (.int .i64)) else if x=7 then some (.osl 3 (.int .i64)) else none)
def C_z30:Code:=cO Tryz.f30
def R_z30:Array ResultVar:=Tryz.f30.results
theorem qJu (n:Nat) (w0:List UInt8) (o0:Lab) (x1:List Int):evFnM E_z30 n C_z30 R_z30 [db w0 o0,.pbox (.osl 3 (.int .i64)) x1 none]=qDH n w0 x1:=by
 kernel_rfl
theorem qza:qfO G Tryz.prog 30 s_z30:=by
 refine qP G_stays (E:=E_z30) (fn:=Tryz.f30) (c:=C_z30) (qf rfl qaS) (fun w S hg=>⟨⟨(qb (qyZ w S hg) qc),fun f sp h=>qZ f sp h w S⟩,qae w S hg,(fun _ _ h=>by cases h),(fun f sp h=>qat f sp h),(fun f it h=>qau f it h),(fun t kt vt h=>qaa t kt vt h)⟩) follows Tryz.func30 (by kernel_rfl) (by kernel_rfl) (by kernel_rfl) ?_;intro avs r h;unfold s_z30 at h;split at h
 ·obtain ⟨hp,rfl⟩:=yj h;obtain ⟨n,hn⟩:=qDj _ _ hp;exact ⟨n,(qJu n _ _ _).trans hn⟩
 ·cases h
def qGr:EnvP:=eQ [(93,s_z93)] 21 (some [4]) nC nC nP
def qGs:Code:=cO Tryz.f166
def qJv:Array ResultVar:=Tryz.f166.results
theorem qGt (n:Nat) (s0:List UInt8) (o0:Lab) (suffix1:List UInt8) (o1:Lab):evFnP qGr n qGs qJv [db s0 o0,db suffix1 o1]=qwm n s0 suffix1:=by
 kernel_rfl
theorem quD:qg G Tryz.prog 166 s_z166:=by
 refine sQ (E:=qGr) (c:=qGs) rfl (fun w S hg=>(qb (qyN w S hg) qc)) Tryz.func166 ?_;intro avs r h;unfold s_z166 at h;split at h
 ·obtain ⟨hp,rfl⟩:=yj h;obtain ⟨n,hn⟩:=qAp _ _ hp;exact ⟨n,_,(qGt n _ _ _ _).trans hn,.inl rfl⟩
 ·cases h
def qGu:EnvP:=eQ [(166,s_z166)] 16 (some [4]) nC nC nP
def qGv:Code:=cO Tryz.f143
def qJw:Array ResultVar:=Tryz.f143.results
theorem qGw (n:Nat) (s0:List UInt8) (o0:Lab) (suffix1:List UInt8) (o1:Lab):evFnP qGu n qGv qJw [db s0 o0,db suffix1 o1]=qwn n s0 suffix1:=by
 kernel_rfl
theorem quE:qg G Tryz.prog 143 s_z143:=by
 refine sQ (E:=qGu) (c:=qGv) rfl (fun w S hg=>(qb (quD w S hg) qc)) Tryz.func143 ?_;intro avs r h;unfold s_z143 at h;split at h
 ·obtain ⟨hp,rfl⟩:=yj h;obtain ⟨n,hn⟩:=qAE _ _ hp;exact ⟨n,_,(qGw n _ _ _ _).trans hn,.inl rfl⟩
 ·cases h
def qkh:EnvP:=eQ [(143,s_z143)] 10 (some [2]) (fun x=>if x=2 then some [0,3] else none) (fun x=>if x=0 then some [0] else if x=1 then some [0,3] else none) nP
def qrK:Code:=cO Tryz.f120
def qGx:Array ResultVar:=Tryz.f120.results
noncomputable def qhq (K:Ex→Fr→Option AV):=fun s0=>K (.exit 0) (frOf [(0,da s0)])
def qki (n:Nat):Ex→Fr→Option AV:=qo 0 (qkh.cutb 0) (kSeq (evCP qkh (evLP qkh n) (sub qrK [1,1])) (kFnP qkh qGx))
def qnJ (s0:List UInt8) (s3:Int):Fr:=frOf [(0,da s0),(3,dc s3)]
theorem quF (K:Ex→Fr→Option AV):∀ (n:Nat) (s0:List UInt8) (s3:Int),evLP qkh n (sub qrK [1,0,1,0,0]) K (qnJ s0 s3)=qiP (qhq K) n s0 s3:=by
 intro n;induction n with
 | zero=>intros; rfl
 | succ n IH =>
 intro s0 s3;have ih:(fun s0 s3=>evLP qkh n (sub qrK [1,0,1,0,0]) K (qnJ s0 s3))=qiP (qhq K) n:=by
  funext s0 s3;exact IH s0 s3
 show _=qqp (qhq K) (qiP (qhq K) n) n s0 s3;rw [← ih];kernel_rfl
theorem qnK (n:Nat) (s0:List UInt8):(qki n) (.exit 0) (frOf [(0,da s0)])=qgr n s0:=by
 kernel_rfl
theorem qGy (n:Nat) (s0:List UInt8) (o0:Lab):evFnP qkh n qrK qGx [db s0 o0]=qqq n s0:=by
 unfold qqq;rw [show qiP (qgr n) n=(fun s0 s3=>evLP qkh n (sub qrK [1,0,1,0,0]) (qki n) (qnJ s0 s3)) from by
  funext s0 s3;refine Eq.trans ?_ (quF (qki n) n s0 s3).symm;rw [show (qhq (qki n))=(qgr n) from by
   funext s0;exact qnK n s0]
  all_goals kernel_rfl]
 kernel_rfl
theorem quG:qg G Tryz.prog 120 s_z120:=by
 refine sQ (E:=qkh) (c:=qrK) rfl (fun w S hg=>(qb (quE w S hg) qc)) Tryz.func120 ?_;intro avs r h;unfold s_z120 at h;split at h
 ·obtain ⟨hp,rfl⟩:=yj h;obtain ⟨n,hn⟩:=qAF _ hp;exact ⟨n,_,(qGy n _ _).trans hn,.inl rfl⟩
 ·cases h
def qGz:EnvP:=eQ [(126,s_z126)] 11 (some [2,3]) nC nC nP
def qGA:Code:=cO Tryz.f121
def qJx:Array ResultVar:=Tryz.f121.results
theorem qGB (n:Nat) (c0:UInt8) (o0:Lab):evFnP qGz n qGA qJx [dm c0 o0]=qBB n c0:=by
 kernel_rfl
theorem qmb:qg G Tryz.prog 121 s_z121:=by
 refine sQ (E:=qGz) (c:=qGA) rfl (fun w S hg=>(qb (qlW w S hg) qc)) Tryz.func121 ?_;intro avs r h;unfold s_z121 at h;split at h <;> cases h
 obtain ⟨n,hn⟩:=qAB _;exact ⟨n,_,(qGB n _ _).trans hn,.inl rfl⟩
def E_z89:EnvP:=eQ [(120,s_z120),(121,s_z121)] 57 (some [2,3]) (fun x=>if x=4 then some [0,4,5,6,12,13,14] else none) (fun x=>if x=0 then some [0,4,5] else if x=1 then some [0,4,5,6,12,13,14] else if x=2 then some [4] else none) nP
def C_z89:Code:=cO Tryz.f89
def R_z89:Array ResultVar:=Tryz.f89.results
noncomputable def qmc (K:Ex→Fr→Option AV):=fun s0 out4 held5=>K (.exit 0) (frOf [(0,da s0),(4,(db out4 (some (4,5)))),(5,dc held5)])
noncomputable def qpS (K:Ex→Fr→Option AV):=fun s2 s3=>K .ret (frOf [(2,(db s2 (some (2,5)))),(3,dc s3)])
def qpT (n:Nat):Ex→Fr→Option AV:=qo 0 (E_z89.cutb 0) (kSeq (evCP E_z89 (evLP E_z89 n) (sub C_z89 [1,1,1,1])) (kFnP E_z89 R_z89))
def quH (s0:List UInt8) (out4:List UInt8) (held5:Int) (many6:Int) (s12:List UInt8) (s13:Int) (s14:Int):Fr:=frOf [(0,da s0),(4,(db out4 (some (4,5)))),(5,dc held5),(6,dc many6),(12,da s12),(13,dc s13),(14,dc s14)]
theorem qzb (K:Ex→Fr→Option AV):∀ (n:Nat) (s0:List UInt8) (out4:List UInt8) (held5:Int) (many6:Int) (s12:List UInt8) (s13:Int) (s14:Int),evLP E_z89 n (sub C_z89 [1,1,1,0,1,0,0]) K (quH s0 out4 held5 many6 s12 s13 s14)=qit (qpS K) (qmc K) n s0 out4 held5 many6 s12 s13 s14:=by
 intro n;induction n with
 | zero=>intros; rfl
 | succ n IH =>
 intro s0 out4 held5 many6 s12 s13 s14;have ih:(fun s0 out4 held5 many6 s12 s13 s14=>evLP E_z89 n (sub C_z89 [1,1,1,0,1,0,0]) K (quH s0 out4 held5 many6 s12 s13 s14))=qit (qpS K) (qmc K) n:=by
  funext s0 out4 held5 many6 s12 s13 s14;exact IH s0 out4 held5 many6 s12 s13 s14
 show _=qfo (qpS K) (qmc K) (qit (qpS K) (qmc K) n) n s0 out4 held5 many6 s12 s13 s14;rw [← ih];kernel_rfl
theorem qrL (n:Nat) (s0:List UInt8) (out4:List UInt8) (held5:Int):(qpT n) (.exit 0) (frOf [(0,da s0),(4,(db out4 (some (4,5)))),(5,dc held5)])=qct n s0 out4 held5:=by
 kernel_rfl
theorem qJy (n:Nat) (s0:List UInt8) (o0:Lab):evFnP E_z89 n C_z89 R_z89 [db s0 o0]=qzQ n s0:=by
 unfold qzQ;rw [show qit qbF (qct n) n=(fun s0 out4 held5 many6 s12 s13 s14=>evLP E_z89 n (sub C_z89 [1,1,1,0,1,0,0]) (qpT n) (quH s0 out4 held5 many6 s12 s13 s14)) from by
  funext s0 out4 held5 many6 s12 s13 s14;refine Eq.trans ?_ (qzb (qpT n) n s0 out4 held5 many6 s12 s13 s14).symm;rw [show (qmc (qpT n))=(qct n) from by
   funext s0 out4 held5;exact qrL n s0 out4 held5]
  all_goals kernel_rfl]
 kernel_rfl
theorem qzc:qg G Tryz.prog 89 s_z89:=by
 refine sQ (E:=E_z89) (c:=C_z89) rfl (fun w S hg=>(qb (quG w S hg) (qb (qmb w S hg) qc))) Tryz.func89 ?_;intro avs r h;unfold s_z89 at h;split at h
 ·obtain ⟨hp,rfl⟩:=yj h;obtain ⟨n,hn⟩:=qEt _ hp;exact ⟨n,_,(qJy n _ _).trans hn,.inl rfl⟩
 ·cases h
def E_z54:EnvP:=eQ [(89,s_z89)] 12 (some [2]) nC nC nP
def C_z54:Code:=cO Tryz.f54
def R_z54:Array ResultVar:=Tryz.f54.results
theorem qJz (n:Nat) (s0:List UInt8) (o0:Lab):evFnP E_z54 n C_z54 R_z54 [db s0 o0]=qDI n s0:=by
 kernel_rfl
theorem qzd:qg G Tryz.prog 54 s_z54:=by
 refine sQ (E:=E_z54) (c:=C_z54) rfl (fun w S hg=>(qb (qzc w S hg) qc)) Tryz.func54 ?_;intro avs r h;unfold s_z54 at h;split at h
 ·obtain ⟨hp,rfl⟩:=yj h;obtain ⟨n,hn⟩:=qEu _ hp;exact ⟨n,_,(qJz n _ _).trans hn,.inl rfl⟩
 ·cases h
def qGC:EnvP:=eQ [(36,s_z36),(118,s_z118)] 23 (some [2,3]) nC (fun x=>if x=0 then some [] else none) nP
def qGD:Code:=cO Tryz.f175
def qJA:Array ResultVar:=Tryz.f175.results
theorem qGE (n:Nat) (c0:UInt8) (o0:Lab):evFnP qGC n qGD qJA [dm c0 o0]=qwo n c0:=by
 kernel_rfl
theorem quI:qg G Tryz.prog 175 s_z175:=by
 refine sQ (E:=qGC) (c:=qGD) rfl (fun w S hg=>(qb (qjT w S hg) (qb (qlU w S hg) qc))) Tryz.func175 ?_;intro avs r h;unfold s_z175 at h;split at h <;> cases h
 obtain ⟨n,hn⟩:=qAm _;exact ⟨n,_,(qGE n _ _).trans hn,.inl rfl⟩
end
end Go.Av
