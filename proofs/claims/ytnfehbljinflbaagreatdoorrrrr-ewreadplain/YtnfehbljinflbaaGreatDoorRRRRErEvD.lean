import Derived.Test.YtnfehbljinflbaaGreatDoorRRRRErEvC
import Derived.Test.YtnfehbljinflbaaGreatDoorRRRREtN
import Derived.Test.YtnfehbljinflbaaGreatDoorRRRRProg
import Derived.KernelRfl
namespace Go.Av
set_option linter.unusedSimpArgs false
noncomputable section
open Go.Proofs
set_option maxRecDepth 100000
set_option linter.unusedVariables false
def qFT:EnvP:=⟨⟨tiOf tis,fnsOf [(146,s_z146),(147,s_z147),(148,s_z148),(149,s_z149),(156,s_z156),(157,s_z157),(158,s_z158)],cnsOf [],[],42,(fun _=>none),(fun _=>none),some [1000004]⟩,fun _=>none,fun _=>none,(fun x=>if x=500009 then [5] else []),fun _=>none,fun _=>none,fun _=>none,fun _=>none⟩
def qFU:Code:=cO Tryz.f129
def qIT:Array ResultVar:=Tryz.f129.results
theorem qFV (n:Nat) (s0:List UInt8) (o0:Lab) (cutset1:List UInt8) (o1:Lab):evFnP qFT n qFU qIT [db s0 o0,df cutset1 o1]=qvZ n s0 cutset1:=by
 kernel_rfl
theorem qmb:qf G Tryz.prog 129 s_z129:=by
 refine qB G_stays (E:=qFT) (fn:=Tryz.f129) (c:=qFU) (qe rfl qaU) (fun w S hg=>⟨⟨(qb (qlZ w S hg) (qb (qhp w S hg) (qb (qma w S hg) (qb (qlT w S hg) (qb (quw w S hg) (qb (quy w S hg) (qb (qub w S hg) qc))))))),fun f sp h=>qZ f sp h w S⟩,qae w S hg,(fun _ _ h=>by cases h),(fun f sp h=>qat f sp h),(fun f it h=>qau f it h),(fun t kt vt h=>qaa t kt vt h)⟩) follows Tryz.func129 (by kernel_rfl) (by kernel_rfl) (by kernel_rfl) ?_;intro avs r h;unfold s_z129 at h;split at h
 ·obtain ⟨hp,rfl⟩:=yj h;obtain ⟨n,hn⟩:=qzU _ _ hp;exact ⟨n,_,(qFV n _ _ _ _).trans hn,.inl rfl⟩
 ·cases h
def qFW:EnvP:=eQ [(83,s_z83),(129,s_z129)] 6 (some [2]) nC nC nP
def qFX:Code:=cO Tryz.f119
def qIU:Array ResultVar:=Tryz.f119.results
theorem qFY (n:Nat) (s0:List UInt8) (o0:Lab):evFnP qFW n qFX qIU [db s0 o0]=qwb n s0:=by
 kernel_rfl
theorem quz:qf G Tryz.prog 119 s_z119:=by
 refine sQ (E:=qFW) (c:=qFX) rfl (fun w S hg=>(qb (qgl w S hg) (qb (qmb w S hg) qc))) Tryz.func119 ?_;intro avs r h;unfold s_z119 at h;split at h
 ·obtain ⟨hp,rfl⟩:=yj h;obtain ⟨n,hn⟩:=qAb _ hp;exact ⟨n,_,(qFY n _ _).trans hn,.inl rfl⟩
 ·cases h
def E_z88:EnvP:=eQ [(91,s_z91),(119,s_z119)] 13 (some [2]) nC nC nP
def C_z88:Code:=cO Tryz.f88
def R_z88:Array ResultVar:=Tryz.f88.results
theorem qIV (n:Nat) (s0:List UInt8) (o0:Lab):evFnP E_z88 n C_z88 R_z88 [db s0 o0]=qDo n s0:=by
 kernel_rfl
theorem qyS:qf G Tryz.prog 88 s_z88:=by
 refine sQ (E:=E_z88) (c:=C_z88) rfl (fun w S hg=>(qb (qpJ w S hg) (qb (quz w S hg) qc))) Tryz.func88 ?_;intro avs r h;unfold s_z88 at h;split at h
 ·obtain ⟨hp,rfl⟩:=yj h;obtain ⟨n,hn⟩:=qEi _ hp;exact ⟨n,_,(qIV n _ _).trans hn,.inl rfl⟩
 ·cases h
def E_z53:EnvP:=⟨⟨tiOf tis,fnsOf [(87,s_z87),(88,s_z88)],cnsOf [],[],18,(fun _=>none),(fun _=>none),some [2,3]⟩,fun _=>none,fun _=>none,fun _=>[],fun _=>none,(fun x=>if x=86 then some s_z86 else none),fun _=>none,(fun x=>if x=99 then some (9,3) else none)⟩
def C_z53:Code:=cO Tryz.f53
def R_z53:Array ResultVar:=Tryz.f53.results
theorem qIW (n:Nat) (s0:List UInt8) (o0:Lab):evFnP E_z53 n C_z53 R_z53 [db s0 o0]=qDp n s0:=by
 kernel_rfl
theorem qpP:qf G Tryz.prog 53 s_z53:=by
 refine qB G_stays (E:=E_z53) (fn:=Tryz.f53) (c:=C_z53) (qe rfl qaU) (fun w S hg=>⟨⟨(qb (qpL w S hg) (qb (qyS w S hg) qc)),fun f sp h=>qZ f sp h w S⟩,qae w S hg,(fun _ _ h=>by cases h),(fun f sp h=>(qsF (qyR w S hg) qat) f sp h),(fun f it h=>qau f it h),(fun t kt vt h=>(qsG (by kernel_rfl) qaa) t kt vt h)⟩) follows Tryz.func53 (by kernel_rfl) (by kernel_rfl) (by kernel_rfl) ?_;intro avs r h;unfold s_z53 at h;split at h
 ·obtain ⟨hp,rfl⟩:=yj h;obtain ⟨n,hn⟩:=qEj _ hp;exact ⟨n,_,(qIW n _ _).trans hn,.inl rfl⟩
 ·cases h
def E_z52:EnvP:=eQ [(53,s_z53)] 14 (some [2]) nC nC nP
def C_z52:Code:=cO Tryz.f52
def R_z52:Array ResultVar:=Tryz.f52.results
theorem qIX (n:Nat) (w0:(List UInt8)×(Int×((List UInt8)×Unit))) (o0:Lab):evFnP E_z52 n C_z52 R_z52 [.dat (.pair (.sl .byte) (.pair (.int .i64) (.pair (.sl .byte) .unit))) w0 o0]=qDq n w0:=by
 kernel_rfl
theorem qpQ:qf G Tryz.prog 52 s_z52:=by
 refine sQ (E:=E_z52) (c:=C_z52) rfl (fun w S hg=>(qb (qpP w S hg) qc)) Tryz.func52 ?_;intro avs r h;unfold s_z52 at h;split at h
 ·obtain ⟨hp,rfl⟩:=yj h;obtain ⟨n,hn⟩:=qEk _ hp;exact ⟨n,_,(qIX n _ _).trans hn,.inl rfl⟩
 ·cases h
def E_z31:EnvP:=eQ [(51,s_z51),(52,s_z52)] 14 (some [2]) nC nC nP
def C_z31:Code:=cO Tryz.f31
def R_z31:Array ResultVar:=Tryz.f31.results
theorem qIY (n:Nat) (s0:List UInt8) (o0:Lab):evFnP E_z31 n C_z31 R_z31 [db s0 o0]=qDr n s0:=by
 kernel_rfl
theorem qyT:qf G Tryz.prog 31 s_z31:=by
 refine sQ (E:=E_z31) (c:=C_z31) rfl (fun w S hg=>(qb (qgm w S hg) (qb (qpQ w S hg) qc))) Tryz.func31 ?_;intro avs r h;unfold s_z31 at h;split at h
 ·obtain ⟨hp,rfl⟩:=yj h;obtain ⟨n,hn⟩:=qEr _ hp;exact ⟨n,_,(qIY n _ _).trans hn,.inl rfl⟩
 ·cases h
def E_z30:EnvP:=eQ [(31,s_z31)] 8 (some [9]) nC nC (fun x=>if x=3 then some (.osl 3 (.int .i64)) else if x=7 then some (.osl 3 (.int .i64)) else none)
def C_z30:Code:=cO Tryz.f30
def R_z30:Array ResultVar:=Tryz.f30.results
theorem qIZ (n:Nat) (w0:List UInt8) (o0:Lab) (x1:List Int):evFnM E_z30 n C_z30 R_z30 [db w0 o0,.pbox (.osl 3 (.int .i64)) x1 none]=qDs n w0 x1:=by
 kernel_rfl
theorem qyU:qfR G Tryz.prog 30 s_z30:=by
 refine qP G_stays (E:=E_z30) (fn:=Tryz.f30) (c:=C_z30) (qe rfl qaU) (fun w S hg=>⟨⟨(qb (qyT w S hg) qc),fun f sp h=>qZ f sp h w S⟩,qae w S hg,(fun _ _ h=>by cases h),(fun f sp h=>qat f sp h),(fun f it h=>qau f it h),(fun t kt vt h=>qaa t kt vt h)⟩) follows Tryz.func30 (by kernel_rfl) (by kernel_rfl) (by kernel_rfl) ?_;intro avs r h;unfold s_z30 at h;split at h
 ·obtain ⟨hp,rfl⟩:=yj h;obtain ⟨n,hn⟩:=qCX _ _ hp;exact ⟨n,(qIZ n _ _ _).trans hn⟩
 ·cases h
def qFZ:EnvP:=eQ [(93,s_z93)] 21 (some [4]) nC nC nP
def qGa:Code:=cO Tryz.f166
def qJa:Array ResultVar:=Tryz.f166.results
theorem qGb (n:Nat) (s0:List UInt8) (o0:Lab) (suffix1:List UInt8) (o1:Lab):evFnP qFZ n qGa qJa [db s0 o0,db suffix1 o1]=qwg n s0 suffix1:=by
 kernel_rfl
theorem quA:qf G Tryz.prog 166 s_z166:=by
 refine sQ (E:=qFZ) (c:=qGa) rfl (fun w S hg=>(qb (qyH w S hg) qc)) Tryz.func166 ?_;intro avs r h;unfold s_z166 at h;split at h
 ·obtain ⟨hp,rfl⟩:=yj h;obtain ⟨n,hn⟩:=qAf _ _ hp;exact ⟨n,_,(qGb n _ _ _ _).trans hn,.inl rfl⟩
 ·cases h
def qGc:EnvP:=eQ [(166,s_z166)] 16 (some [4]) nC nC nP
def qGd:Code:=cO Tryz.f143
def qJb:Array ResultVar:=Tryz.f143.results
theorem qGe (n:Nat) (s0:List UInt8) (o0:Lab) (suffix1:List UInt8) (o1:Lab):evFnP qGc n qGd qJb [db s0 o0,db suffix1 o1]=qwh n s0 suffix1:=by
 kernel_rfl
theorem quB:qf G Tryz.prog 143 s_z143:=by
 refine sQ (E:=qGc) (c:=qGd) rfl (fun w S hg=>(qb (quA w S hg) qc)) Tryz.func143 ?_;intro avs r h;unfold s_z143 at h;split at h
 ·obtain ⟨hp,rfl⟩:=yj h;obtain ⟨n,hn⟩:=qAu _ _ hp;exact ⟨n,_,(qGe n _ _ _ _).trans hn,.inl rfl⟩
 ·cases h
def qkj:EnvP:=eQ [(143,s_z143)] 10 (some [2]) (fun x=>if x=2 then some [0,3] else none) (fun x=>if x=0 then some [0] else if x=1 then some [0,3] else none) nP
def qrH:Code:=cO Tryz.f120
def qGf:Array ResultVar:=Tryz.f120.results
noncomputable def qhu (K:Ex→Fr→Option AV):=fun s0=>K (.exit 0) (frOf [(0,da s0)])
def qkk (n:Nat):Ex→Fr→Option AV:=qm 0 (qkj.cutb 0) (kSeq (evCP qkj (evLP qkj n) (sub qrH [1,1])) (kFnP qkj qGf))
def qnJ (s0:List UInt8) (s3:Int):Fr:=frOf [(0,da s0),(3,dc s3)]
theorem quC (K:Ex→Fr→Option AV):∀ (n:Nat) (s0:List UInt8) (s3:Int),evLP qkj n (sub qrH [1,0,1,0,0]) K (qnJ s0 s3)=qiQ (qhu K) n s0 s3:=by
 intro n;induction n with
 | zero=>intros; rfl
 | succ n IH =>
 intro s0 s3;have ih:(fun s0 s3=>evLP qkj n (sub qrH [1,0,1,0,0]) K (qnJ s0 s3))=qiQ (qhu K) n:=by
  funext s0 s3;exact IH s0 s3
 show _=qqn (qhu K) (qiQ (qhu K) n) n s0 s3;rw [← ih];kernel_rfl
theorem qnK (n:Nat) (s0:List UInt8):(qkk n) (.exit 0) (frOf [(0,da s0)])=qgv n s0:=by
 kernel_rfl
theorem qGg (n:Nat) (s0:List UInt8) (o0:Lab):evFnP qkj n qrH qGf [db s0 o0]=qqo n s0:=by
 unfold qqo;rw [show qiQ (qgv n) n=(fun s0 s3=>evLP qkj n (sub qrH [1,0,1,0,0]) (qkk n) (qnJ s0 s3)) from by
  funext s0 s3;refine Eq.trans ?_ (quC (qkk n) n s0 s3).symm;rw [show (qhu (qkk n))=(qgv n) from by
   funext s0;exact qnK n s0]
  all_goals kernel_rfl]
 kernel_rfl
theorem quD:qf G Tryz.prog 120 s_z120:=by
 refine sQ (E:=qkj) (c:=qrH) rfl (fun w S hg=>(qb (quB w S hg) qc)) Tryz.func120 ?_;intro avs r h;unfold s_z120 at h;split at h
 ·obtain ⟨hp,rfl⟩:=yj h;obtain ⟨n,hn⟩:=qAv _ hp;exact ⟨n,_,(qGg n _ _).trans hn,.inl rfl⟩
 ·cases h
def qGh:EnvP:=eQ [(126,s_z126)] 11 (some [2,3]) nC nC nP
def qGi:Code:=cO Tryz.f121
def qJc:Array ResultVar:=Tryz.f121.results
theorem qGj (n:Nat) (c0:UInt8) (o0:Lab):evFnP qGh n qGi qJc [di c0 o0]=qBq n c0:=by
 kernel_rfl
theorem qmc:qf G Tryz.prog 121 s_z121:=by
 refine sQ (E:=qGh) (c:=qGi) rfl (fun w S hg=>(qb (qlX w S hg) qc)) Tryz.func121 ?_;intro avs r h;unfold s_z121 at h;split at h <;> cases h
 obtain ⟨n,hn⟩:=qAr _;exact ⟨n,_,(qGj n _ _).trans hn,.inl rfl⟩
def E_z89:EnvP:=eQ [(120,s_z120),(121,s_z121)] 57 (some [2,3]) (fun x=>if x=4 then some [0,4,5,6,12,13,14] else none) (fun x=>if x=0 then some [0,4,5] else if x=1 then some [0,4,5,6,12,13,14] else if x=2 then some [4] else none) nP
def C_z89:Code:=cO Tryz.f89
def R_z89:Array ResultVar:=Tryz.f89.results
noncomputable def qmd (K:Ex→Fr→Option AV):=fun s0 out4 held5=>K (.exit 0) (frOf [(0,da s0),(4,(db out4 (some (4,5)))),(5,dc held5)])
noncomputable def qpR (K:Ex→Fr→Option AV):=fun s2 s3=>K .ret (frOf [(2,(db s2 (some (2,5)))),(3,dc s3)])
def qpS (n:Nat):Ex→Fr→Option AV:=qm 0 (E_z89.cutb 0) (kSeq (evCP E_z89 (evLP E_z89 n) (sub C_z89 [1,1,1,1])) (kFnP E_z89 R_z89))
def quE (s0:List UInt8) (out4:List UInt8) (held5:Int) (many6:Int) (s12:List UInt8) (s13:Int) (s14:Int):Fr:=frOf [(0,da s0),(4,(db out4 (some (4,5)))),(5,dc held5),(6,dc many6),(12,da s12),(13,dc s13),(14,dc s14)]
theorem qyV (K:Ex→Fr→Option AV):∀ (n:Nat) (s0:List UInt8) (out4:List UInt8) (held5:Int) (many6:Int) (s12:List UInt8) (s13:Int) (s14:Int),evLP E_z89 n (sub C_z89 [1,1,1,0,1,0,0]) K (quE s0 out4 held5 many6 s12 s13 s14)=qiu (qpR K) (qmd K) n s0 out4 held5 many6 s12 s13 s14:=by
 intro n;induction n with
 | zero=>intros; rfl
 | succ n IH =>
 intro s0 out4 held5 many6 s12 s13 s14;have ih:(fun s0 out4 held5 many6 s12 s13 s14=>evLP E_z89 n (sub C_z89 [1,1,1,0,1,0,0]) K (quE s0 out4 held5 many6 s12 s13 s14))=qiu (qpR K) (qmd K) n:=by
  funext s0 out4 held5 many6 s12 s13 s14;exact IH s0 out4 held5 many6 s12 s13 s14
 show _=qfp (qpR K) (qmd K) (qiu (qpR K) (qmd K) n) n s0 out4 held5 many6 s12 s13 s14;rw [← ih];kernel_rfl
theorem qrI (n:Nat) (s0:List UInt8) (out4:List UInt8) (held5:Int):(qpS n) (.exit 0) (frOf [(0,da s0),(4,(db out4 (some (4,5)))),(5,dc held5)])=qcs n s0 out4 held5:=by
 kernel_rfl
theorem qJd (n:Nat) (s0:List UInt8) (o0:Lab):evFnP E_z89 n C_z89 R_z89 [db s0 o0]=qzH n s0:=by
 unfold qzH;rw [show qiu qbI (qcs n) n=(fun s0 out4 held5 many6 s12 s13 s14=>evLP E_z89 n (sub C_z89 [1,1,1,0,1,0,0]) (qpS n) (quE s0 out4 held5 many6 s12 s13 s14)) from by
  funext s0 out4 held5 many6 s12 s13 s14;refine Eq.trans ?_ (qyV (qpS n) n s0 out4 held5 many6 s12 s13 s14).symm;rw [show (qmd (qpS n))=(qcs n) from by
   funext s0 out4 held5;exact qrI n s0 out4 held5]
  all_goals kernel_rfl]
 kernel_rfl
theorem qyW:qf G Tryz.prog 89 s_z89:=by
 refine sQ (E:=E_z89) (c:=C_z89) rfl (fun w S hg=>(qb (quD w S hg) (qb (qmc w S hg) qc))) Tryz.func89 ?_;intro avs r h;unfold s_z89 at h;split at h
 ·obtain ⟨hp,rfl⟩:=yj h;obtain ⟨n,hn⟩:=qEc _ hp;exact ⟨n,_,(qJd n _ _).trans hn,.inl rfl⟩
 ·cases h
def E_z54:EnvP:=eQ [(89,s_z89)] 12 (some [2]) nC nC nP
def C_z54:Code:=cO Tryz.f54
def R_z54:Array ResultVar:=Tryz.f54.results
theorem qJe (n:Nat) (s0:List UInt8) (o0:Lab):evFnP E_z54 n C_z54 R_z54 [db s0 o0]=qDt n s0:=by
 kernel_rfl
theorem qyX:qf G Tryz.prog 54 s_z54:=by
 refine sQ (E:=E_z54) (c:=C_z54) rfl (fun w S hg=>(qb (qyW w S hg) qc)) Tryz.func54 ?_;intro avs r h;unfold s_z54 at h;split at h
 ·obtain ⟨hp,rfl⟩:=yj h;obtain ⟨n,hn⟩:=qEd _ hp;exact ⟨n,_,(qJe n _ _).trans hn,.inl rfl⟩
 ·cases h
end
end Go.Av
