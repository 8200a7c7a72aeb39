import Derived.Test.YtnfehbljinflbaaGreatDoorRRRRErEvB
import Derived.Test.YtnfehbljinflbaaGreatDoorRRRREtN
import Derived.Test.YtnfehbljinflbaaGreatDoorRRRRProg
import Derived.KernelRfl
namespace Go.Av
noncomputable section
open Go.Proofs
set_option maxRecDepth 100000
def qQg:EnvP:=⟨⟨tiOf tis,fnsOf [(146,s_z146),(147,s_z147),(148,s_z148),(149,s_z149),(156,s_z156),(157,s_z157),(158,s_z158)],cnsOf [],[],42,(fun _=>none),(fun _=>none),some [1000004]⟩,fun _=>none,fun _=>none,(fun x=>if x=500009 then [5] else []),fun _=>none,fun _=>none,fun _=>none,fun _=>none⟩
def qQh:Code:=cO Tryz.f129
def qTR:Array ResultVar:=Tryz.f129.results
theorem qQi (n:Nat) (s0:LU) (o0:Lab) (cutset1:LU) (o1:Lab):evFnP qQg n qQh qTR [db s0 o0,df cutset1 o1]=qCU n s0 cutset1:=by
 kernel_rfl
theorem qpK:qe G Tryz.prog 129 s_z129:=by
 refine qB G_stays (E:=qQg) (fn:=Tryz.f129) (c:=qQh) (qj rfl qbd) (fun w S hg=>⟨⟨(qa (qpI w S hg) (qa (qjp w S hg) (qa (qpJ w S hg) (qa (qpC w S hg) (qa (qAQ w S hg) (qa (qAS w S hg) (qa (qAv w S hg) qc))))))),fun f sp h=>qac f sp h w S⟩,qai w S hg,(fun _ _ h=>by cases h),(fun f sp h=>qaC f sp h),(fun f it h=>qaD f it h),(fun t kt vt h=>qah t kt vt h)⟩) follows Tryz.func129 (by kernel_rfl) (by kernel_rfl) (by kernel_rfl) ?_;intro avs r h;unfold s_z129 at h;split at h
 ·obtain ⟨hp,rfl⟩:=yj h;obtain ⟨n,hn⟩:=qIs _ _ hp;exact ⟨n,_,(qQi n _ _ _ _).trans hn,.inl rfl⟩
 ·cases h
def qQj:EnvP:=eQ [(83,s_z83),(129,s_z129)] 6 (some [2]) nC nC nP
def qQk:Code:=cO Tryz.f119
def qTS:Array ResultVar:=Tryz.f119.results
theorem qQl (n:Nat) (s0:LU) (o0:Lab):evFnP qQj n qQk qTS [db s0 o0]=qCW n s0:=by
 kernel_rfl
theorem qAT:qe G Tryz.prog 119 s_z119:=by
 refine sQ (E:=qQj) (c:=qQk) rfl (fun w S hg=>(qa (qii w S hg) (qa (qpK w S hg) qc))) Tryz.func119 ?_;intro avs r h;unfold s_z119 at h;split at h
 ·obtain ⟨hp,rfl⟩:=yj h;obtain ⟨n,hn⟩:=qID _ hp;exact ⟨n,_,(qQl n _ _).trans hn,.inl rfl⟩
 ·cases h
def E_z88:EnvP:=eQ [(91,s_z91),(119,s_z119)] 13 (some [2]) nC nC nP
def C_z88:Code:=cO Tryz.f88
def R_z88:Array ResultVar:=Tryz.f88.results
theorem qTT (n:Nat) (s0:LU) (o0:Lab):evFnP E_z88 n C_z88 R_z88 [db s0 o0]=qMs n s0:=by
 kernel_rfl
theorem qGv:qe G Tryz.prog 88 s_z88:=by
 refine sQ (E:=E_z88) (c:=C_z88) rfl (fun w S hg=>(qa (quz w S hg) (qa (qAT w S hg) qc))) Tryz.func88 ?_;intro avs r h;unfold s_z88 at h;split at h
 ·obtain ⟨hp,rfl⟩:=yj h;obtain ⟨n,hn⟩:=qNS _ hp;exact ⟨n,_,(qTT n _ _).trans hn,.inl rfl⟩
 ·cases h
def E_z53:EnvP:=⟨⟨tiOf tis,fnsOf [(87,s_z87),(88,s_z88)],cnsOf [],[],18,(fun _=>none),(fun _=>none),some [2,3]⟩,fun _=>none,fun _=>none,fun _=>[],fun _=>none,(fun x=>if x=86 then some s_z86 else none),fun _=>none,(fun x=>if x=99 then some (9,3) else none)⟩
def C_z53:Code:=cO Tryz.f53
def R_z53:Array ResultVar:=Tryz.f53.results
theorem qTU (n:Nat) (s0:LU) (o0:Lab):evFnP E_z53 n C_z53 R_z53 [db s0 o0]=qMt n s0:=by
 kernel_rfl
theorem quF:qe G Tryz.prog 53 s_z53:=by
 refine qB G_stays (E:=E_z53) (fn:=Tryz.f53) (c:=C_z53) (qj rfl qbd) (fun w S hg=>⟨⟨(qa (quB w S hg) (qa (qGv w S hg) qc)),fun f sp h=>qac f sp h w S⟩,qai w S hg,(fun _ _ h=>by cases h),(fun f sp h=>(qyX (qGu w S hg) qaC) f sp h),(fun f it h=>qaD f it h),(fun t kt vt h=>(qyY (by kernel_rfl) qah) t kt vt h)⟩) follows Tryz.func53 (by kernel_rfl) (by kernel_rfl) (by kernel_rfl) ?_;intro avs r h;unfold s_z53 at h;split at h
 ·obtain ⟨hp,rfl⟩:=yj h;obtain ⟨n,hn⟩:=qNT _ hp;exact ⟨n,_,(qTU n _ _).trans hn,.inl rfl⟩
 ·cases h
def E_z52:EnvP:=eQ [(53,s_z53)] 14 (some [2]) nC nC nP
def C_z52:Code:=cO Tryz.f52
def R_z52:Array ResultVar:=Tryz.f52.results
theorem qTV (n:Nat) (w0:LU×(Int×(LU×Unit))) (o0:Lab):evFnP E_z52 n C_z52 R_z52 [.dat (.pair (.sl .byte) (.pair (.int .i64) (.pair (.sl .byte) .unit))) w0 o0]=qMu n w0:=by
 kernel_rfl
theorem quG:qe G Tryz.prog 52 s_z52:=by
 refine sQ (E:=E_z52) (c:=C_z52) rfl (fun w S hg=>(qa (quF w S hg) qc)) Tryz.func52 ?_;intro avs r h;unfold s_z52 at h;split at h
 ·obtain ⟨hp,rfl⟩:=yj h;obtain ⟨n,hn⟩:=qNU _ hp;exact ⟨n,_,(qTV n _ _).trans hn,.inl rfl⟩
 ·cases h
def E_z31:EnvP:=eQ [(51,s_z51),(52,s_z52)] 14 (some [2]) nC nC nP
def C_z31:Code:=cO Tryz.f31
def R_z31:Array ResultVar:=Tryz.f31.results
theorem qTW (n:Nat) (s0:LU) (o0:Lab):evFnP E_z31 n C_z31 R_z31 [db s0 o0]=qMv n s0:=by
 kernel_rfl
theorem qGw:qe G Tryz.prog 31 s_z31:=by
 refine sQ (E:=E_z31) (c:=C_z31) rfl (fun w S hg=>(qa (qij w S hg) (qa (quG w S hg) qc))) Tryz.func31 ?_;intro avs r h;unfold s_z31 at h;split at h
 ·obtain ⟨hp,rfl⟩:=yj h;obtain ⟨n,hn⟩:=qOu _ hp;exact ⟨n,_,(qTW n _ _).trans hn,.inl rfl⟩
 ·cases h
def E_z30:EnvP:=eQ [(31,s_z31)] 8 (some [9]) nC nC (fun x=>if x=3 then some (.osl 3 (.int .i64)) else if x=7 then some (.osl 3 (.int .i64)) else none)
def C_z30:Code:=cO Tryz.f30
def R_z30:Array ResultVar:=Tryz.f30.results
theorem qTX (n:Nat) (w0:LU) (o0:Lab) (x1:LI):evFnM E_z30 n C_z30 R_z30 [db w0 o0,.pbox (.osl 3 (.int .i64)) x1 none]=qMw n w0 x1:=by
 kernel_rfl
theorem qGx:qhN G Tryz.prog 30 s_z30:=by
 refine qT G_stays (E:=E_z30) (fn:=Tryz.f30) (c:=C_z30) (qj rfl qbd) (fun w S hg=>⟨⟨(qa (qGw w S hg) qc),fun f sp h=>qac f sp h w S⟩,qai w S hg,(fun _ _ h=>by cases h),(fun f sp h=>qaC f sp h),(fun f it h=>qaD f it h),(fun t kt vt h=>qah t kt vt h)⟩) follows Tryz.func30 (by kernel_rfl) (by kernel_rfl) (by kernel_rfl) ?_;intro avs r h;unfold s_z30 at h;split at h
 ·obtain ⟨hp,rfl⟩:=yj h;obtain ⟨n,hn⟩:=qMa _ _ hp;exact ⟨n,(qTX n _ _ _).trans hn⟩
 ·cases h
def qQm:EnvP:=eQ [(93,s_z93)] 21 (some [4]) nC nC nP
def qQn:Code:=cO Tryz.f166
def qTY:Array ResultVar:=Tryz.f166.results
theorem qQo (n:Nat) (s0:LU) (o0:Lab) (suffix1:LU) (o1:Lab):evFnP qQm n qQn qTY [db s0 o0,db suffix1 o1]=qDb n s0 suffix1:=by
 kernel_rfl
theorem qAU:qe G Tryz.prog 166 s_z166:=by
 refine sQ (E:=qQm) (c:=qQn) rfl (fun w S hg=>(qa (qGk w S hg) qc)) Tryz.func166 ?_;intro avs r h;unfold s_z166 at h;split at h
 ·obtain ⟨hp,rfl⟩:=yj h;obtain ⟨n,hn⟩:=qIK _ _ hp;exact ⟨n,_,(qQo n _ _ _ _).trans hn,.inl rfl⟩
 ·cases h
def qQp:EnvP:=eQ [(166,s_z166)] 16 (some [4]) nC nC nP
def qQq:Code:=cO Tryz.f143
def qTZ:Array ResultVar:=Tryz.f143.results
theorem qQr (n:Nat) (s0:LU) (o0:Lab) (suffix1:LU) (o1:Lab):evFnP qQp n qQq qTZ [db s0 o0,db suffix1 o1]=qDc n s0 suffix1:=by
 kernel_rfl
theorem qAV:qe G Tryz.prog 143 s_z143:=by
 refine sQ (E:=qQp) (c:=qQq) rfl (fun w S hg=>(qa (qAU w S hg) qc)) Tryz.func143 ?_;intro avs r h;unfold s_z143 at h;split at h
 ·obtain ⟨hp,rfl⟩:=yj h;obtain ⟨n,hn⟩:=qJa _ _ hp;exact ⟨n,_,(qQr n _ _ _ _).trans hn,.inl rfl⟩
 ·cases h
def qni:EnvP:=eQ [(143,s_z143)] 10 (some [2]) (fun x=>if x=2 then some [0,3] else none) (fun x=>if x=0 then some [0] else if x=1 then some [0,3] else none) nP
def qxy:Code:=cO Tryz.f120
def qQs:Array ResultVar:=Tryz.f120.results
noncomputable def qju (K:Ex→Fr→OA):=fun s0=>K (.exit 0) (frOf [(0,da s0)])
def qnj (n:Nat):Ex→Fr→OA:=qg 0 (qni.cutb 0) (kSeq (evCP qni (evLP qni n) (sub qxy [1,1])) (kFnP qni qQs))
def qsa (s0:LU) (s3:Int):Fr:=frOf [(0,da s0),(3,dc s3)]
theorem qAW (K:Ex→Fr→OA):∀ (n:Nat) (s0:LU) (s3:Int),evLP qni n (sub qxy [1,0,1,0,0]) K (qsa s0 s3)=qlI (qju K) n s0 s3:=by
 intro n;induction n with
 | zero=>intros; rfl
 | succ n IH =>
 intro s0 s3;have ih:(fun s0 s3=>evLP qni n (sub qxy [1,0,1,0,0]) K (qsa s0 s3))=qlI (qju K) n:=by
  funext s0 s3;exact IH s0 s3
 show _=qvD (qju K) (qlI (qju K) n) n s0 s3;rw [← ih];kernel_rfl
theorem qsb (n:Nat) (s0:LU):(qnj n) (.exit 0) (frOf [(0,da s0)])=qis n s0:=by
 kernel_rfl
theorem qQt (n:Nat) (s0:LU) (o0:Lab):evFnP qni n qxy qQs [db s0 o0]=qvE n s0:=by
 unfold qvE;rw [show qlI (qis n) n=(fun s0 s3=>evLP qni n (sub qxy [1,0,1,0,0]) (qnj n) (qsa s0 s3)) from by
  funext s0 s3;refine Eq.trans ?_ (qAW (qnj n) n s0 s3).symm;rw [show (qju (qnj n))=(qis n) from by
   funext s0;exact qsb n s0]
  all_goals kernel_rfl]
 kernel_rfl
theorem qAX:qe G Tryz.prog 120 s_z120:=by
 refine sQ (E:=qni) (c:=qxy) rfl (fun w S hg=>(qa (qAV w S hg) qc)) Tryz.func120 ?_;intro avs r h;unfold s_z120 at h;split at h
 ·obtain ⟨hp,rfl⟩:=yj h;obtain ⟨n,hn⟩:=qJb _ hp;exact ⟨n,_,(qQt n _ _).trans hn,.inl rfl⟩
 ·cases h
def qQu:EnvP:=eQ [(126,s_z126)] 11 (some [2,3]) nC nC nP
def qQv:Code:=cO Tryz.f121
def qUa:Array ResultVar:=Tryz.f121.results
theorem qQw (n:Nat) (c0:UInt8) (o0:Lab):evFnP qQu n qQv qUa [dn c0 o0]=qKi n c0:=by
 kernel_rfl
theorem qpL:qe G Tryz.prog 121 s_z121:=by
 refine sQ (E:=qQu) (c:=qQv) rfl (fun w S hg=>(qa (qpG w S hg) qc)) Tryz.func121 ?_;intro avs r h;unfold s_z121 at h;split at h <;> cases h
 obtain ⟨n,hn⟩:=qIY _;exact ⟨n,_,(qQw n _ _).trans hn,.inl rfl⟩
def E_z89:EnvP:=eQ [(120,s_z120),(121,s_z121)] 57 (some [2,3]) (fun x=>if x=4 then some [0,4,5,6,12,13,14] else none) (fun x=>if x=0 then some [0,4,5] else if x=1 then some [0,4,5,6,12,13,14] else if x=2 then some [4] else none) nP
def C_z89:Code:=cO Tryz.f89
def R_z89:Array ResultVar:=Tryz.f89.results
noncomputable def qpM (K:Ex→Fr→OA):=fun s0 out4 held5=>K (.exit 0) (frOf [(0,da s0),(4,(db out4 (some (4,5)))),(5,dc held5)])
noncomputable def quH (K:Ex→Fr→OA):=fun s2 s3=>K .ret (frOf [(2,(db s2 (some (2,5)))),(3,dc s3)])
def quI (n:Nat):Ex→Fr→OA:=qg 0 (E_z89.cutb 0) (kSeq (evCP E_z89 (evLP E_z89 n) (sub C_z89 [1,1,1,1])) (kFnP E_z89 R_z89))
def qAY (s0:LU) (out4:LU) (held5:Int) (many6:Int) (s12:LU) (s13:Int) (s14:Int):Fr:=frOf [(0,da s0),(4,(db out4 (some (4,5)))),(5,dc held5),(6,dc many6),(12,da s12),(13,dc s13),(14,dc s14)]
theorem qGy (K:Ex→Fr→OA):∀ (n:Nat) (s0:LU) (out4:LU) (held5:Int) (many6:Int) (s12:LU) (s13:Int) (s14:Int),evLP E_z89 n (sub C_z89 [1,1,1,0,1,0,0]) K (qAY s0 out4 held5 many6 s12 s13 s14)=qld (quH K) (qpM K) n s0 out4 held5 many6 s12 s13 s14:=by
 intro n;induction n with
 | zero=>intros; rfl
 | succ n IH =>
 intro s0 out4 held5 many6 s12 s13 s14;have ih:(fun s0 out4 held5 many6 s12 s13 s14=>evLP E_z89 n (sub C_z89 [1,1,1,0,1,0,0]) K (qAY s0 out4 held5 many6 s12 s13 s14))=qld (quH K) (qpM K) n:=by
  funext s0 out4 held5 many6 s12 s13 s14;exact IH s0 out4 held5 many6 s12 s13 s14
 show _=qgG (quH K) (qpM K) (qld (quH K) (qpM K) n) n s0 out4 held5 many6 s12 s13 s14;rw [← ih];kernel_rfl
theorem qxz (n:Nat) (s0:LU) (out4:LU) (held5:Int):(quI n) (.exit 0) (frOf [(0,da s0),(4,(db out4 (some (4,5)))),(5,dc held5)])=qcX n s0 out4 held5:=by
 kernel_rfl
theorem qUb (n:Nat) (s0:LU) (o0:Lab):evFnP E_z89 n C_z89 R_z89 [db s0 o0]=qHT n s0:=by
 unfold qHT;rw [show qld qch (qcX n) n=(fun s0 out4 held5 many6 s12 s13 s14=>evLP E_z89 n (sub C_z89 [1,1,1,0,1,0,0]) (quI n) (qAY s0 out4 held5 many6 s12 s13 s14)) from by
  funext s0 out4 held5 many6 s12 s13 s14;refine Eq.trans ?_ (qGy (quI n) n s0 out4 held5 many6 s12 s13 s14).symm;rw [show (qpM (quI n))=(qcX n) from by
   funext s0 out4 held5;exact qxz n s0 out4 held5]
  all_goals kernel_rfl]
 kernel_rfl
theorem qGz:qe G Tryz.prog 89 s_z89:=by
 refine sQ (E:=E_z89) (c:=C_z89) rfl (fun w S hg=>(qa (qAX w S hg) (qa (qpL w S hg) qc))) Tryz.func89 ?_;intro avs r h;unfold s_z89 at h;split at h
 ·obtain ⟨hp,rfl⟩:=yj h;obtain ⟨n,hn⟩:=qNL _ hp;exact ⟨n,_,(qUb n _ _).trans hn,.inl rfl⟩
 ·cases h
def E_z54:EnvP:=eQ [(89,s_z89)] 12 (some [2]) nC nC nP
def C_z54:Code:=cO Tryz.f54
def R_z54:Array ResultVar:=Tryz.f54.results
theorem qUc (n:Nat) (s0:LU) (o0:Lab):evFnP E_z54 n C_z54 R_z54 [db s0 o0]=qMx n s0:=by
 kernel_rfl
theorem qGA:qe G Tryz.prog 54 s_z54:=by
 refine sQ (E:=E_z54) (c:=C_z54) rfl (fun w S hg=>(qa (qGz w S hg) qc)) Tryz.func54 ?_;intro avs r h;unfold s_z54 at h;split at h
 ·obtain ⟨hp,rfl⟩:=yj h;obtain ⟨n,hn⟩:=qNM _ hp;exact ⟨n,_,(qUc n _ _).trans hn,.inl rfl⟩
 ·cases h
def qQx:EnvP:=eQ [(36,s_z36),(118,s_z118)] 23 (some [2,3]) nC (fun x=>if x=0 then some [] else none) nP
def qQy:Code:=cO Tryz.f175
def qUd:Array ResultVar:=Tryz.f175.results
theorem qQz (n:Nat) (c0:UInt8) (o0:Lab):evFnP qQx n qQy qUd [dn c0 o0]=qDd n c0:=by
 kernel_rfl
theorem qAZ:qe G Tryz.prog 175 s_z175:=by
 refine sQ (E:=qQx) (c:=qQy) rfl (fun w S hg=>(qa (qmU w S hg) (qa (qpE w S hg) qc))) Tryz.func175 ?_;intro avs r h;unfold s_z175 at h;split at h <;> cases h
 obtain ⟨n,hn⟩:=qIF _;exact ⟨n,_,(qQz n _ _).trans hn,.inl rfl⟩
def qQA:EnvP:=eQ [(175,s_z175)] 31 (some [4,5]) nC nC nP
def qQB:Code:=cO Tryz.f167
def qUe:Array ResultVar:=Tryz.f167.results
theorem qQC (n:Nat) (a0:UInt8) (o0:Lab) (b1:UInt8) (o1:Lab):evFnP qQA n qQB qUe [dn a0 o0,dn b1 o1]=qDe n a0 b1:=by
 kernel_rfl
theorem qBa:qe G Tryz.prog 167 s_z167:=by
 refine sQ (E:=qQA) (c:=qQB) rfl (fun w S hg=>(qa (qAZ w S hg) qc)) Tryz.func167 ?_;intro avs r h;unfold s_z167 at h;split at h <;> cases h
 obtain ⟨n,hn⟩:=qII _ _;exact ⟨n,_,(qQC n _ _ _ _).trans hn,.inl rfl⟩
def qQD:EnvP:=eQ [(167,s_z167)] 38 (some [6,7]) nC nC nP
def qQE:Code:=cO Tryz.f144
def qUf:Array ResultVar:=Tryz.f144.results
theorem qQF (n:Nat) (s0:LU) (o0:Lab) (at1:Int) (o1:Lab) (sign2:UInt8) (o2:Lab):evFnP qQD n qQE qUf [db s0 o0,de at1 o1,dn sign2 o2]=qDf n s0 at1 sign2:=by
 kernel_rfl
theorem qBb:qe G Tryz.prog 144 s_z144:=by
 refine sQ (E:=qQD) (c:=qQE) rfl (fun w S hg=>(qa (qBa w S hg) qc)) Tryz.func144 ?_;intro avs r h;unfold s_z144 at h;split at h
 ·obtain ⟨hp,rfl⟩:=yj h;obtain ⟨n,hn⟩:=qIJ _ _ _ hp;exact ⟨n,_,(qQF n _ _ _ _ _ _).trans hn,.inl rfl⟩
 ·cases h
def qnk:EnvP:=eQ [(144,s_z144)] 46 (some [2,3]) (fun x=>if x=4 then some [0,4,5,6] else none) (fun x=>if x=0 then some [4,5] else if x=1 then some [0,4,5,6] else if x=2 then some [0,4,5,6,7] else none) nP
def qxA:Code:=cO Tryz.f124
def qQG:Array ResultVar:=Tryz.f124.results
noncomputable def qjv (K:Ex→Fr→OA):=fun out4 strange5=>K (.exit 0) (frOf [(4,(db out4 (some (4,5)))),(5,dc strange5)])
def qnl (n:Nat):Ex→Fr→OA:=qg 0 (qnk.cutb 0) (kSeq (evCP qnk (evLP qnk n) (sub qxA [1,0,1,1,1,1,1])) (kFnP qnk qQG))
def qsc (s0:LU) (out4:LU) (strange5:Int) (at6:Int):Fr:=frOf [(0,da s0),(4,(db out4 (some (4,5)))),(5,dc strange5),(6,dc at6)]
theorem qBc (K:Ex→Fr→OA):∀ (n:Nat) (s0:LU) (out4:LU) (strange5:Int) (at6:Int),evLP qnk n (sub qxA [1,0,1,1,1,1,0,0,0]) K (qsc s0 out4 strange5 at6)=qjT (qjv K) n s0 out4 strange5 at6:=by
 intro n;induction n with
 | zero=>intros; rfl
 | succ n IH =>
 intro s0 out4 strange5 at6;have ih:(fun s0 out4 strange5 at6=>evLP qnk n (sub qxA [1,0,1,1,1,1,0,0,0]) K (qsc s0 out4 strange5 at6))=qjT (qjv K) n:=by
  funext s0 out4 strange5 at6;exact IH s0 out4 strange5 at6
 show _=qit (qjv K) (qjT (qjv K) n) n s0 out4 strange5 at6;rw [← ih];kernel_rfl
theorem qsd (n:Nat) (out4:LU) (strange5:Int):(qnl n) (.exit 0) (frOf [(4,(db out4 (some (4,5)))),(5,dc strange5)])=qfQ n out4 strange5:=by
 kernel_rfl
theorem qQH (n:Nat) (s0:LU) (o0:Lab):evFnP qnk n qxA qQG [db s0 o0]=qDg n s0:=by
 unfold qDg;rw [show qjT (qfQ n) n=(fun s0 out4 strange5 at6=>evLP qnk n (sub qxA [1,0,1,1,1,1,0,0,0]) (qnl n) (qsc s0 out4 strange5 at6)) from by
  funext s0 out4 strange5 at6;refine Eq.trans ?_ (qBc (qnl n) n s0 out4 strange5 at6).symm;rw [show (qjv (qnl n))=(qfQ n) from by
   funext out4 strange5;exact qsd n out4 strange5]
  all_goals kernel_rfl]
 kernel_rfl
theorem qpN:qe G Tryz.prog 124 s_z124:=by
 refine sQ (E:=qnk) (c:=qxA) rfl (fun w S hg=>(qa (qBb w S hg) qc)) Tryz.func124 ?_;intro avs r h;unfold s_z124 at h;split at h
 ·obtain ⟨hp,rfl⟩:=yj h;obtain ⟨n,hn⟩:=qJe _ hp;exact ⟨n,_,(qQH n _ _).trans hn,.inl rfl⟩
 ·cases h
def E_z92:EnvP:=eQ [(124,s_z124)] 11 (some [2]) nC nC nP
def C_z92:Code:=cO Tryz.f92
def R_z92:Array ResultVar:=Tryz.f92.results
theorem qUg (n:Nat) (s0:LU) (o0:Lab):evFnP E_z92 n C_z92 R_z92 [db s0 o0]=qMy n s0:=by
 kernel_rfl
theorem qGB:qe G Tryz.prog 92 s_z92:=by
 refine sQ (E:=E_z92) (c:=C_z92) rfl (fun w S hg=>(qa (qpN w S hg) qc)) Tryz.func92 ?_;intro avs r h;unfold s_z92 at h;split at h
 ·obtain ⟨hp,rfl⟩:=yj h;obtain ⟨n,hn⟩:=qNP _ hp;exact ⟨n,_,(qUg n _ _).trans hn,.inl rfl⟩
 ·cases h
def E_z55:EnvP:=eQ [(90,s_z90),(91,s_z91),(92,s_z92)] 16 (some [2]) nC nC nP
def C_z55:Code:=cO Tryz.f55
def R_z55:Array ResultVar:=Tryz.f55.results
theorem qUh (n:Nat) (s0:LU) (o0:Lab):evFnP E_z55 n C_z55 R_z55 [db s0 o0]=qMz n s0:=by
 kernel_rfl
theorem qGC:qe G Tryz.prog 55 s_z55:=by
 refine sQ (E:=E_z55) (c:=C_z55) rfl (fun w S hg=>(qa (quC w S hg) (qa (quz w S hg) (qa (qGB w S hg) qc)))) Tryz.func55 ?_;intro avs r h;unfold s_z55 at h;split at h
 ·obtain ⟨hp,rfl⟩:=yj h;obtain ⟨n,hn⟩:=qNQ _ hp;exact ⟨n,_,(qUh n _ _).trans hn,.inl rfl⟩
 ·cases h
def E_z33:EnvP:=eQ [(51,s_z51),(53,s_z53),(54,s_z54),(55,s_z55)] 36 (some [2]) nC nC nP
def C_z33:Code:=cO Tryz.f33
def R_z33:Array ResultVar:=Tryz.f33.results
theorem qUi (n:Nat) (s0:LU) (o0:Lab):evFnP E_z33 n C_z33 R_z33 [db s0 o0]=qMA n s0:=by
 kernel_rfl
theorem qGD:qe G Tryz.prog 33 s_z33:=by
 refine sQ (E:=E_z33) (c:=C_z33) rfl (fun w S hg=>(qa (qij w S hg) (qa (quF w S hg) (qa (qGA w S hg) (qa (qGC w S hg) qc))))) Tryz.func33 ?_;intro avs r h;unfold s_z33 at h;split at h
 ·obtain ⟨hp,rfl⟩:=yj h;obtain ⟨n,hn⟩:=qOv _ hp;exact ⟨n,_,(qUi n _ _).trans hn,.inl rfl⟩
 ·cases h
def E_z32:EnvP:=eQ [(33,s_z33)] 8 (some [9]) nC nC nP
def C_z32:Code:=cO Tryz.f32
def R_z32:Array ResultVar:=Tryz.f32.results
theorem qUj (n:Nat) (w0:LU) (o0:Lab) (x1:Int):evFnM E_z32 n C_z32 R_z32 [db w0 o0,.pbox (.leaf (.int .i64)) x1 none]=qMB n w0 x1:=by
 kernel_rfl
theorem qGE:qhN G Tryz.prog 32 s_z32:=by
 refine qT G_stays (E:=E_z32) (fn:=Tryz.f32) (c:=C_z32) (qj rfl qbd) (fun w S hg=>⟨⟨(qa (qGD w S hg) qc),fun f sp h=>qac f sp h w S⟩,qai w S hg,(fun _ _ h=>by cases h),(fun f sp h=>qaC f sp h),(fun f it h=>qaD f it h),(fun t kt vt h=>qah t kt vt h)⟩) follows Tryz.func32 (by kernel_rfl) (by kernel_rfl) (by kernel_rfl) ?_;intro avs r h;unfold s_z32 at h;split at h
 ·obtain ⟨hp,rfl⟩:=yj h;obtain ⟨n,hn⟩:=qLZ _ _ hp;exact ⟨n,(qUj n _ _ _).trans hn⟩
 ·cases h
end
end Go.Av
