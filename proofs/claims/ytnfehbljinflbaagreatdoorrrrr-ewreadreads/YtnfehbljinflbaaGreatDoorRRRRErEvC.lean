import Derived.Test.YtnfehbljinflbaaGreatDoorRRRRErEvB
import Derived.Test.YtnfehbljinflbaaGreatDoorRRRREtN
import Derived.Test.YtnfehbljinflbaaGreatDoorRRRRProg
import Derived.KernelRfl
namespace Go.Av
noncomputable section
open Go.Proofs
set_option maxRecDepth 100000
def qQj:EnvP:=⟨⟨tiOf tis,fnsOf [(146,s_z146),(147,s_z147),(148,s_z148),(149,s_z149),(156,s_z156),(157,s_z157),(158,s_z158)],cnsOf [],[],42,(fun _=>none),(fun _=>none),some [1000004]⟩,fun _=>none,fun _=>none,(fun x=>if x=500009 then [5] else []),fun _=>none,fun _=>none,fun _=>none,fun _=>none⟩
def qQk:Code:=cO Tryz.f129
def qTV:Array ResultVar:=Tryz.f129.results
theorem qQl (n:Nat) (s0:LU) (o0:Lab) (cutset1:LU) (o1:Lab):evFnP qQj n qQk qTV [db s0 o0,df cutset1 o1]=qCP n s0 cutset1:=by
 kernel_rfl
theorem qpF:qe G Tryz.prog 129 s_z129:=by
 refine qB G_stays (E:=qQj) (fn:=Tryz.f129) (c:=qQk) (qj rfl qbd) (fun w S hg=>⟨⟨(qa (qpD w S hg) (qa (qjp w S hg) (qa (qpE w S hg) (qa (qpx w S hg) (qa (qAM w S hg) (qa (qAO w S hg) (qa (qAr w S hg) qc))))))),fun f sp h=>qac f sp h w S⟩,qai w S hg,(fun _ _ h=>by cases h),(fun f sp h=>qaD f sp h),(fun f it h=>qaE f it h),(fun t kt vt h=>qah t kt vt h)⟩) follows Tryz.func129 (by kernel_rfl) (by kernel_rfl) (by kernel_rfl) ?_;intro avs r h;unfold s_z129 at h;split at h
 ·obtain ⟨hp,rfl⟩:=yj h;obtain ⟨n,hn⟩:=qIq _ _ hp;exact ⟨n,_,(qQl n _ _ _ _).trans hn,.inl rfl⟩
 ·cases h
def qQm:EnvP:=eQ [(83,s_z83),(129,s_z129)] 6 (some [2]) nC nC nP
def qQn:Code:=cO Tryz.f119
def qTW:Array ResultVar:=Tryz.f119.results
theorem qQo (n:Nat) (s0:LU) (o0:Lab):evFnP qQm n qQn qTW [db s0 o0]=qCR n s0:=by
 kernel_rfl
theorem qAP:qe G Tryz.prog 119 s_z119:=by
 refine sQ (E:=qQm) (c:=qQn) rfl (fun w S hg=>(qa (qij w S hg) (qa (qpF w S hg) qc))) Tryz.func119 ?_;intro avs r h;unfold s_z119 at h;split at h
 ·obtain ⟨hp,rfl⟩:=yj h;obtain ⟨n,hn⟩:=qIB _ hp;exact ⟨n,_,(qQo n _ _).trans hn,.inl rfl⟩
 ·cases h
def E_z88:EnvP:=eQ [(91,s_z91),(119,s_z119)] 13 (some [2]) nC nC nP
def C_z88:Code:=cO Tryz.f88
def R_z88:Array ResultVar:=Tryz.f88.results
theorem qTX (n:Nat) (s0:LU) (o0:Lab):evFnP E_z88 n C_z88 R_z88 [db s0 o0]=qMu n s0:=by
 kernel_rfl
theorem qGo:qe G Tryz.prog 88 s_z88:=by
 refine sQ (E:=E_z88) (c:=C_z88) rfl (fun w S hg=>(qa (qux w S hg) (qa (qAP w S hg) qc))) Tryz.func88 ?_;intro avs r h;unfold s_z88 at h;split at h
 ·obtain ⟨hp,rfl⟩:=yj h;obtain ⟨n,hn⟩:=qNV _ hp;exact ⟨n,_,(qTX n _ _).trans hn,.inl rfl⟩
 ·cases h
def E_z53:EnvP:=⟨⟨tiOf tis,fnsOf [(87,s_z87),(88,s_z88)],cnsOf [],[],18,(fun _=>none),(fun _=>none),some [2,3]⟩,fun _=>none,fun _=>none,fun _=>[],fun _=>none,(fun x=>if x=86 then some s_z86 else none),fun _=>none,(fun x=>if x=99 then some (9,3) else none)⟩
def C_z53:Code:=cO Tryz.f53
def R_z53:Array ResultVar:=Tryz.f53.results
theorem qTY (n:Nat) (s0:LU) (o0:Lab):evFnP E_z53 n C_z53 R_z53 [db s0 o0]=qMv n s0:=by
 kernel_rfl
theorem quD:qe G Tryz.prog 53 s_z53:=by
 refine qB G_stays (E:=E_z53) (fn:=Tryz.f53) (c:=C_z53) (qj rfl qbd) (fun w S hg=>⟨⟨(qa (quz w S hg) (qa (qGo w S hg) qc)),fun f sp h=>qac f sp h w S⟩,qai w S hg,(fun _ _ h=>by cases h),(fun f sp h=>(qyV (qGn w S hg) qaD) f sp h),(fun f it h=>qaE f it h),(fun t kt vt h=>(qyW (by kernel_rfl) qah) t kt vt h)⟩) follows Tryz.func53 (by kernel_rfl) (by kernel_rfl) (by kernel_rfl) ?_;intro avs r h;unfold s_z53 at h;split at h
 ·obtain ⟨hp,rfl⟩:=yj h;obtain ⟨n,hn⟩:=qNW _ hp;exact ⟨n,_,(qTY n _ _).trans hn,.inl rfl⟩
 ·cases h
def E_z52:EnvP:=eQ [(53,s_z53)] 14 (some [2]) nC nC nP
def C_z52:Code:=cO Tryz.f52
def R_z52:Array ResultVar:=Tryz.f52.results
theorem qTZ (n:Nat) (w0:LU×(Int×(LU×Unit))) (o0:Lab):evFnP E_z52 n C_z52 R_z52 [.dat (.pair (.sl .byte) (.pair (.int .i64) (.pair (.sl .byte) .unit))) w0 o0]=qMw n w0:=by
 kernel_rfl
theorem quE:qe G Tryz.prog 52 s_z52:=by
 refine sQ (E:=E_z52) (c:=C_z52) rfl (fun w S hg=>(qa (quD w S hg) qc)) Tryz.func52 ?_;intro avs r h;unfold s_z52 at h;split at h
 ·obtain ⟨hp,rfl⟩:=yj h;obtain ⟨n,hn⟩:=qNX _ hp;exact ⟨n,_,(qTZ n _ _).trans hn,.inl rfl⟩
 ·cases h
def E_z31:EnvP:=eQ [(51,s_z51),(52,s_z52)] 14 (some [2]) nC nC nP
def C_z31:Code:=cO Tryz.f31
def R_z31:Array ResultVar:=Tryz.f31.results
theorem qUa (n:Nat) (s0:LU) (o0:Lab):evFnP E_z31 n C_z31 R_z31 [db s0 o0]=qMx n s0:=by
 kernel_rfl
theorem qGp:qe G Tryz.prog 31 s_z31:=by
 refine sQ (E:=E_z31) (c:=C_z31) rfl (fun w S hg=>(qa (qik w S hg) (qa (quE w S hg) qc))) Tryz.func31 ?_;intro avs r h;unfold s_z31 at h;split at h
 ·obtain ⟨hp,rfl⟩:=yj h;obtain ⟨n,hn⟩:=qOx _ hp;exact ⟨n,_,(qUa n _ _).trans hn,.inl rfl⟩
 ·cases h
def E_z30:EnvP:=eQ [(31,s_z31)] 8 (some [9]) nC nC (fun x=>if x=3 then some (.osl 3 (.int .i64)) else if x=7 then some (.osl 3 (.int .i64)) else none)
def C_z30:Code:=cO Tryz.f30
def R_z30:Array ResultVar:=Tryz.f30.results
theorem qUb (n:Nat) (w0:LU) (o0:Lab) (x1:LI):evFnM E_z30 n C_z30 R_z30 [db w0 o0,.pbox (.osl 3 (.int .i64)) x1 none]=qMy n w0 x1:=by
 kernel_rfl
theorem qGq:qhO G Tryz.prog 30 s_z30:=by
 refine qT G_stays (E:=E_z30) (fn:=Tryz.f30) (c:=C_z30) (qj rfl qbd) (fun w S hg=>⟨⟨(qa (qGp w S hg) qc),fun f sp h=>qac f sp h w S⟩,qai w S hg,(fun _ _ h=>by cases h),(fun f sp h=>qaD f sp h),(fun f it h=>qaE f it h),(fun t kt vt h=>qah t kt vt h)⟩) follows Tryz.func30 (by kernel_rfl) (by kernel_rfl) (by kernel_rfl) ?_;intro avs r h;unfold s_z30 at h;split at h
 ·obtain ⟨hp,rfl⟩:=yj h;obtain ⟨n,hn⟩:=qMa _ _ hp;exact ⟨n,(qUb n _ _ _).trans hn⟩
 ·cases h
def qQp:EnvP:=eQ [(93,s_z93)] 21 (some [4]) nC nC nP
def qQq:Code:=cO Tryz.f166
def qUc:Array ResultVar:=Tryz.f166.results
theorem qQr (n:Nat) (s0:LU) (o0:Lab) (suffix1:LU) (o1:Lab):evFnP qQp n qQq qUc [db s0 o0,db suffix1 o1]=qCW n s0 suffix1:=by
 kernel_rfl
theorem qAQ:qe G Tryz.prog 166 s_z166:=by
 refine sQ (E:=qQp) (c:=qQq) rfl (fun w S hg=>(qa (qGd w S hg) qc)) Tryz.func166 ?_;intro avs r h;unfold s_z166 at h;split at h
 ·obtain ⟨hp,rfl⟩:=yj h;obtain ⟨n,hn⟩:=qII _ _ hp;exact ⟨n,_,(qQr n _ _ _ _).trans hn,.inl rfl⟩
 ·cases h
def qQs:EnvP:=eQ [(166,s_z166)] 16 (some [4]) nC nC nP
def qQt:Code:=cO Tryz.f143
def qUd:Array ResultVar:=Tryz.f143.results
theorem qQu (n:Nat) (s0:LU) (o0:Lab) (suffix1:LU) (o1:Lab):evFnP qQs n qQt qUd [db s0 o0,db suffix1 o1]=qCX n s0 suffix1:=by
 kernel_rfl
theorem qAR:qe G Tryz.prog 143 s_z143:=by
 refine sQ (E:=qQs) (c:=qQt) rfl (fun w S hg=>(qa (qAQ w S hg) qc)) Tryz.func143 ?_;intro avs r h;unfold s_z143 at h;split at h
 ·obtain ⟨hp,rfl⟩:=yj h;obtain ⟨n,hn⟩:=qIY _ _ hp;exact ⟨n,_,(qQu n _ _ _ _).trans hn,.inl rfl⟩
 ·cases h
def qne:EnvP:=eQ [(143,s_z143)] 10 (some [2]) (fun x=>if x=2 then some [0,3] else none) (fun x=>if x=0 then some [0] else if x=1 then some [0,3] else none) nP
def qxu:Code:=cO Tryz.f120
def qQv:Array ResultVar:=Tryz.f120.results
noncomputable def qju (K:Ex→Fr→OA):=fun s0=>K (.exit 0) (frOf [(0,da s0)])
def qnf (n:Nat):Ex→Fr→OA:=qh 0 (qne.cutb 0) (kSeq (evCP qne (evLP qne n) (sub qxu [1,1])) (kFnP qne qQv))
def qrY (s0:LU) (s3:Int):Fr:=frOf [(0,da s0),(3,dc s3)]
theorem qAS (K:Ex→Fr→OA):∀ (n:Nat) (s0:LU) (s3:Int),evLP qne n (sub qxu [1,0,1,0,0]) K (qrY s0 s3)=qlG (qju K) n s0 s3:=by
 intro n;induction n with
 | zero=>intros; rfl
 | succ n IH =>
 intro s0 s3;have ih:(fun s0 s3=>evLP qne n (sub qxu [1,0,1,0,0]) K (qrY s0 s3))=qlG (qju K) n:=by
  funext s0 s3;exact IH s0 s3
 show _=qvA (qju K) (qlG (qju K) n) n s0 s3;rw [← ih];kernel_rfl
theorem qrZ (n:Nat) (s0:LU):(qnf n) (.exit 0) (frOf [(0,da s0)])=qis n s0:=by
 kernel_rfl
theorem qQw (n:Nat) (s0:LU) (o0:Lab):evFnP qne n qxu qQv [db s0 o0]=qvB n s0:=by
 unfold qvB;rw [show qlG (qis n) n=(fun s0 s3=>evLP qne n (sub qxu [1,0,1,0,0]) (qnf n) (qrY s0 s3)) from by
  funext s0 s3;refine Eq.trans ?_ (qAS (qnf n) n s0 s3).symm;rw [show (qju (qnf n))=(qis n) from by
   funext s0;exact qrZ n s0]
  all_goals kernel_rfl]
 kernel_rfl
theorem qAT:qe G Tryz.prog 120 s_z120:=by
 refine sQ (E:=qne) (c:=qxu) rfl (fun w S hg=>(qa (qAR w S hg) qc)) Tryz.func120 ?_;intro avs r h;unfold s_z120 at h;split at h
 ·obtain ⟨hp,rfl⟩:=yj h;obtain ⟨n,hn⟩:=qIZ _ hp;exact ⟨n,_,(qQw n _ _).trans hn,.inl rfl⟩
 ·cases h
def qQx:EnvP:=eQ [(126,s_z126)] 11 (some [2,3]) nC nC nP
def qQy:Code:=cO Tryz.f121
def qUe:Array ResultVar:=Tryz.f121.results
theorem qQz (n:Nat) (c0:UInt8) (o0:Lab):evFnP qQx n qQy qUe [dn c0 o0]=qKf n c0:=by
 kernel_rfl
theorem qpG:qe G Tryz.prog 121 s_z121:=by
 refine sQ (E:=qQx) (c:=qQy) rfl (fun w S hg=>(qa (qpB w S hg) qc)) Tryz.func121 ?_;intro avs r h;unfold s_z121 at h;split at h <;> cases h
 obtain ⟨n,hn⟩:=qIW _;exact ⟨n,_,(qQz n _ _).trans hn,.inl rfl⟩
def E_z89:EnvP:=eQ [(120,s_z120),(121,s_z121)] 57 (some [2,3]) (fun x=>if x=4 then some [0,4,5,6,12,13,14] else none) (fun x=>if x=0 then some [0,4,5] else if x=1 then some [0,4,5,6,12,13,14] else if x=2 then some [4] else none) nP
def C_z89:Code:=cO Tryz.f89
def R_z89:Array ResultVar:=Tryz.f89.results
noncomputable def qpH (K:Ex→Fr→OA):=fun s0 out4 held5=>K (.exit 0) (frOf [(0,da s0),(4,(db out4 (some (4,5)))),(5,dc held5)])
noncomputable def quF (K:Ex→Fr→OA):=fun s2 s3=>K .ret (frOf [(2,(db s2 (some (2,5)))),(3,dc s3)])
def quG (n:Nat):Ex→Fr→OA:=qh 0 (E_z89.cutb 0) (kSeq (evCP E_z89 (evLP E_z89 n) (sub C_z89 [1,1,1,1])) (kFnP E_z89 R_z89))
def qAU (s0:LU) (out4:LU) (held5:Int) (many6:Int) (s12:LU) (s13:Int) (s14:Int):Fr:=frOf [(0,da s0),(4,(db out4 (some (4,5)))),(5,dc held5),(6,dc many6),(12,da s12),(13,dc s13),(14,dc s14)]
theorem qGr (K:Ex→Fr→OA):∀ (n:Nat) (s0:LU) (out4:LU) (held5:Int) (many6:Int) (s12:LU) (s13:Int) (s14:Int),evLP E_z89 n (sub C_z89 [1,1,1,0,1,0,0]) K (qAU s0 out4 held5 many6 s12 s13 s14)=qle (quF K) (qpH K) n s0 out4 held5 many6 s12 s13 s14:=by
 intro n;induction n with
 | zero=>intros; rfl
 | succ n IH =>
 intro s0 out4 held5 many6 s12 s13 s14;have ih:(fun s0 out4 held5 many6 s12 s13 s14=>evLP E_z89 n (sub C_z89 [1,1,1,0,1,0,0]) K (qAU s0 out4 held5 many6 s12 s13 s14))=qle (quF K) (qpH K) n:=by
  funext s0 out4 held5 many6 s12 s13 s14;exact IH s0 out4 held5 many6 s12 s13 s14
 show _=qgH (quF K) (qpH K) (qle (quF K) (qpH K) n) n s0 out4 held5 many6 s12 s13 s14;rw [← ih];kernel_rfl
theorem qxv (n:Nat) (s0:LU) (out4:LU) (held5:Int):(quG n) (.exit 0) (frOf [(0,da s0),(4,(db out4 (some (4,5)))),(5,dc held5)])=qcX n s0 out4 held5:=by
 kernel_rfl
theorem qUf (n:Nat) (s0:LU) (o0:Lab):evFnP E_z89 n C_z89 R_z89 [db s0 o0]=qHQ n s0:=by
 unfold qHQ;rw [show qle qch (qcX n) n=(fun s0 out4 held5 many6 s12 s13 s14=>evLP E_z89 n (sub C_z89 [1,1,1,0,1,0,0]) (quG n) (qAU s0 out4 held5 many6 s12 s13 s14)) from by
  funext s0 out4 held5 many6 s12 s13 s14;refine Eq.trans ?_ (qGr (quG n) n s0 out4 held5 many6 s12 s13 s14).symm;rw [show (qpH (quG n))=(qcX n) from by
   funext s0 out4 held5;exact qxv n s0 out4 held5]
  all_goals kernel_rfl]
 kernel_rfl
theorem qGs:qe G Tryz.prog 89 s_z89:=by
 refine sQ (E:=E_z89) (c:=C_z89) rfl (fun w S hg=>(qa (qAT w S hg) (qa (qpG w S hg) qc))) Tryz.func89 ?_;intro avs r h;unfold s_z89 at h;split at h
 ·obtain ⟨hp,rfl⟩:=yj h;obtain ⟨n,hn⟩:=qNO _ hp;exact ⟨n,_,(qUf n _ _).trans hn,.inl rfl⟩
 ·cases h
def E_z54:EnvP:=eQ [(89,s_z89)] 12 (some [2]) nC nC nP
def C_z54:Code:=cO Tryz.f54
def R_z54:Array ResultVar:=Tryz.f54.results
theorem qUg (n:Nat) (s0:LU) (o0:Lab):evFnP E_z54 n C_z54 R_z54 [db s0 o0]=qMz n s0:=by
 kernel_rfl
theorem qGt:qe G Tryz.prog 54 s_z54:=by
 refine sQ (E:=E_z54) (c:=C_z54) rfl (fun w S hg=>(qa (qGs w S hg) qc)) Tryz.func54 ?_;intro avs r h;unfold s_z54 at h;split at h
 ·obtain ⟨hp,rfl⟩:=yj h;obtain ⟨n,hn⟩:=qNP _ hp;exact ⟨n,_,(qUg n _ _).trans hn,.inl rfl⟩
 ·cases h
def qQA:EnvP:=eQ [(36,s_z36),(118,s_z118)] 23 (some [2,3]) nC (fun x=>if x=0 then some [] else none) nP
def qQB:Code:=cO Tryz.f175
def qUh:Array ResultVar:=Tryz.f175.results
theorem qQC (n:Nat) (c0:UInt8) (o0:Lab):evFnP qQA n qQB qUh [dn c0 o0]=qCY n c0:=by
 kernel_rfl
theorem qAV:qe G Tryz.prog 175 s_z175:=by
 refine sQ (E:=qQA) (c:=qQB) rfl (fun w S hg=>(qa (qmQ w S hg) (qa (qpz w S hg) qc))) Tryz.func175 ?_;intro avs r h;unfold s_z175 at h;split at h <;> cases h
 obtain ⟨n,hn⟩:=qID _;exact ⟨n,_,(qQC n _ _).trans hn,.inl rfl⟩
def qQD:EnvP:=eQ [(175,s_z175)] 31 (some [4,5]) nC nC nP
def qQE:Code:=cO Tryz.f167
def qUi:Array ResultVar:=Tryz.f167.results
theorem qQF (n:Nat) (a0:UInt8) (o0:Lab) (b1:UInt8) (o1:Lab):evFnP qQD n qQE qUi [dn a0 o0,dn b1 o1]=qCZ n a0 b1:=by
 kernel_rfl
theorem qAW:qe G Tryz.prog 167 s_z167:=by
 refine sQ (E:=qQD) (c:=qQE) rfl (fun w S hg=>(qa (qAV w S hg) qc)) Tryz.func167 ?_;intro avs r h;unfold s_z167 at h;split at h <;> cases h
 obtain ⟨n,hn⟩:=qIG _ _;exact ⟨n,_,(qQF n _ _ _ _).trans hn,.inl rfl⟩
def qQG:EnvP:=eQ [(167,s_z167)] 38 (some [6,7]) nC nC nP
def qQH:Code:=cO Tryz.f144
def qUj:Array ResultVar:=Tryz.f144.results
theorem qQI (n:Nat) (s0:LU) (o0:Lab) (at1:Int) (o1:Lab) (sign2:UInt8) (o2:Lab):evFnP qQG n qQH qUj [db s0 o0,de at1 o1,dn sign2 o2]=qDa n s0 at1 sign2:=by
 kernel_rfl
theorem qAX:qe G Tryz.prog 144 s_z144:=by
 refine sQ (E:=qQG) (c:=qQH) rfl (fun w S hg=>(qa (qAW w S hg) qc)) Tryz.func144 ?_;intro avs r h;unfold s_z144 at h;split at h
 ·obtain ⟨hp,rfl⟩:=yj h;obtain ⟨n,hn⟩:=qIH _ _ _ hp;exact ⟨n,_,(qQI n _ _ _ _ _ _).trans hn,.inl rfl⟩
 ·cases h
def qng:EnvP:=eQ [(144,s_z144)] 46 (some [2,3]) (fun x=>if x=4 then some [0,4,5,6] else none) (fun x=>if x=0 then some [4,5] else if x=1 then some [0,4,5,6] else if x=2 then some [0,4,5,6,7] else none) nP
def qxw:Code:=cO Tryz.f124
def qQJ:Array ResultVar:=Tryz.f124.results
noncomputable def qjv (K:Ex→Fr→OA):=fun out4 strange5=>K (.exit 0) (frOf [(4,(db out4 (some (4,5)))),(5,dc strange5)])
def qnh (n:Nat):Ex→Fr→OA:=qh 0 (qng.cutb 0) (kSeq (evCP qng (evLP qng n) (sub qxw [1,0,1,1,1,1,1])) (kFnP qng qQJ))
def qsa (s0:LU) (out4:LU) (strange5:Int) (at6:Int):Fr:=frOf [(0,da s0),(4,(db out4 (some (4,5)))),(5,dc strange5),(6,dc at6)]
theorem qAY (K:Ex→Fr→OA):∀ (n:Nat) (s0:LU) (out4:LU) (strange5:Int) (at6:Int),evLP qng n (sub qxw [1,0,1,1,1,1,0,0,0]) K (qsa s0 out4 strange5 at6)=qjT (qjv K) n s0 out4 strange5 at6:=by
 intro n;induction n with
 | zero=>intros; rfl
 | succ n IH =>
 intro s0 out4 strange5 at6;have ih:(fun s0 out4 strange5 at6=>evLP qng n (sub qxw [1,0,1,1,1,1,0,0,0]) K (qsa s0 out4 strange5 at6))=qjT (qjv K) n:=by
  funext s0 out4 strange5 at6;exact IH s0 out4 strange5 at6
 show _=qit (qjv K) (qjT (qjv K) n) n s0 out4 strange5 at6;rw [← ih];kernel_rfl
theorem qsb (n:Nat) (out4:LU) (strange5:Int):(qnh n) (.exit 0) (frOf [(4,(db out4 (some (4,5)))),(5,dc strange5)])=qfR n out4 strange5:=by
 kernel_rfl
theorem qQK (n:Nat) (s0:LU) (o0:Lab):evFnP qng n qxw qQJ [db s0 o0]=qDb n s0:=by
 unfold qDb;rw [show qjT (qfR n) n=(fun s0 out4 strange5 at6=>evLP qng n (sub qxw [1,0,1,1,1,1,0,0,0]) (qnh n) (qsa s0 out4 strange5 at6)) from by
  funext s0 out4 strange5 at6;refine Eq.trans ?_ (qAY (qnh n) n s0 out4 strange5 at6).symm;rw [show (qjv (qnh n))=(qfR n) from by
   funext out4 strange5;exact qsb n out4 strange5]
  all_goals kernel_rfl]
 kernel_rfl
theorem qpI:qe G Tryz.prog 124 s_z124:=by
 refine sQ (E:=qng) (c:=qxw) rfl (fun w S hg=>(qa (qAX w S hg) qc)) Tryz.func124 ?_;intro avs r h;unfold s_z124 at h;split at h
 ·obtain ⟨hp,rfl⟩:=yj h;obtain ⟨n,hn⟩:=qJc _ hp;exact ⟨n,_,(qQK n _ _).trans hn,.inl rfl⟩
 ·cases h
def E_z92:EnvP:=eQ [(124,s_z124)] 11 (some [2]) nC nC nP
def C_z92:Code:=cO Tryz.f92
def R_z92:Array ResultVar:=Tryz.f92.results
theorem qUk (n:Nat) (s0:LU) (o0:Lab):evFnP E_z92 n C_z92 R_z92 [db s0 o0]=qMA n s0:=by
 kernel_rfl
theorem qGu:qe G Tryz.prog 92 s_z92:=by
 refine sQ (E:=E_z92) (c:=C_z92) rfl (fun w S hg=>(qa (qpI w S hg) qc)) Tryz.func92 ?_;intro avs r h;unfold s_z92 at h;split at h
 ·obtain ⟨hp,rfl⟩:=yj h;obtain ⟨n,hn⟩:=qNS _ hp;exact ⟨n,_,(qUk n _ _).trans hn,.inl rfl⟩
 ·cases h
def E_z55:EnvP:=eQ [(90,s_z90),(91,s_z91),(92,s_z92)] 16 (some [2]) nC nC nP
def C_z55:Code:=cO Tryz.f55
def R_z55:Array ResultVar:=Tryz.f55.results
theorem qUl (n:Nat) (s0:LU) (o0:Lab):evFnP E_z55 n C_z55 R_z55 [db s0 o0]=qMB n s0:=by
 kernel_rfl
theorem qGv:qe G Tryz.prog 55 s_z55:=by
 refine sQ (E:=E_z55) (c:=C_z55) rfl (fun w S hg=>(qa (quA w S hg) (qa (qux w S hg) (qa (qGu w S hg) qc)))) Tryz.func55 ?_;intro avs r h;unfold s_z55 at h;split at h
 ·obtain ⟨hp,rfl⟩:=yj h;obtain ⟨n,hn⟩:=qNT _ hp;exact ⟨n,_,(qUl n _ _).trans hn,.inl rfl⟩
 ·cases h
def E_z33:EnvP:=eQ [(51,s_z51),(53,s_z53),(54,s_z54),(55,s_z55)] 36 (some [2]) nC nC nP
def C_z33:Code:=cO Tryz.f33
def R_z33:Array ResultVar:=Tryz.f33.results
theorem qUm (n:Nat) (s0:LU) (o0:Lab):evFnP E_z33 n C_z33 R_z33 [db s0 o0]=qMC n s0:=by
 kernel_rfl
theorem qGw:qe G Tryz.prog 33 s_z33:=by
 refine sQ (E:=E_z33) (c:=C_z33) rfl (fun w S hg=>(qa (qik w S hg) (qa (quD w S hg) (qa (qGt w S hg) (qa (qGv w S hg) qc))))) Tryz.func33 ?_;intro avs r h;unfold s_z33 at h;split at h
 ·obtain ⟨hp,rfl⟩:=yj h;obtain ⟨n,hn⟩:=qOy _ hp;exact ⟨n,_,(qUm n _ _).trans hn,.inl rfl⟩
 ·cases h
def E_z32:EnvP:=eQ [(33,s_z33)] 8 (some [9]) nC nC nP
def C_z32:Code:=cO Tryz.f32
def R_z32:Array ResultVar:=Tryz.f32.results
theorem qUn (n:Nat) (w0:LU) (o0:Lab) (x1:Int):evFnM E_z32 n C_z32 R_z32 [db w0 o0,.pbox (.leaf (.int .i64)) x1 none]=qMD n w0 x1:=by
 kernel_rfl
theorem qGx:qhO G Tryz.prog 32 s_z32:=by
 refine qT G_stays (E:=E_z32) (fn:=Tryz.f32) (c:=C_z32) (qj rfl qbd) (fun w S hg=>⟨⟨(qa (qGw w S hg) qc),fun f sp h=>qac f sp h w S⟩,qai w S hg,(fun _ _ h=>by cases h),(fun f sp h=>qaD f sp h),(fun f it h=>qaE f it h),(fun t kt vt h=>qah t kt vt h)⟩) follows Tryz.func32 (by kernel_rfl) (by kernel_rfl) (by kernel_rfl) ?_;intro avs r h;unfold s_z32 at h;split at h
 ·obtain ⟨hp,rfl⟩:=yj h;obtain ⟨n,hn⟩:=qLZ _ _ hp;exact ⟨n,(qUn n _ _ _).trans hn⟩
 ·cases h
end
end Go.Av
