import Derived.Test.YtcbimkaeoojceaaGreatDoorPjEvB
import Derived.Test.YtcbimkaeoojceaaGreatDoorPjU
import Derived.Test.YtcbimkaeoojceaaGreatDoorProg
import Derived.KernelRfl
namespace Go.Av
set_option linter.unusedSimpArgs false
noncomputable section
open Go.Proofs
set_option maxRecDepth 100000
set_option linter.unusedVariables false
def E_z67:EnvP:=eQ [(91,s_z91),(92,s_z92)] 13 (some [2]) nC nC nP
def C_z67:Code:=cO Tryz.f67
def R_z67:Array ResultVar:=Tryz.f67.results
theorem qFB (n:Nat) (s0:List UInt8) (o0:Lab):evFnP E_z67 n C_z67 R_z67 [db s0 o0]=qBe n s0:=by
 kernel_rfl
theorem qwg:ql G Tryz.prog 67 s_z67:=by
 refine sQ (E:=E_z67) (c:=C_z67) rfl (fun w S hg=>(qb (qnA w S hg) (qb (qwf w S hg) qf))) Tryz.func67 ?_;intro avs r h;unfold s_z67 at h;split at h
 ·obtain ⟨hp,rfl⟩:=yj h;obtain ⟨n,hn⟩:=qCf _ hp;exact ⟨n,_,(qFB n _ _).trans hn,.inl rfl⟩
 ·cases h
def E_z47:EnvP:=⟨⟨tiOf tis,fnsOf [(28,s_z28),(67,s_z67)],cnsOf [],[],18,(fun _=>none),(fun _=>none),some [2,3]⟩,fun _=>none,fun _=>none,fun _=>[],fun _=>none,(fun x=>if x=66 then some s_z66 else none),fun _=>none,(fun x=>if x=97 then some (9,3) else none)⟩
def C_z47:Code:=cO Tryz.f47
def R_z47:Array ResultVar:=Tryz.f47.results
theorem qFC (n:Nat) (s0:List UInt8) (o0:Lab):evFnP E_z47 n C_z47 R_z47 [db s0 o0]=qBf n s0:=by
 kernel_rfl
theorem qwh:ql G Tryz.prog 47 s_z47:=by
 refine qK G_stays (E:=E_z47) (fn:=Tryz.f47) (c:=C_z47) (qo rfl qbZ) (fun w S hg=>⟨⟨(qb (qfz w S hg) (qb (qwg w S hg) qf)),fun f sp h=>qaJ f sp h w S⟩,qaL w S hg,(fun _ _ h=>by cases h),(fun f sp h=>(qzg (qwe w S hg) qbj) f sp h),(fun f it h=>qbk f it h),(fun t kt vt h=>(qle (by kernel_rfl) qaK) t kt vt h)⟩) follows Tryz.func47 (by kernel_rfl) (by kernel_rfl) (by kernel_rfl) ?_;intro avs r h;unfold s_z47 at h;split at h
 ·obtain ⟨hp,rfl⟩:=yj h;obtain ⟨n,hn⟩:=qCo _ hp;exact ⟨n,_,(qFC n _ _).trans hn,.inl rfl⟩
 ·cases h
def E_z94:EnvP:=eQ [] 9 (some [11]) nC nC (fun x=>if x=5 then some (.osl 5 .byte) else if x=8 then some (.osl 5 .byte) else none)
def C_z94:Code:=cO Tryz.f94
def R_z94:Array ResultVar:=Tryz.f94.results
theorem qFD (n:Nat) (c0:UInt8) (o0:Lab) (x1:Bool) (o1:Lab) (x2:List UInt8):evFnM E_z94 n C_z94 R_z94 [di c0 o0,dh x1 o1,.pbox (.osl 5 .byte) x2 none]=qBg n c0 x1 x2:=by
 kernel_rfl
theorem qwi:qjS G Tryz.prog 94 s_z94:=by
 refine qam G_stays (E:=E_z94) (fn:=Tryz.f94) (c:=C_z94) (qo rfl qbZ) (fun w S hg=>⟨⟨qf,fun f sp h=>qaJ f sp h w S⟩,qaL w S hg,(fun _ _ h=>by cases h),(fun f sp h=>qbj f sp h),(fun f it h=>qbk f it h),(fun t kt vt h=>qaK t kt vt h)⟩) follows Tryz.func94 (by kernel_rfl) (by kernel_rfl) (by kernel_rfl) ?_;intro avs r h;unfold s_z94 at h;split at h
 ·obtain ⟨hp,rfl⟩:=yj h;obtain ⟨n,hn⟩:=qAH _ _ _ hp;exact ⟨n,(qFD n _ _ _ _ _).trans hn⟩
 ·cases h
def qDu:EnvP:=eQ [] 46 (some [2]) nC (fun x=>if x=0 then some [3] else none) nP
def qDv:Code:=cO Tryz.f119
def qFE:Array ResultVar:=Tryz.f119.results
theorem qDw (n:Nat) (c0:UInt8) (o0:Lab):evFnP qDu n qDv qFE [di c0 o0]=qtT n c0:=by
 kernel_rfl
theorem qss:ql G Tryz.prog 119 s_z119:=by
 refine sQ (E:=qDu) (c:=qDv) rfl (fun w S hg=>qf) Tryz.func119 ?_;intro avs r h;unfold s_z119 at h;split at h <;> cases h
 obtain ⟨n,hn⟩:=qxM _;exact ⟨n,_,(qDw n _ _).trans hn,.inl rfl⟩
def qDx:EnvP:=eQ [(142,s_z142)] 8 (some [4]) nC nC nP
def qDy:Code:=cO Tryz.f139
def qFF:Array ResultVar:=Tryz.f139.results
theorem qDz (n:Nat) (s0:List UInt8) (o0:Lab) (c1:UInt8) (o1:Lab):evFnP qDx n qDy qFF [df s0 o0,di c1 o1]=qyL n s0 c1:=by
 kernel_rfl
theorem qst:ql G Tryz.prog 139 s_z139:=by
 refine sQ (E:=qDx) (c:=qDy) rfl (fun w S hg=>(qb (qsb w S hg) qf)) Tryz.func139 ?_;intro avs r h;unfold s_z139 at h;split at h <;> cases h
 obtain ⟨n,hn⟩:=qxN _ _;exact ⟨n,_,(qDz n _ _ _ _).trans hn,.inl rfl⟩
def qDA:EnvP:=eQ [(139,s_z139)] 8 (some [4]) nC nC nP
def qDB:Code:=cO Tryz.f133
def qFG:Array ResultVar:=Tryz.f133.results
theorem qDC (n:Nat) (s0:List UInt8) (o0:Lab) (c1:UInt8) (o1:Lab):evFnP qDA n qDB qFG [df s0 o0,di c1 o1]=qyM n s0 c1:=by
 kernel_rfl
theorem qsu:ql G Tryz.prog 133 s_z133:=by
 refine sQ (E:=qDA) (c:=qDB) rfl (fun w S hg=>(qb (qst w S hg) qf)) Tryz.func133 ?_;intro avs r h;unfold s_z133 at h;split at h <;> cases h
 obtain ⟨n,hn⟩:=qxO _ _;exact ⟨n,_,(qDC n _ _ _ _).trans hn,.inl rfl⟩
def qDD:EnvP:=eQ [(133,s_z133)] 9 (some [4]) nC nC nP
def qDE:Code:=cO Tryz.f120
def qFH:Array ResultVar:=Tryz.f120.results
theorem qDF (n:Nat) (s0:List UInt8) (o0:Lab) (c1:UInt8) (o1:Lab):evFnP qDD n qDE qFH [df s0 o0,di c1 o1]=qyN n s0 c1:=by
 kernel_rfl
theorem qsv:ql G Tryz.prog 120 s_z120:=by
 refine sQ (E:=qDD) (c:=qDE) rfl (fun w S hg=>(qb (qsu w S hg) qf)) Tryz.func120 ?_;intro avs r h;unfold s_z120 at h;split at h <;> cases h
 obtain ⟨n,hn⟩:=qxP _ _;exact ⟨n,_,(qDF n _ _ _ _).trans hn,.inl rfl⟩
def E_z99:EnvP:=eQ [(119,s_z119),(120,s_z120)] 35 (some [2]) nC nC nP
def C_z99:Code:=cO Tryz.f99
def R_z99:Array ResultVar:=Tryz.f99.results
theorem qFI (n:Nat) (c0:UInt8) (o0:Lab):evFnP E_z99 n C_z99 R_z99 [di c0 o0]=qBh n c0:=by
 kernel_rfl
theorem qwj:ql G Tryz.prog 99 s_z99:=by
 refine sQ (E:=E_z99) (c:=C_z99) rfl (fun w S hg=>(qb (qss w S hg) (qb (qsv w S hg) qf))) Tryz.func99 ?_;intro avs r h;unfold s_z99 at h;split at h <;> cases h
 obtain ⟨n,hn⟩:=qBG _;exact ⟨n,_,(qFI n _ _).trans hn,.inl rfl⟩
def E_z77:EnvP:=eQ [(99,s_z99)] 10 (some [4]) nC nC nP
def C_z77:Code:=cO Tryz.f77
def R_z77:Array ResultVar:=Tryz.f77.results
theorem qFJ (n:Nat) (c0:UInt8) (o0:Lab) (kinds1:Int) (o1:Lab):evFnP E_z77 n C_z77 R_z77 [di c0 o0,de kinds1 o1]=qER n c0 kinds1:=by
 kernel_rfl
theorem qfA:ql G Tryz.prog 77 s_z77:=by
 refine sQ (E:=E_z77) (c:=C_z77) rfl (fun w S hg=>(qb (qwj w S hg) qf)) Tryz.func77 ?_;intro avs r h;unfold s_z77 at h;split at h <;> cases h
 obtain ⟨n,hn⟩:=qBH _ _;exact ⟨n,_,(qFJ n _ _ _ _).trans hn,.inl rfl⟩
def qDG:EnvP:=eQ [(44,s_z44),(77,s_z77)] 23 (some [2,3]) nC (fun x=>if x=0 then some [] else none) nP
def qDH:Code:=cO Tryz.f138
def qFK:Array ResultVar:=Tryz.f138.results
theorem qDI (n:Nat) (c0:UInt8) (o0:Lab):evFnP qDG n qDH qFK [di c0 o0]=qtX n c0:=by
 kernel_rfl
theorem qsw:ql G Tryz.prog 138 s_z138:=by
 refine sQ (E:=qDG) (c:=qDH) rfl (fun w S hg=>(qb (qnw w S hg) (qb (qfA w S hg) qf))) Tryz.func138 ?_;intro avs r h;unfold s_z138 at h;split at h <;> cases h
 obtain ⟨n,hn⟩:=qyc _;exact ⟨n,_,(qDI n _ _).trans hn,.inl rfl⟩
def qDJ:EnvP:=eQ [(138,s_z138)] 31 (some [4,5]) nC nC nP
def qDK:Code:=cO Tryz.f130
def qFL:Array ResultVar:=Tryz.f130.results
theorem qDL (n:Nat) (a0:UInt8) (o0:Lab) (b1:UInt8) (o1:Lab):evFnP qDJ n qDK qFL [di a0 o0,di b1 o1]=qtY n a0 b1:=by
 kernel_rfl
theorem qsx:ql G Tryz.prog 130 s_z130:=by
 refine sQ (E:=qDJ) (c:=qDK) rfl (fun w S hg=>(qb (qsw w S hg) qf)) Tryz.func130 ?_;intro avs r h;unfold s_z130 at h;split at h <;> cases h
 obtain ⟨n,hn⟩:=qyd _ _;exact ⟨n,_,(qDL n _ _ _ _).trans hn,.inl rfl⟩
def qDM:EnvP:=eQ [(130,s_z130)] 38 (some [6,7]) nC nC nP
def qDN:Code:=cO Tryz.f113
def qFM:Array ResultVar:=Tryz.f113.results
theorem qDO (n:Nat) (s0:List UInt8) (o0:Lab) (at1:Int) (o1:Lab) (sign2:UInt8) (o2:Lab):evFnP qDM n qDN qFM [db s0 o0,de at1 o1,di sign2 o2]=qtZ n s0 at1 sign2:=by
 kernel_rfl
theorem qsy:ql G Tryz.prog 113 s_z113:=by
 refine sQ (E:=qDM) (c:=qDN) rfl (fun w S hg=>(qb (qsx w S hg) qf)) Tryz.func113 ?_;intro avs r h;unfold s_z113 at h;split at h
 ·obtain ⟨hp,rfl⟩:=yj h;obtain ⟨n,hn⟩:=qye _ _ _ hp;exact ⟨n,_,(qDO n _ _ _ _ _ _).trans hn,.inl rfl⟩
 ·cases h
def E_z93:EnvP:=⟨⟨tiOf tis,fnsOf [(113,s_z113)],cnsOf [],[],32,(fun x=>if x=1 then some [0,1,4,33] else none),(fun x=>if x=0 then some [33] else if x=1 then some [0,1,4,33] else none),some [33]⟩,fun _=>none,fun _=>none,fun _=>[],(fun x=>if x=94 then some s_z94 else none),fun _=>none,fun _=>none,fun _=>none⟩
def C_z93:Code:=cO Tryz.f93
def R_z93:Array ResultVar:=Tryz.f93.results
noncomputable def qkp (K:Ex→Fr→Option AV):=fun s33=>K (.exit 0) (frOf [(33,(.pbox (.osl 5 .byte) s33 none))])
def qnE (s0:List UInt8) (f1:List UInt8):Ex→Fr→Option AV:=qw 0 (E_z93.cutb 0) (kFnM E_z93 R_z93 [db s0 none,.fn 94 [.pbox (.osl 5 .byte) f1 none]])
def qsz (s0:List UInt8) (at4:Int) (s33:List UInt8):Fr:=frOf [(0,da s0),(1,(.padr 33 [.clo 94 false])),(4,dc at4),(33,(.pbox (.osl 5 .byte) s33 none))]
theorem qlO (K:Ex→Fr→Option AV):∀ (n:Nat) (s0:List UInt8) (at4:Int) (s33:List UInt8),evLP E_z93 n (sub C_z93 [1,0,0]) K (qsz s0 at4 s33)=qbO (qkp K) n s0 at4 s33:=by
 intro n;induction n with
 | zero=>intros; rfl
 | succ n IH =>
 intro s0 at4 s33;have ih:(fun s0 at4 s33=>evLP E_z93 n (sub C_z93 [1,0,0]) K (qsz s0 at4 s33))=qbO (qkp K) n:=by
  funext s0 at4 s33;exact IH s0 at4 s33
 show _=qcD (qkp K) (qbO (qkp K) n) n s0 at4 s33;rw [← ih];kernel_rfl
theorem qiJ (s0:List UInt8) (f1:List UInt8) (n:Nat) (s33:List UInt8):(qnE s0 f1) (.exit 0) (frOf [(33,(.pbox (.osl 5 .byte) s33 none))])=qbD n s33:=by
 kernel_rfl
theorem qwk (n:Nat) (s0:List UInt8) (o0:Lab) (f1:List UInt8):evFnM E_z93 n C_z93 R_z93 [db s0 o0,.fn 94 [.pbox (.osl 5 .byte) f1 none]]=qjk n s0 f1:=by
 unfold qjk;rw [show qbO (qbD n) n=(fun s0 at4 s33=>evLP E_z93 n (sub C_z93 [1,0,0]) (qnE s0 f1) (qsz s0 at4 s33)) from by
  funext s0 at4 s33;refine Eq.trans ?_ (qlO (qnE s0 f1) n s0 at4 s33).symm;rw [show (qkp (qnE s0 f1))=(qbD n) from by
   funext s33;exact qiJ s0 f1 n s33]
  all_goals kernel_rfl]
 kernel_rfl
theorem qwl:qjS G Tryz.prog 93 s_z93:=by
 refine qam G_stays (E:=E_z93) (fn:=Tryz.f93) (c:=C_z93) (qo rfl qbZ) (fun w S hg=>⟨⟨(qb (qsy w S hg) qf),fun f sp h=>qaJ f sp h w S⟩,qaL w S hg,(fun f sp h=>(qcW (qwi w S hg) qfR) f sp h),(fun _ _ h=>by cases h),(fun _ _ h=>by cases h),(fun t kt vt h=>qaK t kt vt h)⟩) follows Tryz.func93 (by kernel_rfl) (by kernel_rfl) (by kernel_rfl) ?_;intro avs r h;unfold s_z93 at h;split at h
 ·obtain ⟨hp,rfl⟩:=yj h;obtain ⟨n,hn⟩:=qqm _ _ hp;exact ⟨n,(qwk n _ _ _).trans hn⟩
 ·cases h
def E_z68:EnvP:=⟨⟨tiOf tis,fnsOf [],cnsOf [],[],8,(fun _=>none),(fun _=>none),some [2]⟩,(fun x=>if x=3 then some (.osl 5 .byte) else none),fun _=>none,fun _=>[],(fun x=>if x=93 then some s_z93 else none),fun _=>none,fun _=>none,fun _=>none⟩
def C_z68:Code:=cO Tryz.f68
def R_z68:Array ResultVar:=Tryz.f68.results
theorem qFN (n:Nat) (s0:List UInt8) (o0:Lab):evFnP E_z68 n C_z68 R_z68 [db s0 o0]=qBi n s0:=by
 kernel_rfl
theorem qwm:ql G Tryz.prog 68 s_z68:=by
 refine qK G_stays (E:=E_z68) (fn:=Tryz.f68) (c:=C_z68) (qo rfl qbZ) (fun w S hg=>⟨⟨qf,fun f sp h=>qaJ f sp h w S⟩,qaL w S hg,(fun f sp h=>(qcW (qwl w S hg) qfR) f sp h),(fun f sp h=>qbj f sp h),(fun f it h=>qbk f it h),(fun t kt vt h=>qaK t kt vt h)⟩) follows Tryz.func68 (by kernel_rfl) (by kernel_rfl) (by kernel_rfl) ?_;intro avs r h;unfold s_z68 at h;split at h
 ·obtain ⟨hp,rfl⟩:=yj h;obtain ⟨n,hn⟩:=qAI _ hp;exact ⟨n,_,(qFN n _ _).trans hn,.inl rfl⟩
 ·cases h
def E_z49:EnvP:=eQ [(68,s_z68)] 10 (some [2]) nC nC nP
def C_z49:Code:=cO Tryz.f49
def R_z49:Array ResultVar:=Tryz.f49.results
theorem qFO (n:Nat) (p0:(List UInt8)×(Int×(Bool×((List UInt8)×Unit)))) (o0:Lab):evFnP E_z49 n C_z49 R_z49 [.dat (.pair (.sl .byte) (.pair (.int .i64) (.pair .bool (.pair (.sl .byte) .unit)))) p0 o0]=qBj n p0:=by
 kernel_rfl
theorem qwn:ql G Tryz.prog 49 s_z49:=by
 refine sQ (E:=E_z49) (c:=C_z49) rfl (fun w S hg=>(qb (qwm w S hg) qf)) Tryz.func49 ?_;intro avs r h;unfold s_z49 at h;split at h
 ·obtain ⟨hp,rfl⟩:=yj h;obtain ⟨n,hn⟩:=qAJ _ hp;exact ⟨n,_,(qFO n _ _).trans hn,.inl rfl⟩
 ·cases h
end
end Go.Av
