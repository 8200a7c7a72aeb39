import Derived.Test.YtcbimkaeoojceaaGreatDoorPjEvG
import Derived.Test.YtcbimkaeoojceaaGreatDoorPjU
import Derived.Test.YtcbimkaeoojceaaGreatDoorProg
import Derived.KernelRfl
namespace Go.Av
set_option linter.unusedSimpArgs false
noncomputable section
open Go.Proofs
set_option maxRecDepth 100000
set_option linter.unusedVariables false
def E_z15:EnvP:=eQ [(31,s_z31),(32,s_z32)] 28 (some [2]) (fun x=>if x=3 then some [3,9,10,11] else none) (fun x=>if x=0 then some [3] else if x=1 then some [3,9,10,11] else none) nP
def C_z15:Code:=cO Tryz.f15
def R_z15:Array ResultVar:=Tryz.f15.results
noncomputable def qkG (K:Ex→Fr→Option AV):=fun l3=>K (.exit 0) (frOf [(3,(.dat (.sl (.pair (.sl .byte) (.pair (.int .i64) (.pair .bool (.pair (.sl .byte) .unit))))) l3 (some (3,59))))])
def qoe (n:Nat):Ex→Fr→Option AV:=qw 0 (E_z15.cutb 0) (kSeq (evCP E_z15 (evLP E_z15 n) (sub C_z15 [1,1,1])) (kFnP E_z15 R_z15))
def qtb (l3:List ((List UInt8)×(Int×(Bool×((List UInt8)×Unit))))) (s9:List (List UInt8)) (s10:Int) (s11:Int):Fr:=frOf [(3,(.dat (.sl (.pair (.sl .byte) (.pair (.int .i64) (.pair .bool (.pair (.sl .byte) .unit))))) l3 (some (3,59)))),(9,(.dat (.sl (.sl .byte)) s9 (some (9,22)))),(10,dc s10),(11,dc s11)]
theorem qwX (K:Ex→Fr→Option AV):∀ (n:Nat) (l3:List ((List UInt8)×(Int×(Bool×((List UInt8)×Unit))))) (s9:List (List UInt8)) (s10:Int) (s11:Int),evLP E_z15 n (sub C_z15 [1,1,0,1,0,0]) K (qtb l3 s9 s10 s11)=qmt (qkG K) n l3 s9 s10 s11:=by
 intro n;induction n with
 | zero=>intros; rfl
 | succ n IH =>
 intro l3 s9 s10 s11;have ih:(fun l3 s9 s10 s11=>evLP E_z15 n (sub C_z15 [1,1,0,1,0,0]) K (qtb l3 s9 s10 s11))=qmt (qkG K) n:=by
  funext l3 s9 s10 s11;exact IH l3 s9 s10 s11
 show _=qeI (qkG K) (qmt (qkG K) n) n l3 s9 s10 s11;rw [← ih];kernel_rfl
theorem qqe (n:Nat) (l3:List ((List UInt8)×(Int×(Bool×((List UInt8)×Unit))))):(qoe n) (.exit 0) (frOf [(3,(.dat (.sl (.pair (.sl .byte) (.pair (.int .i64) (.pair .bool (.pair (.sl .byte) .unit))))) l3 (some (3,59))))])=qeJ n l3:=by
 kernel_rfl
theorem qGz (n:Nat) (s0:List UInt8) (o0:Lab):evFnP E_z15 n C_z15 R_z15 [db s0 o0]=qxJ n s0:=by
 unfold qxJ;rw [show qmt (qeJ n) n=(fun l3 s9 s10 s11=>evLP E_z15 n (sub C_z15 [1,1,0,1,0,0]) (qoe n) (qtb l3 s9 s10 s11)) from by
  funext l3 s9 s10 s11;refine Eq.trans ?_ (qwX (qoe n) n l3 s9 s10 s11).symm;rw [show (qkG (qoe n))=(qeJ n) from by
   funext l3;exact qqe n l3]
  all_goals kernel_rfl]
 kernel_rfl
theorem qwY:ql G Tryz.prog 15 s_z15:=by
 refine sQ (E:=E_z15) (c:=C_z15) rfl (fun w S hg=>(qb (qwN w S hg) (qb (qwW w S hg) qf))) Tryz.func15 ?_;intro avs r h;unfold s_z15 at h;split at h
 ·obtain ⟨hp,rfl⟩:=yj h;obtain ⟨n,hn⟩:=qAG _ hp;exact ⟨n,_,(qGz n _ _).trans hn,.inl rfl⟩
 ·cases h
def E_z7:EnvP:=eQ [(14,s_z14),(15,s_z15)] 6 (some [2]) nC nC nP
def C_z7:Code:=cO Tryz.f7
def R_z7:Array ResultVar:=Tryz.f7.results
theorem z7_ev (n:Nat) (s0:List UInt8) (o0:Lab):evFnP E_z7 n C_z7 R_z7 [db s0 o0]=z7_sh n s0:=by
 kernel_rfl
theorem qtc:ql G Tryz.prog 7 s_z7:=by
 refine sQ (E:=E_z7) (c:=C_z7) rfl (fun w S hg=>(qb (qwG w S hg) (qb (qwY w S hg) qf))) Tryz.func7 ?_;intro avs r h;unfold s_z7 at h;split at h
 ·obtain ⟨hp,rfl⟩:=yj h;obtain ⟨n,hn⟩:=qEz _ hp;exact ⟨n,_,(z7_ev n _ _).trans hn,.inl rfl⟩
 ·cases h
def E_z10:EnvP:=eQ [] 26 (some [4]) (fun x=>if x=4 then some [0,1,5] else none) (fun x=>if x=0 then some [] else if x=1 then some [0,1,5] else none) nP
def C_z10:Code:=cO Tryz.f10
def R_z10:Array ResultVar:=Tryz.f10.results
noncomputable def qof (K:Ex→Fr→Option AV):=fun s4=>K .ret (frOf [(4,dg s4)])
def qog (n:Nat):Ex→Fr→Option AV:=qw 0 (E_z10.cutb 0) (kSeq (evCP E_z10 (evLP E_z10 n) (sub C_z10 [1,1,1])) (kFnP E_z10 R_z10))
def qtd (a0:List Int) (b1:List Int) (i5:Int):Fr:=frOf [(0,(.dat (.sl (.int .i32)) a0 none)),(1,(.dat (.sl (.int .i32)) b1 none)),(5,dc i5)]
theorem qwZ (K:Ex→Fr→Option AV):∀ (n:Nat) (a0:List Int) (b1:List Int) (i5:Int),evLP E_z10 n (sub C_z10 [1,1,0,1,0,0]) K (qtd a0 b1 i5)=qjs (qof K) (K (.exit 0) (frOf [])) n a0 b1 i5:=by
 intro n;induction n with
 | zero=>intros; rfl
 | succ n IH =>
 intro a0 b1 i5;have ih:(fun a0 b1 i5=>evLP E_z10 n (sub C_z10 [1,1,0,1,0,0]) K (qtd a0 b1 i5))=qjs (qof K) (K (.exit 0) (frOf [])) n:=by
  funext a0 b1 i5;exact IH a0 b1 i5
 show _=qeK (qof K) (K (.exit 0) (frOf [])) (qjs (qof K) (K (.exit 0) (frOf [])) n) n a0 b1 i5;rw [← ih];kernel_rfl
theorem qqf (n:Nat)  : (qog n) (.exit 0) (frOf [])=qjt n  := by
 kernel_rfl
theorem qGA (n:Nat) (a0:List Int) (o0:Lab) (b1:List Int) (o1:Lab):evFnP E_z10 n C_z10 R_z10 [.dat (.sl (.int .i32)) a0 o0,.dat (.sl (.int .i32)) b1 o1]=qxK n a0 b1:=by
 unfold qxK;rw [show qjs qhM (qjt n) n=(fun a0 b1 i5=>evLP E_z10 n (sub C_z10 [1,1,0,1,0,0]) (qog n) (qtd a0 b1 i5)) from by
  funext a0 b1 i5;refine Eq.trans ?_ (qwZ (qog n) n a0 b1 i5).symm;rw [show ((qog n) (.exit 0) (frOf []))=(qjt n) from by
   exact qqf n ]
  all_goals kernel_rfl]
 kernel_rfl
theorem qoh:ql G Tryz.prog 10 s_z10:=by
 refine sQ (E:=E_z10) (c:=C_z10) rfl (fun w S hg=>qf) Tryz.func10 ?_;intro avs r h;unfold s_z10 at h;split at h
 ·obtain ⟨hp,rfl⟩:=yj h;obtain ⟨n,hn⟩:=qCi _ _ hp;exact ⟨n,_,(qGA n _ _ _ _).trans hn,.inl rfl⟩
 ·cases h
def E_z18:EnvP:=eQ [(19,s_z19)] 8 (some [3,9]) nC nC nP
def C_z18:Code:=cO Tryz.f18
def R_z18:Array ResultVar:=Tryz.f18.results
theorem qGB (n:Nat) (p0:(List UInt8)×((List Int)×Unit)) (o0:Lab) (x1:List UInt8):evFnM E_z18 n C_z18 R_z18 [.dat (.pair (.sl .byte) (.pair (.sl (.int .i32)) .unit)) p0 o0,.pbox (.leaf (.sl .byte)) x1 none]=qBC n p0 x1:=by
 kernel_rfl
theorem qxa:qjS G Tryz.prog 18 s_z18:=by
 refine qam G_stays (E:=E_z18) (fn:=Tryz.f18) (c:=C_z18) (qo rfl qbZ) (fun w S hg=>⟨⟨(qb (qnz w S hg) qf),fun f sp h=>qaJ f sp h w S⟩,qaL w S hg,(fun _ _ h=>by cases h),(fun f sp h=>qbj f sp h),(fun f it h=>qbk f it h),(fun t kt vt h=>qaK t kt vt h)⟩) follows Tryz.func18 (by kernel_rfl) (by kernel_rfl) (by kernel_rfl) ?_;intro avs r h;unfold s_z18 at h;split at h
 ·obtain ⟨hp,rfl⟩:=yj h;obtain ⟨n,hn⟩:=qAQ _ _ hp;exact ⟨n,(qGB n _ _ _).trans hn⟩
 ·cases h
def E_z17:EnvP:=⟨⟨tiOf tis,fnsOf [],cnsOf [],[],19,(fun x=>if x=2 then some [0,1,7,8,20] else none),(fun x=>if x=0 then some [20] else if x=1 then some [0,1,7,8,20] else none),some [4,20]⟩,fun _=>none,fun _=>none,fun _=>[],(fun x=>if x=18 then some s_z18 else none),fun _=>none,fun _=>none,fun _=>none⟩
def C_z17:Code:=cO Tryz.f17
def R_z17:Array ResultVar:=Tryz.f17.results
noncomputable def qoi (K:Ex→Fr→Option AV):=fun s4 s20=>K .ret (frOf [(4,dc s4),(20,(.pbox (.leaf (.sl .byte)) s20 none))])
noncomputable def qkH (K:Ex→Fr→Option AV):=fun s20=>K (.exit 0) (frOf [(20,(.pbox (.leaf (.sl .byte)) s20 none))])
def qoj (n:Nat) (s0:List ((List UInt8)×((List Int)×Unit))) (f1:List UInt8):Ex→Fr→Option AV:=qw 0 (E_z17.cutb 0) (kSeq (evCP E_z17 (evLP E_z17 n) (sub C_z17 [1,1])) (kFnM E_z17 R_z17 [.dat (.sl (.pair (.sl .byte) (.pair (.sl (.int .i32)) .unit))) s0 none,.fn 18 [.pbox (.leaf (.sl .byte)) f1 none]]))
def qte (s0:List ((List UInt8)×((List Int)×Unit))) (s7:Int) (s8:Int) (s20:List UInt8):Fr:=frOf [(0,(.dat (.sl (.pair (.sl .byte) (.pair (.sl (.int .i32)) .unit))) s0 none)),(1,(.padr 20 [.clo 18 false])),(7,dc s7),(8,dc s8),(20,(.pbox (.leaf (.sl .byte)) s20 none))]
theorem qlW (K:Ex→Fr→Option AV):∀ (n:Nat) (s0:List ((List UInt8)×((List Int)×Unit))) (s7:Int) (s8:Int) (s20:List UInt8),evLP E_z17 n (sub C_z17 [1,0,1,0,0]) K (qte s0 s7 s8 s20)=qbQ (qoi K) (qkH K) n s0 s7 s8 s20:=by
 intro n;induction n with
 | zero=>intros; rfl
 | succ n IH =>
 intro s0 s7 s8 s20;have ih:(fun s0 s7 s8 s20=>evLP E_z17 n (sub C_z17 [1,0,1,0,0]) K (qte s0 s7 s8 s20))=qbQ (qoi K) (qkH K) n:=by
  funext s0 s7 s8 s20;exact IH s0 s7 s8 s20
 show _=qaU (qoi K) (qkH K) (qbQ (qoi K) (qkH K) n) n s0 s7 s8 s20;rw [← ih];kernel_rfl
theorem qiQ (s0:List ((List UInt8)×((List Int)×Unit))) (f1:List UInt8) (n:Nat) (s20:List UInt8):(qoj n s0 f1) (.exit 0) (frOf [(20,(.pbox (.leaf (.sl .byte)) s20 none))])=qbG n s20:=by
 kernel_rfl
theorem qxb (n:Nat) (s0:List ((List UInt8)×((List Int)×Unit))) (o0:Lab) (f1:List UInt8):evFnM E_z17 n C_z17 R_z17 [.dat (.sl (.pair (.sl .byte) (.pair (.sl (.int .i32)) .unit))) s0 o0,.fn 18 [.pbox (.leaf (.sl .byte)) f1 none]]=qju n s0 f1:=by
 unfold qju;rw [show qbQ qbF (qbG n) n=(fun s0 s7 s8 s20=>evLP E_z17 n (sub C_z17 [1,0,1,0,0]) (qoj n s0 f1) (qte s0 s7 s8 s20)) from by
  funext s0 s7 s8 s20;refine Eq.trans ?_ (qlW (qoj n s0 f1) n s0 s7 s8 s20).symm;rw [show (qkH (qoj n s0 f1))=(qbG n) from by
   funext s20;exact qiQ s0 f1 n s20]
  all_goals kernel_rfl]
 kernel_rfl
theorem qxc:qjS G Tryz.prog 17 s_z17:=by
 refine qam G_stays (E:=E_z17) (fn:=Tryz.f17) (c:=C_z17) (qo rfl qbZ) (fun w S hg=>⟨⟨qf,fun f sp h=>qaJ f sp h w S⟩,qaL w S hg,(fun f sp h=>(qcW (qxa w S hg) qfR) f sp h),(fun _ _ h=>by cases h),(fun _ _ h=>by cases h),(fun t kt vt h=>qaK t kt vt h)⟩) follows Tryz.func17 (by kernel_rfl) (by kernel_rfl) (by kernel_rfl) ?_;intro avs r h;unfold s_z17 at h;split at h
 ·obtain ⟨hp,rfl⟩:=yj h;obtain ⟨n,hn⟩:=qqn _ _ hp;exact ⟨n,(qxb n _ _ _).trans hn⟩
 ·cases h
def E_z11:EnvP:=⟨⟨tiOf tis,fnsOf [(20,s_z20)],cnsOf [],[],18,(fun _=>none),(fun _=>none),some [1000004,5]⟩,(fun x=>if x=3 then some (.leaf (.sl .byte)) else none),fun _=>none,fun _=>[],(fun x=>if x=17 then some s_z17 else none),fun _=>none,fun _=>none,fun _=>none⟩
def C_z11:Code:=cO Tryz.f11
def R_z11:Array ResultVar:=Tryz.f11.results
theorem qGC (n:Nat) (l0:List ((List UInt8)×((List Int)×Unit))) (o0:Lab) (name1:List UInt8) (o1:Lab):evFnP E_z11 n C_z11 R_z11 [.dat (.sl (.pair (.sl .byte) (.pair (.sl (.int .i32)) .unit))) l0 o0,db name1 o1]=qBD n l0 name1:=by
 kernel_rfl
theorem qok:ql G Tryz.prog 11 s_z11:=by
 refine qK G_stays (E:=E_z11) (fn:=Tryz.f11) (c:=C_z11) (qo rfl qbZ) (fun w S hg=>⟨⟨(qb (qvW w S hg) qf),fun f sp h=>qaJ f sp h w S⟩,qaL w S hg,(fun f sp h=>(qcW (qxc w S hg) qfR) f sp h),(fun f sp h=>qbj f sp h),(fun f it h=>qbk f it h),(fun t kt vt h=>qaK t kt vt h)⟩) follows Tryz.func11 (by kernel_rfl) (by kernel_rfl) (by kernel_rfl) ?_;intro avs r h;unfold s_z11 at h;split at h
 ·obtain ⟨hp,rfl⟩:=yj h;obtain ⟨n,hn⟩:=qAR _ _ hp;exact ⟨n,_,(qGC n _ _ _ _).trans hn,.inl rfl⟩
 ·cases h
def E_z5:EnvP:=eQ [(7,s_z7),(10,s_z10),(11,s_z11)] 33 (some [0]) nC nC nP
def C_z5:Code:=cO Tryz.f5
def R_z5:Array ResultVar:=Tryz.f5.results
theorem z5_ev (n:Nat)  : evFnP E_z5 n C_z5 R_z5 []=z5_sh n  := by
 kernel_rfl
theorem qAf:ql G Tryz.prog 5 s_z5:=by
 refine sQ (E:=E_z5) (c:=C_z5) rfl (fun w S hg=>(qb (qtc w S hg) (qb (qoh w S hg) (qb (qok w S hg) qf)))) Tryz.func5 ?_;intro avs r h;unfold s_z5 at h;split at h <;> cases h
 obtain ⟨n,hn⟩:=qEA;exact ⟨n,_,(z5_ev n ).trans hn,.inl rfl⟩
def E_z8:EnvP:=eQ [] 26 (some [4]) (fun x=>if x=4 then some [0,1,5] else none) (fun x=>if x=0 then some [] else if x=1 then some [0,1,5] else none) nP
def C_z8:Code:=cO Tryz.f8
def R_z8:Array ResultVar:=Tryz.f8.results
noncomputable def qxd (K:Ex→Fr→Option AV):=fun s4=>K .ret (frOf [(4,dg s4)])
def qxe (n:Nat):Ex→Fr→Option AV:=qw 0 (E_z8.cutb 0) (kSeq (evCP E_z8 (evLP E_z8 n) (sub C_z8 [1,1,1])) (kFnP E_z8 R_z8))
def qAg (a0:List UInt8) (b1:List UInt8) (i5:Int):Fr:=frOf [(0,da a0),(1,da b1),(5,dc i5)]
theorem qAh (K:Ex→Fr→Option AV):∀ (n:Nat) (a0:List UInt8) (b1:List UInt8) (i5:Int),evLP E_z8 n (sub C_z8 [1,1,0,1,0,0]) K (qAg a0 b1 i5)=z8_l4 (qxd K) (K (.exit 0) (frOf [])) n a0 b1 i5:=by
 intro n;induction n with
 | zero=>intros; rfl
 | succ n IH =>
 intro a0 b1 i5;have ih:(fun a0 b1 i5=>evLP E_z8 n (sub C_z8 [1,1,0,1,0,0]) K (qAg a0 b1 i5))=z8_l4 (qxd K) (K (.exit 0) (frOf [])) n:=by
  funext a0 b1 i5;exact IH a0 b1 i5
 show _=qhN (qxd K) (K (.exit 0) (frOf [])) (z8_l4 (qxd K) (K (.exit 0) (frOf [])) n) n a0 b1 i5;rw [← ih];kernel_rfl
theorem qtf (n:Nat)  : (qxe n) (.exit 0) (frOf [])=qoP n  := by
 kernel_rfl
theorem z8_ev (n:Nat) (a0:List UInt8) (o0:Lab) (b1:List UInt8) (o1:Lab):evFnP E_z8 n C_z8 R_z8 [db a0 o0,db b1 o1]=z8_sh n a0 b1:=by
 unfold z8_sh;rw [show z8_l4 qqt (qoP n) n=(fun a0 b1 i5=>evLP E_z8 n (sub C_z8 [1,1,0,1,0,0]) (qxe n) (qAg a0 b1 i5)) from by
  funext a0 b1 i5;refine Eq.trans ?_ (qAh (qxe n) n a0 b1 i5).symm;rw [show ((qxe n) (.exit 0) (frOf []))=(qoP n) from by
   exact qtf n ]
  all_goals kernel_rfl]
 kernel_rfl
theorem qAi:ql G Tryz.prog 8 s_z8:=by
 refine sQ (E:=E_z8) (c:=C_z8) rfl (fun w S hg=>qf) Tryz.func8 ?_;intro avs r h;unfold s_z8 at h;split at h
 ·obtain ⟨hp,rfl⟩:=yj h;obtain ⟨n,hn⟩:=qET _ _ hp;exact ⟨n,_,(z8_ev n _ _ _ _).trans hn,.inl rfl⟩
 ·cases h
def E_z34:EnvP:=eQ [] 9 (some [2]) nC nC nP
def C_z34:Code:=cO Tryz.f34
def R_z34:Array ResultVar:=Tryz.f34.results
theorem qGD (n:Nat) (c0:Int) (o0:Lab):evFnP E_z34 n C_z34 R_z34 [.dat (.int .i32) c0 o0]=qBE n c0:=by
 kernel_rfl
theorem qxf:ql G Tryz.prog 34 s_z34:=by
 refine sQ (E:=E_z34) (c:=C_z34) rfl (fun w S hg=>qf) Tryz.func34 ?_;intro avs r h;unfold s_z34 at h;split at h <;> cases h
 obtain ⟨n,hn⟩:=qBO _;exact ⟨n,_,(qGD n _ _).trans hn,.inl rfl⟩
def E_z21:EnvP:=eQ [(34,s_z34)] 14 (some [2]) nC nC nP
def C_z21:Code:=cO Tryz.f21
def R_z21:Array ResultVar:=Tryz.f21.results
theorem qGE (n:Nat) (c0:Int) (o0:Lab):evFnP E_z21 n C_z21 R_z21 [.dat (.int .i32) c0 o0]=qBF n c0:=by
 kernel_rfl
theorem qxg:ql G Tryz.prog 21 s_z21:=by
 refine sQ (E:=E_z21) (c:=C_z21) rfl (fun w S hg=>(qb (qxf w S hg) qf)) Tryz.func21 ?_;intro avs r h;unfold s_z21 at h;split at h <;> cases h
 obtain ⟨n,hn⟩:=qBP _;exact ⟨n,_,(qGE n _ _).trans hn,.inl rfl⟩
end
end Go.Av
