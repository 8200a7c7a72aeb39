import Derived.Test.YtabdohophompiaaDoorPxEvC
import Derived.Test.YtabdohophompiaaDoorPxN
import Derived.Test.YtabdohophompiaaDoorProg
import Derived.KernelRfl
namespace Go.Av
set_option linter.unusedSimpArgs false
noncomputable section
open Go.Proofs
set_option maxRecDepth 100000
set_option linter.unusedVariables false
def E_z35:EnvP:=eQ [(29,s_z29)] 10 (some [2]) nC nC nP
def C_z35:Code:=cO Tryd.f35
def R_z35:Array ResultVar:=Tryd.f35.results
theorem qxN (n:Nat) (s0:List UInt8) (o0:Lab):evFnP E_z35 n C_z35 R_z35 [db s0 o0]=qup n s0:=by
 kernel_rfl
theorem qqi:qk G Tryd.prog 35 s_z35:=by
 refine sQ (E:=E_z35) (c:=C_z35) rfl (fun w S hg=>(qb (qjK w S hg) qe)) Tryd.func35 ?_;intro avs r h;unfold s_z35 at h;split at h
 ·obtain ⟨hp,rfl⟩:=yj h;obtain ⟨n,hn⟩:=qtF _ hp;exact ⟨n,_,(qxN n _ _).trans hn,.inl rfl⟩
 ·cases h
def E_z36:EnvP:=eQ [] 28 (some [2]) (fun x=>if x=3 then some [3,7,8,9] else none) (fun x=>if x=0 then some [3] else if x=1 then some [3,7,8,9] else if x=2 then some [3,7,8,9] else if x=3 then some [3,5,7,8,9] else if x=4 then some [3,5,7,8,9] else none) nP
def C_z36:Code:=cO Tryd.f36
def R_z36:Array ResultVar:=Tryd.f36.results
noncomputable def qhL (K:Ex→Fr→Option AV):=fun out3=>K (.exit 0) (frOf [(3,(db out3 (some (3,5))))])
def qjV (n:Nat):Ex→Fr→Option AV:=qL 0 (E_z36.cutb 0) (kSeq (evCP E_z36 (evLP E_z36 n) (sub C_z36 [1,1,1])) (kFnP E_z36 R_z36))
def qnn (out3:List UInt8) (s7:List UInt8) (s8:Int) (s9:Int):Fr:=frOf [(3,(db out3 (some (3,5)))),(7,da s7),(8,dc s8),(9,dc s9)]
theorem qqj (K:Ex→Fr→Option AV):∀ (n:Nat) (out3:List UInt8) (s7:List UInt8) (s8:Int) (s9:Int),evLP E_z36 n (sub C_z36 [1,1,0,1,0,0]) K (qnn out3 s7 s8 s9)=qiN (qhL K) n out3 s7 s8 s9:=by
 intro n;induction n with
 | zero=>intros; rfl
 | succ n IH =>
 intro out3 s7 s8 s9;have ih:(fun out3 s7 s8 s9=>evLP E_z36 n (sub C_z36 [1,1,0,1,0,0]) K (qnn out3 s7 s8 s9))=qiN (qhL K) n:=by
  funext out3 s7 s8 s9;exact IH out3 s7 s8 s9
 show _=qdo (qhL K) (qiN (qhL K) n) n out3 s7 s8 s9;rw [← ih];kernel_rfl
theorem qll (n:Nat) (out3:List UInt8):(qjV n) (.exit 0) (frOf [(3,(db out3 (some (3,5))))])=qce n out3:=by
 kernel_rfl
theorem qxO (n:Nat) (s0:List UInt8) (o0:Lab):evFnP E_z36 n C_z36 R_z36 [db s0 o0]=qrs n s0:=by
 unfold qrs;rw [show qiN (qce n) n=(fun out3 s7 s8 s9=>evLP E_z36 n (sub C_z36 [1,1,0,1,0,0]) (qjV n) (qnn out3 s7 s8 s9)) from by
  funext out3 s7 s8 s9;refine Eq.trans ?_ (qqj (qjV n) n out3 s7 s8 s9).symm;rw [show (qhL (qjV n))=(qce n) from by
   funext out3;exact qll n out3]
  all_goals kernel_rfl]
 kernel_rfl
theorem qqk:qk G Tryd.prog 36 s_z36:=by
 refine sQ (E:=E_z36) (c:=C_z36) rfl (fun w S hg=>qe) Tryd.func36 ?_;intro avs r h;unfold s_z36 at h;split at h
 ·obtain ⟨hp,rfl⟩:=yj h;obtain ⟨n,hn⟩:=qtE _ hp;exact ⟨n,_,(qxO n _ _).trans hn,.inl rfl⟩
 ·cases h
def E_z20:EnvP:=eQ [(19,s_z19),(35,s_z35),(36,s_z36)] 9 (some [2]) nC nC nP
def C_z20:Code:=cO Tryd.f20
def R_z20:Array ResultVar:=Tryd.f20.results
theorem qxP (n:Nat) (s0:List UInt8) (o0:Lab):evFnP E_z20 n C_z20 R_z20 [db s0 o0]=quq n s0:=by
 kernel_rfl
theorem qql:qk G Tryd.prog 20 s_z20:=by
 refine sQ (E:=E_z20) (c:=C_z20) rfl (fun w S hg=>(qb (qcG w S hg) (qb (qqi w S hg) (qb (qqk w S hg) qe)))) Tryd.func20 ?_;intro avs r h;unfold s_z20 at h;split at h
 ·obtain ⟨hp,rfl⟩:=yj h;obtain ⟨n,hn⟩:=qtG _ hp;exact ⟨n,_,(qxP n _ _).trans hn,.inl rfl⟩
 ·cases h
def E_z8:EnvP:=eQ [(17,s_z17),(18,s_z18),(19,s_z19),(20,s_z20)] 28 (some [4,5]) nC nC nP
def C_z8:Code:=cO Tryd.f8
def R_z8:Array ResultVar:=Tryd.f8.results
theorem z8_ev (n:Nat) (name0:List UInt8) (o0:Lab) (t1:List Int) (o1:Lab):evFnP E_z8 n C_z8 R_z8 [db name0 o0,.dat (.sl (.int .i32)) t1 o1]=z8_sh n name0 t1:=by
 kernel_rfl
theorem qtr:qk G Tryd.prog 8 s_z8:=by
 refine sQ (E:=E_z8) (c:=C_z8) rfl (fun w S hg=>(qb (qqe w S hg) (qb (qjU w S hg) (qb (qcG w S hg) (qb (qql w S hg) qe))))) Tryd.func8 ?_;intro avs r h;unfold s_z8 at h;split at h
 ·obtain ⟨hp,rfl⟩:=yj h;obtain ⟨n,hn⟩:=qwB _ _ hp;exact ⟨n,_,(z8_ev n _ _ _ _).trans hn,.inl rfl⟩
 ·cases h
def E_z68:EnvP:=eQ [] 10 (some [0]) nC nC nP
def C_z68:Code:=cO Tryd.f68
def R_z68:Array ResultVar:=Tryd.f68.results
theorem qxQ (n:Nat)  : evFnP E_z68 n C_z68 R_z68 []=qwV n  := by
 kernel_rfl
theorem qqm:qk G Tryd.prog 68 s_z68:=by
 refine sQ (E:=E_z68) (c:=C_z68) rfl (fun w S hg=>qe) Tryd.func68 ?_;intro avs r h;unfold s_z68 at h;split at h <;> cases h
 obtain ⟨n,hn⟩:=qva;exact ⟨n,_,(qxQ n ).trans hn,.inl rfl⟩
def E_z59:EnvP:=eQ [(68,s_z68)] 31 (some [2,3]) (fun x=>if x=2 then some [0,6,7] else none) (fun x=>if x=0 then some [0] else if x=1 then some [0,6,7] else if x=2 then some [0,6,7] else none) nP
def C_z59:Code:=cO Tryd.f59
def R_z59:Array ResultVar:=Tryd.f59.results
noncomputable def qjW (K:Ex→Fr→Option AV):=fun s2 s3=>K .ret (frOf [(2,(di s2 none)),(3,df s3)])
noncomputable def qhM (K:Ex→Fr→Option AV):=fun c0=>K (.exit 0) (frOf [(0,(dh c0 none))])
def qjX (n:Nat):Ex→Fr→Option AV:=qL 0 (E_z59.cutb 0) (kSeq (evCP E_z59 (evLP E_z59 n) (sub C_z59 [1,1])) (kFnP E_z59 R_z59))
def qno (c0:Int) (s6:List (UInt8×(Int×Unit))) (s7:Int):Fr:=frOf [(0,(dh c0 none)),(6,(.dat (.arr 8 (.pair .byte (.pair (.int .i32) .unit))) s6 none)),(7,dc s7)]
theorem qqn (K:Ex→Fr→Option AV):∀ (n:Nat) (c0:Int) (s6:List (UInt8×(Int×Unit))) (s7:Int),evLP E_z59 n (sub C_z59 [1,0,1,0,0]) K (qno c0 s6 s7)=qlD (qjW K) (qhM K) n c0 s6 s7:=by
 intro n;induction n with
 | zero=>intros; rfl
 | succ n IH =>
 intro c0 s6 s7;have ih:(fun c0 s6 s7=>evLP E_z59 n (sub C_z59 [1,0,1,0,0]) K (qno c0 s6 s7))=qlD (qjW K) (qhM K) n:=by
  funext c0 s6 s7;exact IH c0 s6 s7
 show _=qol (qjW K) (qhM K) (qlD (qjW K) (qhM K) n) n c0 s6 s7;rw [← ih];kernel_rfl
theorem qlm (n:Nat) (c0:Int):(qjX n) (.exit 0) (frOf [(0,(dh c0 none))])=qdp n c0:=by
 kernel_rfl
theorem qxR (n:Nat) (c0:Int) (o0:Lab):evFnP E_z59 n C_z59 R_z59 [dh c0 o0]=qus n c0:=by
 unfold qus;rw [show qlD qdS (qdp n) n=(fun c0 s6 s7=>evLP E_z59 n (sub C_z59 [1,0,1,0,0]) (qjX n) (qno c0 s6 s7)) from by
  funext c0 s6 s7;refine Eq.trans ?_ (qqn (qjX n) n c0 s6 s7).symm;rw [show (qhM (qjX n))=(qdp n) from by
   funext c0;exact qlm n c0]
  all_goals kernel_rfl]
 kernel_rfl
theorem qjY:qk G Tryd.prog 59 s_z59:=by
 refine sQ (E:=E_z59) (c:=C_z59) rfl (fun w S hg=>(qb (qqm w S hg) qe)) Tryd.func59 ?_;intro avs r h;unfold s_z59 at h;split at h <;> cases h
 obtain ⟨n,hn⟩:=qvq _;exact ⟨n,_,(qxR n _ _).trans hn,.inl rfl⟩
def E_z53:EnvP:=eQ [(59,s_z59)] 11 (some [2]) nC nC nP
def C_z53:Code:=cO Tryd.f53
def R_z53:Array ResultVar:=Tryd.f53.results
theorem qxS (n:Nat) (c0:Int) (o0:Lab):evFnP E_z53 n C_z53 R_z53 [dh c0 o0]=qwW n c0:=by
 kernel_rfl
theorem qqo:qk G Tryd.prog 53 s_z53:=by
 refine sQ (E:=E_z53) (c:=C_z53) rfl (fun w S hg=>(qb (qjY w S hg) qe)) Tryd.func53 ?_;intro avs r h;unfold s_z53 at h;split at h <;> cases h
 obtain ⟨n,hn⟩:=qvr _;exact ⟨n,_,(qxS n _ _).trans hn,.inl rfl⟩
def E_z69:EnvP:=⟨⟨tiOf tis,fnsOf [],cnsOf [],[],4,(fun _=>none),(fun _=>none),some [0]⟩,fun _=>none,fun _=>none,(fun x=>if x=500002 then [1] else []),fun _=>none,fun _=>none,fun _=>none,fun _=>none⟩
def C_z69:Code:=cO Tryd.f69
def R_z69:Array ResultVar:=Tryd.f69.results
theorem qxT (n:Nat)  : evFnP E_z69 n C_z69 R_z69 []=qwX n  := by
 kernel_rfl
theorem qqp:qk G Tryd.prog 69 s_z69:=by
 refine qN G_stays (E:=E_z69) (fn:=Tryd.f69) (c:=C_z69) (qq rfl qeb) (fun w S hg=>⟨⟨qe,fun f sp h=>qbr f sp h w S⟩,qfc w S hg,(fun _ _ h=>by cases h),(fun f sp h=>qfE f sp h),(fun f it h=>qfF f it h),(fun t kt vt h=>qdK t kt vt h)⟩) follows Tryd.func69 (by kernel_rfl) (by kernel_rfl) (by kernel_rfl) ?_;intro avs r h;unfold s_z69 at h;split at h <;> cases h
 obtain ⟨n,hn⟩:=qvb;exact ⟨n,_,(qxT n ).trans hn,.inl rfl⟩
def E_z61:EnvP:=eQ [(31,s_z31),(69,s_z69)] 31 (some [2,3]) nC (fun x=>if x=0 then some [0] else none) nP
def C_z61:Code:=cO Tryd.f61
def R_z61:Array ResultVar:=Tryd.f61.results
theorem qxU (n:Nat) (c0:Int) (o0:Lab):evFnP E_z61 n C_z61 R_z61 [dh c0 o0]=qut n c0:=by
 kernel_rfl
theorem qjZ:qk G Tryd.prog 61 s_z61:=by
 refine sQ (E:=E_z61) (c:=C_z61) rfl (fun w S hg=>(qb (qjP w S hg) (qb (qqp w S hg) qe))) Tryd.func61 ?_;intro avs r h;unfold s_z61 at h;split at h <;> cases h
 obtain ⟨n,hn⟩:=qvs _;exact ⟨n,_,(qxU n _ _).trans hn,.inl rfl⟩
end
end Go.Av
