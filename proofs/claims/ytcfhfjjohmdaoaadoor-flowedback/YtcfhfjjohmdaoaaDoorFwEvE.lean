import Derived.Test.YtcfhfjjohmdaoaaDoorFwEvD
import Derived.Test.YtcfhfjjohmdaoaaDoorFwWalk
import Derived.Test.YtcfhfjjohmdaoaaDoorProg
import Derived.KernelRfl
namespace Go.Av
set_option linter.unusedSimpArgs false
noncomputable section
open Go.Proofs
set_option maxRecDepth 100000
set_option linter.unusedVariables false
def E_z34:EnvP:=eQ [(36,s_z36),(39,s_z39)] 35 (some [0]) nC nC nP
def C_z34:Code:=cO Tryd.f34
def R_z34:Array ResultVar:=Tryd.f34.results
theorem qxO (n:Nat)  : evFnP E_z34 n C_z34 R_z34 []=qwY n  := by
 kernel_rfl
theorem qfv:qp G Tryd.prog 34 s_z34:=by
 refine sQ (E:=E_z34) (c:=C_z34) rfl (fun w S hg=>(qb (qil w S hg) (qb (qim w S hg) ql))) Tryd.func34 ?_;intro avs r h;unfold s_z34 at h;split at h <;> cases h
 obtain ⟨n,hn⟩:=qvq;exact ⟨n,_,(qxO n ).trans hn,.inl rfl⟩
def E_z15:EnvP:=eQ [] 26 (some [4]) (fun x=>if x=4 then some [0,1,5] else none) (fun x=>if x=0 then some [] else if x=1 then some [0,1,5] else none) nP
def C_z15:Code:=cO Tryd.f15
def R_z15:Array ResultVar:=Tryd.f15.results
noncomputable def qmv (K:Ex→Fr→Option AV):=fun s4=>K .ret (frOf [(4,dg s4)])
def qmw (n:Nat):Ex→Fr→Option AV:=qL 0 (E_z15.cutb 0) (kSeq (evCP E_z15 (evLP E_z15 n) (sub C_z15 [1,1,1])) (kFnP E_z15 R_z15))
def qqr (a0:List UInt8) (b1:List UInt8) (i5:Int):Fr:=frOf [(0,da a0),(1,da b1),(5,dc i5)]
theorem qsB (K:Ex→Fr→Option AV):∀ (n:Nat) (a0:List UInt8) (b1:List UInt8) (i5:Int),evLP E_z15 n (sub C_z15 [1,1,0,1,0,0]) K (qqr a0 b1 i5)=qiN (qmv K) (K (.exit 0) (frOf [])) n a0 b1 i5:=by
 intro n;induction n with
 | zero=>intros; rfl
 | succ n IH =>
 intro a0 b1 i5;have ih:(fun a0 b1 i5=>evLP E_z15 n (sub C_z15 [1,1,0,1,0,0]) K (qqr a0 b1 i5))=qiN (qmv K) (K (.exit 0) (frOf [])) n:=by
  funext a0 b1 i5;exact IH a0 b1 i5
 show _=qey (qmv K) (K (.exit 0) (frOf [])) (qiN (qmv K) (K (.exit 0) (frOf [])) n) n a0 b1 i5;rw [← ih];kernel_rfl
theorem qnV (n:Nat)  : (qmw n) (.exit 0) (frOf [])=qiO n  := by
 kernel_rfl
theorem qxP (n:Nat) (a0:List UInt8) (o0:Lab) (b1:List UInt8) (o1:Lab):evFnP E_z15 n C_z15 R_z15 [db a0 o0,db b1 o1]=qtj n a0 b1:=by
 unfold qtj;rw [show qiN qhu (qiO n) n=(fun a0 b1 i5=>evLP E_z15 n (sub C_z15 [1,1,0,1,0,0]) (qmw n) (qqr a0 b1 i5)) from by
  funext a0 b1 i5;refine Eq.trans ?_ (qsB (qmw n) n a0 b1 i5).symm;rw [show ((qmw n) (.exit 0) (frOf []))=(qiO n) from by
   exact qnV n ]
  all_goals kernel_rfl]
 kernel_rfl
theorem qin:qp G Tryd.prog 15 s_z15:=by
 refine sQ (E:=E_z15) (c:=C_z15) rfl (fun w S hg=>ql) Tryd.func15 ?_;intro avs r h;unfold s_z15 at h;split at h
 ·obtain ⟨hp,rfl⟩:=yj h;obtain ⟨n,hn⟩:=qvQ _ _ hp;exact ⟨n,_,(qxP n _ _ _ _).trans hn,.inl rfl⟩
 ·cases h
def E_z68:EnvP:=eQ [(15,s_z15)] 17 (some [4]) nC nC nP
def C_z68:Code:=cO Tryd.f68
def R_z68:Array ResultVar:=Tryd.f68.results
theorem qxQ (n:Nat) (a0:Int×((List UInt8)×Unit)) (o0:Lab) (b1:Int×((List UInt8)×Unit)) (o1:Lab):evFnP E_z68 n C_z68 R_z68 [.dat (.pair (.int .i64) (.pair (.sl .byte) .unit)) a0 o0,.dat (.pair (.int .i64) (.pair (.sl .byte) .unit)) b1 o1]=qvJ n a0 b1:=by
 kernel_rfl
theorem qsC:qp G Tryd.prog 68 s_z68:=by
 refine sQ (E:=E_z68) (c:=C_z68) rfl (fun w S hg=>(qb (qin w S hg) ql)) Tryd.func68 ?_;intro avs r h;unfold s_z68 at h;split at h
 ·obtain ⟨hp,rfl⟩:=yj h;obtain ⟨n,hn⟩:=qve _ _ hp;exact ⟨n,_,(qxQ n _ _ _ _).trans hn,.inl rfl⟩
 ·cases h
def E_z35:EnvP:=eQ [(68,s_z68)] 27 (some [4]) (fun x=>if x=4 then some [0,1,12,13] else none) (fun x=>if x=0 then some [] else if x=1 then some [0,1,12,13] else none) nP
def C_z35:Code:=cO Tryd.f35
def R_z35:Array ResultVar:=Tryd.f35.results
noncomputable def qmx (K:Ex→Fr→Option AV):=fun s4=>K .ret (frOf [(4,dg s4)])
def qmy (n:Nat):Ex→Fr→Option AV:=qL 0 (E_z35.cutb 0) (kSeq (evCP E_z35 (evLP E_z35 n) (sub C_z35 [1,1,1])) (kFnP E_z35 R_z35))
def qqs (a0:List (Int×((List UInt8)×Unit))) (b1:List (Int×((List UInt8)×Unit))) (s12:Int) (s13:Int):Fr:=frOf [(0,(.dat (.sl (.pair (.int .i64) (.pair (.sl .byte) .unit))) a0 none)),(1,(.dat (.sl (.pair (.int .i64) (.pair (.sl .byte) .unit))) b1 none)),(12,dc s12),(13,dc s13)]
theorem qsD (K:Ex→Fr→Option AV):∀ (n:Nat) (a0:List (Int×((List UInt8)×Unit))) (b1:List (Int×((List UInt8)×Unit))) (s12:Int) (s13:Int),evLP E_z35 n (sub C_z35 [1,1,0,1,0,0]) K (qqs a0 b1 s12 s13)=qgw (qmx K) (K (.exit 0) (frOf [])) n a0 b1 s12 s13:=by
 intro n;induction n with
 | zero=>intros; rfl
 | succ n IH =>
 intro a0 b1 s12 s13;have ih:(fun a0 b1 s12 s13=>evLP E_z35 n (sub C_z35 [1,1,0,1,0,0]) K (qqs a0 b1 s12 s13))=qgw (qmx K) (K (.exit 0) (frOf [])) n:=by
  funext a0 b1 s12 s13;exact IH a0 b1 s12 s13
 show _=qez (qmx K) (K (.exit 0) (frOf [])) (qgw (qmx K) (K (.exit 0) (frOf [])) n) n a0 b1 s12 s13;rw [← ih];kernel_rfl
theorem qnW (n:Nat)  : (qmy n) (.exit 0) (frOf [])=qgx n  := by
 kernel_rfl
theorem qxR (n:Nat) (a0:List (Int×((List UInt8)×Unit))) (o0:Lab) (b1:List (Int×((List UInt8)×Unit))) (o1:Lab):evFnP E_z35 n C_z35 R_z35 [.dat (.sl (.pair (.int .i64) (.pair (.sl .byte) .unit))) a0 o0,.dat (.sl (.pair (.int .i64) (.pair (.sl .byte) .unit))) b1 o1]=qtk n a0 b1:=by
 unfold qtk;rw [show qgw qhv (qgx n) n=(fun a0 b1 s12 s13=>evLP E_z35 n (sub C_z35 [1,1,0,1,0,0]) (qmy n) (qqs a0 b1 s12 s13)) from by
  funext a0 b1 s12 s13;refine Eq.trans ?_ (qsD (qmy n) n a0 b1 s12 s13).symm;rw [show ((qmy n) (.exit 0) (frOf []))=(qgx n) from by
   exact qnW n ]
  all_goals kernel_rfl]
 kernel_rfl
theorem qmz:qp G Tryd.prog 35 s_z35:=by
 refine sQ (E:=E_z35) (c:=C_z35) rfl (fun w S hg=>(qb (qsC w S hg) ql)) Tryd.func35 ?_;intro avs r h;unfold s_z35 at h;split at h
 ·obtain ⟨hp,rfl⟩:=yj h;obtain ⟨n,hn⟩:=qvf _ _ hp;exact ⟨n,_,(qxR n _ _ _ _).trans hn,.inl rfl⟩
 ·cases h
def E_z43:EnvP:=eQ [] 18 (some [2]) (fun x=>if x=2 then some [0,3] else none) (fun x=>if x=0 then some [3] else if x=1 then some [0,3] else none) nP
def C_z43:Code:=cO Tryd.f43
def R_z43:Array ResultVar:=Tryd.f43.results
noncomputable def qjR (K:Ex→Fr→Option AV):=fun n3=>K (.exit 0) (frOf [(3,dc n3)])
def qmA (n:Nat):Ex→Fr→Option AV:=qL 0 (E_z43.cutb 0) (kSeq (evCP E_z43 (evLP E_z43 n) (sub C_z43 [1,1,1])) (kFnP E_z43 R_z43))
def qqt (l0:List UInt8) (n3:Int):Fr:=frOf [(0,da l0),(3,dc n3)]
theorem qsE (K:Ex→Fr→Option AV):∀ (n:Nat) (l0:List UInt8) (n3:Int),evLP E_z43 n (sub C_z43 [1,1,0,0,0]) K (qqt l0 n3)=qgy (qjR K) n l0 n3:=by
 intro n;induction n with
 | zero=>intros; rfl
 | succ n IH =>
 intro l0 n3;have ih:(fun l0 n3=>evLP E_z43 n (sub C_z43 [1,1,0,0,0]) K (qqt l0 n3))=qgy (qjR K) n:=by
  funext l0 n3;exact IH l0 n3
 show _=qeA (qjR K) (qgy (qjR K) n) n l0 n3;rw [← ih];kernel_rfl
theorem qnX (n:Nat) (n3:Int):(qmA n) (.exit 0) (frOf [(3,dc n3)])=qgz n n3:=by
 kernel_rfl
theorem qxS (n:Nat) (l0:List UInt8) (o0:Lab):evFnP E_z43 n C_z43 R_z43 [db l0 o0]=qtl n l0:=by
 unfold qtl;rw [show qgy (qgz n) n=(fun l0 n3=>evLP E_z43 n (sub C_z43 [1,1,0,0,0]) (qmA n) (qqt l0 n3)) from by
  funext l0 n3;refine Eq.trans ?_ (qsE (qmA n) n l0 n3).symm;rw [show (qjR (qmA n))=(qgz n) from by
   funext n3;exact qnX n n3]
  all_goals kernel_rfl]
 kernel_rfl
theorem qio:qp G Tryd.prog 43 s_z43:=by
 refine sQ (E:=E_z43) (c:=C_z43) rfl (fun w S hg=>ql) Tryd.func43 ?_;intro avs r h;unfold s_z43 at h;split at h
 ·obtain ⟨hp,rfl⟩:=yj h;obtain ⟨n,hn⟩:=qvg _ hp;exact ⟨n,_,(qxS n _ _).trans hn,.inl rfl⟩
 ·cases h
def E_z45:EnvP:=eQ [(43,s_z43)] 19 (some [2]) nC nC nP
def C_z45:Code:=cO Tryd.f45
def R_z45:Array ResultVar:=Tryd.f45.results
theorem qxT (n:Nat) (l0:List UInt8) (o0:Lab):evFnP E_z45 n C_z45 R_z45 [db l0 o0]=qvK n l0:=by
 kernel_rfl
theorem qip:qp G Tryd.prog 45 s_z45:=by
 refine sQ (E:=E_z45) (c:=C_z45) rfl (fun w S hg=>(qb (qio w S hg) ql)) Tryd.func45 ?_;intro avs r h;unfold s_z45 at h;split at h
 ·obtain ⟨hp,rfl⟩:=yj h;obtain ⟨n,hn⟩:=qvh _ hp;exact ⟨n,_,(qxT n _ _).trans hn,.inl rfl⟩
 ·cases h
def E_z47:EnvP:=eQ [(45,s_z45)] 23 (some [2]) nC nC nP
def C_z47:Code:=cO Tryd.f47
def R_z47:Array ResultVar:=Tryd.f47.results
theorem qxU (n:Nat) (l0:List UInt8) (o0:Lab):evFnP E_z47 n C_z47 R_z47 [db l0 o0]=qvL n l0:=by
 kernel_rfl
theorem qmB:qp G Tryd.prog 47 s_z47:=by
 refine sQ (E:=E_z47) (c:=C_z47) rfl (fun w S hg=>(qb (qip w S hg) ql)) Tryd.func47 ?_;intro avs r h;unfold s_z47 at h;split at h
 ·obtain ⟨hp,rfl⟩:=yj h;obtain ⟨n,hn⟩:=qvi _ hp;exact ⟨n,_,(qxU n _ _).trans hn,.inl rfl⟩
 ·cases h
end
end Go.Av
