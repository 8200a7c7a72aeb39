import Derived.Test.YtabdohophompiaaGreatDoorPxEvH
import Derived.Test.YtabdohophompiaaGreatDoorPxN
import Derived.Test.YtabdohophompiaaGreatDoorProg
import Derived.KernelRfl
namespace Go.Av
set_option linter.unusedSimpArgs false
noncomputable section
open Go.Proofs
set_option maxRecDepth 100000
set_option linter.unusedVariables false
def E_z9:EnvP:=eQ [(22,s_z22),(23,s_z23)] 17 (some [2,3]) nC nC nP
def C_z9:Code:=cO Tryz.f9
def R_z9:Array ResultVar:=Tryz.f9.results
theorem z9_ev (n:Nat) (t0:List Int) (o0:Lab):evFnP E_z9 n C_z9 R_z9 [.dat (.sl (.int .i32)) t0 o0]=z9_sh n t0:=by
 kernel_rfl
theorem qBx:qe G Tryz.prog 9 s_z9:=by
 refine sQ (E:=E_z9) (c:=C_z9) rfl (fun w S hg=>(qa (qnG w S hg) (qa (qnV w S hg) qc))) Tryz.func9 ?_;intro avs r h;unfold s_z9 at h;split at h
 ·obtain ⟨hp,rfl⟩:=yj h;obtain ⟨n,hn⟩:=qGX _ hp;exact ⟨n,_,(z9_ev n _ _).trans hn,.inl rfl⟩
 ·cases h
def E_z11:EnvP:=eQ [] 26 (some [4]) (fun x=>if x=4 then some [0,1,5] else none) (fun x=>if x=0 then some [] else if x=1 then some [0,1,5] else none) nP
def C_z11:Code:=cO Tryz.f11
def R_z11:Array ResultVar:=Tryz.f11.results
noncomputable def qnt (K:Ex→Fr→Option AV):=fun s4=>K .ret (frOf [(4,dg s4)])
def qnu (n:Nat):Ex→Fr→Option AV:=qp 0 (E_z11.cutb 0) (kSeq (evCP E_z11 (evLP E_z11 n) (sub C_z11 [1,1,1])) (kFnP E_z11 R_z11))
def qsr (a0:List UInt8) (b1:List UInt8) (i5:Int):Fr:=frOf [(0,da a0),(1,da b1),(5,dc i5)]
theorem qwC (K:Ex→Fr→Option AV):∀ (n:Nat) (a0:List UInt8) (b1:List UInt8) (i5:Int),evLP E_z11 n (sub C_z11 [1,1,0,1,0,0]) K (qsr a0 b1 i5)=qjn (qnt K) (K (.exit 0) (frOf [])) n a0 b1 i5:=by
 intro n;induction n with
 | zero=>intros; rfl
 | succ n IH =>
 intro a0 b1 i5;have ih:(fun a0 b1 i5=>evLP E_z11 n (sub C_z11 [1,1,0,1,0,0]) K (qsr a0 b1 i5))=qjn (qnt K) (K (.exit 0) (frOf [])) n:=by
  funext a0 b1 i5;exact IH a0 b1 i5
 show _=qeZ (qnt K) (K (.exit 0) (frOf [])) (qjn (qnt K) (K (.exit 0) (frOf [])) n) n a0 b1 i5;rw [← ih];kernel_rfl
theorem qpY (n:Nat)  : (qnu n) (.exit 0) (frOf [])=qjo n  := by
 kernel_rfl
theorem qHD (n:Nat) (a0:List UInt8) (o0:Lab) (b1:List UInt8) (o1:Lab):evFnP E_z11 n C_z11 R_z11 [db a0 o0,db b1 o1]=qza n a0 b1:=by
 unfold qza;rw [show qjn qhS (qjo n) n=(fun a0 b1 i5=>evLP E_z11 n (sub C_z11 [1,1,0,1,0,0]) (qnu n) (qsr a0 b1 i5)) from by
  funext a0 b1 i5;refine Eq.trans ?_ (qwC (qnu n) n a0 b1 i5).symm;rw [show ((qnu n) (.exit 0) (frOf []))=(qjo n) from by
   exact qpY n ]
  all_goals kernel_rfl]
 kernel_rfl
theorem qnv:qe G Tryz.prog 11 s_z11:=by
 refine sQ (E:=E_z11) (c:=C_z11) rfl (fun w S hg=>qc) Tryz.func11 ?_;intro avs r h;unfold s_z11 at h;split at h
 ·obtain ⟨hp,rfl⟩:=yj h;obtain ⟨n,hn⟩:=qDr _ _ hp;exact ⟨n,_,(qHD n _ _ _ _).trans hn,.inl rfl⟩
 ·cases h
def E_z12:EnvP:=eQ [(11,s_z11)] 27 (some [4]) (fun x=>if x=4 then some [0,1,12,13] else none) (fun x=>if x=0 then some [] else if x=1 then some [0,1,12,13] else none) nP
def C_z12:Code:=cO Tryz.f12
def R_z12:Array ResultVar:=Tryz.f12.results
noncomputable def qnw (K:Ex→Fr→Option AV):=fun s4=>K .ret (frOf [(4,dg s4)])
def qnx (n:Nat):Ex→Fr→Option AV:=qp 0 (E_z12.cutb 0) (kSeq (evCP E_z12 (evLP E_z12 n) (sub C_z12 [1,1,1])) (kFnP E_z12 R_z12))
def qss (a0:List (List UInt8)) (b1:List (List UInt8)) (s12:Int) (s13:Int):Fr:=frOf [(0,(.dat (.sl (.sl .byte)) a0 none)),(1,(.dat (.sl (.sl .byte)) b1 none)),(12,dc s12),(13,dc s13)]
theorem qwD (K:Ex→Fr→Option AV):∀ (n:Nat) (a0:List (List UInt8)) (b1:List (List UInt8)) (s12:Int) (s13:Int),evLP E_z12 n (sub C_z12 [1,1,0,1,0,0]) K (qss a0 b1 s12 s13)=qkV (qnw K) (K (.exit 0) (frOf [])) n a0 b1 s12 s13:=by
 intro n;induction n with
 | zero=>intros; rfl
 | succ n IH =>
 intro a0 b1 s12 s13;have ih:(fun a0 b1 s12 s13=>evLP E_z12 n (sub C_z12 [1,1,0,1,0,0]) K (qss a0 b1 s12 s13))=qkV (qnw K) (K (.exit 0) (frOf [])) n:=by
  funext a0 b1 s12 s13;exact IH a0 b1 s12 s13
 show _=qfa (qnw K) (K (.exit 0) (frOf [])) (qkV (qnw K) (K (.exit 0) (frOf [])) n) n a0 b1 s12 s13;rw [← ih];kernel_rfl
theorem qpZ (n:Nat)  : (qnx n) (.exit 0) (frOf [])=qjp n  := by
 kernel_rfl
theorem qHE (n:Nat) (a0:List (List UInt8)) (o0:Lab) (b1:List (List UInt8)) (o1:Lab):evFnP E_z12 n C_z12 R_z12 [.dat (.sl (.sl .byte)) a0 o0,.dat (.sl (.sl .byte)) b1 o1]=qzb n a0 b1:=by
 unfold qzb;rw [show qkV qhT (qjp n) n=(fun a0 b1 s12 s13=>evLP E_z12 n (sub C_z12 [1,1,0,1,0,0]) (qnx n) (qss a0 b1 s12 s13)) from by
  funext a0 b1 s12 s13;refine Eq.trans ?_ (qwD (qnx n) n a0 b1 s12 s13).symm;rw [show ((qnx n) (.exit 0) (frOf []))=(qjp n) from by
   exact qpZ n ]
  all_goals kernel_rfl]
 kernel_rfl
theorem qny:qe G Tryz.prog 12 s_z12:=by
 refine sQ (E:=E_z12) (c:=C_z12) rfl (fun w S hg=>(qa (qnv w S hg) qc)) Tryz.func12 ?_;intro avs r h;unfold s_z12 at h;split at h
 ·obtain ⟨hp,rfl⟩:=yj h;obtain ⟨n,hn⟩:=qCs _ _ hp;exact ⟨n,_,(qHE n _ _ _ _).trans hn,.inl rfl⟩
 ·cases h
def E_z3:EnvP:=eQ [(6,s_z6),(7,s_z7),(8,s_z8),(9,s_z9),(10,s_z10),(11,s_z11),(12,s_z12)] 65 (some [4]) nC nC nP
def C_z3:Code:=cO Tryz.f3
def R_z3:Array ResultVar:=Tryz.f3.results
theorem z3_ev (n:Nat) (name0:List UInt8) (o0:Lab) (t1:List Int) (o1:Lab):evFnP E_z3 n C_z3 R_z3 [db name0 o0,.dat (.sl (.int .i32)) t1 o1]=z3_sh n name0 t1:=by
 kernel_rfl
theorem qBy:qe G Tryz.prog 3 s_z3:=by
 refine sQ (E:=E_z3) (c:=C_z3) rfl (fun w S hg=>(qa (qtj w S hg) (qa (qti w S hg) (qa (qBG w S hg) (qa (qBx w S hg) (qa (qox w S hg) (qa (qnv w S hg) (qa (qny w S hg) qc)))))))) Tryz.func3 ?_;intro avs r h;unfold s_z3 at h;split at h
 ·obtain ⟨hp,rfl⟩:=yj h;obtain ⟨n,hn⟩:=qHc _ _ hp;exact ⟨n,_,(z3_ev n _ _ _ _).trans hn,.inl rfl⟩
 ·cases h
def E_z15:EnvP:=eQ [(13,s_z13)] 15 (some [4]) nC nC nP
def C_z15:Code:=cO Tryz.f15
def R_z15:Array ResultVar:=Tryz.f15.results
theorem qHF (n:Nat) (name0:List UInt8) (o0:Lab) (t1:List Int) (o1:Lab):evFnP E_z15 n C_z15 R_z15 [db name0 o0,.dat (.sl (.int .i32)) t1 o1]=qDo n name0 t1:=by
 kernel_rfl
theorem qwE:qe G Tryz.prog 15 s_z15:=by
 refine sQ (E:=E_z15) (c:=C_z15) rfl (fun w S hg=>(qa (qfK w S hg) qc)) Tryz.func15 ?_;intro avs r h;unfold s_z15 at h;split at h
 ·obtain ⟨hp,rfl⟩:=yj h;obtain ⟨n,hn⟩:=qCr _ _ hp;exact ⟨n,_,(qHF n _ _ _ _).trans hn,.inl rfl⟩
 ·cases h
def E_z16:EnvP:=eQ [(27,s_z27),(28,s_z28)] 18 (some [4]) nC nC nP
def C_z16:Code:=cO Tryz.f16
def R_z16:Array ResultVar:=Tryz.f16.results
theorem qHG (n:Nat) (name0:List UInt8) (o0:Lab) (t1:List Int) (o1:Lab):evFnP E_z16 n C_z16 R_z16 [db name0 o0,.dat (.sl (.int .i32)) t1 o1]=qDp n name0 t1:=by
 kernel_rfl
theorem qwF:qe G Tryz.prog 16 s_z16:=by
 refine sQ (E:=E_z16) (c:=C_z16) rfl (fun w S hg=>(qa (qnZ w S hg) (qa (qob w S hg) qc))) Tryz.func16 ?_;intro avs r h;unfold s_z16 at h;split at h
 ·obtain ⟨hp,rfl⟩:=yj h;obtain ⟨n,hn⟩:=qCl _ _ hp;exact ⟨n,_,(qHG n _ _ _ _).trans hn,.inl rfl⟩
 ·cases h
def E_z17:EnvP:=eQ [(33,s_z33)] 10 (some [4]) nC nC nP
def C_z17:Code:=cO Tryz.f17
def R_z17:Array ResultVar:=Tryz.f17.results
theorem qHH (n:Nat) (name0:List UInt8) (o0:Lab) (t1:List Int) (o1:Lab):evFnP E_z17 n C_z17 R_z17 [db name0 o0,.dat (.sl (.int .i32)) t1 o1]=qDq n name0 t1:=by
 kernel_rfl
theorem qwG:qe G Tryz.prog 17 s_z17:=by
 refine sQ (E:=E_z17) (c:=C_z17) rfl (fun w S hg=>(qa (qoK w S hg) qc)) Tryz.func17 ?_;intro avs r h;unfold s_z17 at h;split at h
 ·obtain ⟨hp,rfl⟩:=yj h;obtain ⟨n,hn⟩:=qCw _ _ hp;exact ⟨n,_,(qHH n _ _ _ _).trans hn,.inl rfl⟩
 ·cases h
def E_z4:EnvP:=eQ [(6,s_z6),(12,s_z12),(13,s_z13),(14,s_z14),(15,s_z15),(16,s_z16),(17,s_z17),(18,s_z18),(19,s_z19)] 65 (some [4]) nC nC nP
def C_z4:Code:=cO Tryz.f4
def R_z4:Array ResultVar:=Tryz.f4.results
theorem z4_ev (n:Nat) (name0:List UInt8) (o0:Lab) (t1:List Int) (o1:Lab):evFnP E_z4 n C_z4 R_z4 [db name0 o0,.dat (.sl (.int .i32)) t1 o1]=z4_sh n name0 t1:=by
 kernel_rfl
theorem qBz:qe G Tryz.prog 4 s_z4:=by
 refine sQ (E:=E_z4) (c:=C_z4) rfl (fun w S hg=>(qa (qtj w S hg) (qa (qny w S hg) (qa (qfK w S hg) (qa (qoN w S hg) (qa (qwE w S hg) (qa (qwF w S hg) (qa (qwG w S hg) (qa (qnY w S hg) (qa (qoA w S hg) qc)))))))))) Tryz.func4 ?_;intro avs r h;unfold s_z4 at h;split at h
 ·obtain ⟨hp,rfl⟩:=yj h;obtain ⟨n,hn⟩:=qHd _ _ hp;exact ⟨n,_,(z4_ev n _ _ _ _).trans hn,.inl rfl⟩
 ·cases h
end
end Go.Av
