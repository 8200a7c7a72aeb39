import Derived.Test.YtabdohophompiaaDoorPxEvA
import Derived.Test.YtabdohophompiaaDoorPxN
import Derived.Test.YtabdohophompiaaDoorProg
import Derived.KernelRfl
namespace Go.Av
set_option linter.unusedSimpArgs false
noncomputable section
open Go.Proofs
set_option maxRecDepth 100000
set_option linter.unusedVariables false
def E_z14:EnvP:=eQ [(29,s_z29)] 15 (some [2]) nC nC nP
def C_z14:Code:=cO Tryd.f14
def R_z14:Array ResultVar:=Tryd.f14.results
theorem qxz (n:Nat) (name0:List UInt8) (o0:Lab):evFnP E_z14 n C_z14 R_z14 [db name0 o0]=quf n name0:=by
 kernel_rfl
theorem qpU:qk G Tryd.prog 14 s_z14:=by
 refine sQ (E:=E_z14) (c:=C_z14) rfl (fun w S hg=>(qb (qjK w S hg) qe)) Tryd.func14 ?_;intro avs r h;unfold s_z14 at h;split at h
 ·obtain ⟨hp,rfl⟩:=yj h;obtain ⟨n,hn⟩:=qtO _ hp;exact ⟨n,_,(qxz n _ _).trans hn,.inl rfl⟩
 ·cases h
def E_z33:EnvP:=eQ [] 9 (some [2]) nC nC nP
def C_z33:Code:=cO Tryd.f33
def R_z33:Array ResultVar:=Tryd.f33.results
theorem qxA (n:Nat) (c0:Int) (o0:Lab):evFnP E_z33 n C_z33 R_z33 [dh c0 o0]=qug n c0:=by
 kernel_rfl
theorem qpV:qk G Tryd.prog 33 s_z33:=by
 refine sQ (E:=E_z33) (c:=C_z33) rfl (fun w S hg=>qe) Tryd.func33 ?_;intro avs r h;unfold s_z33 at h;split at h <;> cases h
 obtain ⟨n,hn⟩:=qtQ _;exact ⟨n,_,(qxA n _ _).trans hn,.inl rfl⟩
def E_z65:EnvP:=eQ [] 9 (some [2]) nC nC nP
def C_z65:Code:=cO Tryd.f65
def R_z65:Array ResultVar:=Tryd.f65.results
theorem qxB (n:Nat) (c0:Int) (o0:Lab):evFnP E_z65 n C_z65 R_z65 [dh c0 o0]=quh n c0:=by
 kernel_rfl
theorem qpW:qk G Tryd.prog 65 s_z65:=by
 refine sQ (E:=E_z65) (c:=C_z65) rfl (fun w S hg=>qe) Tryd.func65 ?_;intro avs r h;unfold s_z65 at h;split at h <;> cases h
 obtain ⟨n,hn⟩:=qvf _;exact ⟨n,_,(qxB n _ _).trans hn,.inl rfl⟩
def E_z51:EnvP:=eQ [(65,s_z65)] 11 (some [2]) nC nC nP
def C_z51:Code:=cO Tryd.f51
def R_z51:Array ResultVar:=Tryd.f51.results
theorem qxC (n:Nat) (c0:Int) (o0:Lab):evFnP E_z51 n C_z51 R_z51 [dh c0 o0]=qui n c0:=by
 kernel_rfl
theorem qgE:qk G Tryd.prog 51 s_z51:=by
 refine sQ (E:=E_z51) (c:=C_z51) rfl (fun w S hg=>(qb (qpW w S hg) qe)) Tryd.func51 ?_;intro avs r h;unfold s_z51 at h;split at h <;> cases h
 obtain ⟨n,hn⟩:=qvg _;exact ⟨n,_,(qxC n _ _).trans hn,.inl rfl⟩
def E_z50:EnvP:=eQ [(51,s_z51)] 6 (some [2]) nC nC nP
def C_z50:Code:=cO Tryd.f50
def R_z50:Array ResultVar:=Tryd.f50.results
theorem qxD (n:Nat) (c0:Int) (o0:Lab):evFnP E_z50 n C_z50 R_z50 [dh c0 o0]=qwT n c0:=by
 kernel_rfl
theorem qpX:qk G Tryd.prog 50 s_z50:=by
 refine sQ (E:=E_z50) (c:=C_z50) rfl (fun w S hg=>(qb (qgE w S hg) qe)) Tryd.func50 ?_;intro avs r h;unfold s_z50 at h;split at h <;> cases h
 obtain ⟨n,hn⟩:=qvh _;exact ⟨n,_,(qxD n _ _).trans hn,.inl rfl⟩
def qbc:EnvP:=eQ [(50,s_z50)] 19 (some [4]) (fun x=>if x=2 then some [0,1,7,8] else none) (fun x=>if x=0 then some [] else if x=1 then some [0,1,7,8] else none) nP
def qdh:Code:=cO Tryd.f49
def qni:Array ResultVar:=Tryd.f49.results
noncomputable def qcH (K:Ex→Fr→Option AV):=fun s4=>K .ret (frOf [(4,dc s4)])
def qcI (n:Nat):Ex→Fr→Option AV:=qL 0 (qbc.cutb 0) (kSeq (evCP qbc (evLP qbc n) (sub qdh [1,1])) (kFnP qbc qni))
def qfa (s0:List Int) (s7:Int) (s8:Int):Fr:=frOf [(0,(.dat (.sl (.int .i32)) s0 none)),(1,(.fn 50 [])),(7,dc s7),(8,dc s8)]
theorem qiF (K:Ex→Fr→Option AV):∀ (n:Nat) (s0:List Int) (s7:Int) (s8:Int),evLP qbc n (sub qdh [1,0,1,0,0]) K (qfa s0 s7 s8)=qbg (qcH K) (K (.exit 0) (frOf [])) n s0 s7 s8:=by
 intro n;induction n with
 | zero=>intros; rfl
 | succ n IH =>
 intro s0 s7 s8;have ih:(fun s0 s7 s8=>evLP qbc n (sub qdh [1,0,1,0,0]) K (qfa s0 s7 s8))=qbg (qcH K) (K (.exit 0) (frOf [])) n:=by
  funext s0 s7 s8;exact IH s0 s7 s8
 show _=qax (qcH K) (K (.exit 0) (frOf [])) (qbg (qcH K) (K (.exit 0) (frOf [])) n) n s0 s7 s8;rw [← ih];kernel_rfl
theorem qgF (n:Nat)  : (qcI n) (.exit 0) (frOf [])=qaV n  := by
 kernel_rfl
theorem qpY (n:Nat) (s0:List Int) (o0:Lab):evFnP qbc n qdh qni [.dat (.sl (.int .i32)) s0 o0,.fn 50 []]=qep n s0:=by
 unfold qep;rw [show qbg qbC (qaV n) n=(fun s0 s7 s8=>evLP qbc n (sub qdh [1,0,1,0,0]) (qcI n) (qfa s0 s7 s8)) from by
  funext s0 s7 s8;refine Eq.trans ?_ (qiF (qcI n) n s0 s7 s8).symm;rw [show ((qcI n) (.exit 0) (frOf []))=(qaV n) from by
   exact qgF n ]
  all_goals kernel_rfl]
 kernel_rfl
def qbd:EnvP:=eQ [(33,s_z33)] 19 (some [4]) (fun x=>if x=2 then some [0,1,7,8] else none) (fun x=>if x=0 then some [] else if x=1 then some [0,1,7,8] else none) nP
def qdi:Code:=cO Tryd.f49
def qnj:Array ResultVar:=Tryd.f49.results
noncomputable def qcJ (K:Ex→Fr→Option AV):=fun s4=>K .ret (frOf [(4,dc s4)])
def qcK (n:Nat):Ex→Fr→Option AV:=qL 0 (qbd.cutb 0) (kSeq (evCP qbd (evLP qbd n) (sub qdi [1,1])) (kFnP qbd qnj))
def qfb (s0:List Int) (s7:Int) (s8:Int):Fr:=frOf [(0,(.dat (.sl (.int .i32)) s0 none)),(1,(.fn 33 [])),(7,dc s7),(8,dc s8)]
theorem qiG (K:Ex→Fr→Option AV):∀ (n:Nat) (s0:List Int) (s7:Int) (s8:Int),evLP qbd n (sub qdi [1,0,1,0,0]) K (qfb s0 s7 s8)=qbh (qcJ K) (K (.exit 0) (frOf [])) n s0 s7 s8:=by
 intro n;induction n with
 | zero=>intros; rfl
 | succ n IH =>
 intro s0 s7 s8;have ih:(fun s0 s7 s8=>evLP qbd n (sub qdi [1,0,1,0,0]) K (qfb s0 s7 s8))=qbh (qcJ K) (K (.exit 0) (frOf [])) n:=by
  funext s0 s7 s8;exact IH s0 s7 s8
 show _=qay (qcJ K) (K (.exit 0) (frOf [])) (qbh (qcJ K) (K (.exit 0) (frOf [])) n) n s0 s7 s8;rw [← ih];kernel_rfl
theorem qgG (n:Nat)  : (qcK n) (.exit 0) (frOf [])=qaW n  := by
 kernel_rfl
theorem qpZ (n:Nat) (s0:List Int) (o0:Lab):evFnP qbd n qdi qnj [.dat (.sl (.int .i32)) s0 o0,.fn 33 []]=qeq n s0:=by
 unfold qeq;rw [show qbh qbD (qaW n) n=(fun s0 s7 s8=>evLP qbd n (sub qdi [1,0,1,0,0]) (qcK n) (qfb s0 s7 s8)) from by
  funext s0 s7 s8;refine Eq.trans ?_ (qiG (qcK n) n s0 s7 s8).symm;rw [show ((qcK n) (.exit 0) (frOf []))=(qaW n) from by
   exact qgG n ]
  all_goals kernel_rfl]
 kernel_rfl
theorem qjL:qk G Tryd.prog 49 s_z49:=fun w S hg=>by
 have h0:qk G Tryd.prog 49 s_z49_v0:=by
  refine qN G_stays (E:=qbc) (fn:=Tryd.f49) (c:=qdh) (qq rfl qeb) (fun w S hg=>⟨⟨(qb (qpX w S hg) qe),fun f sp h=>qbr f sp h w S⟩,qfc w S hg,(fun _ _ h=>by cases h),(fun _ _ h=>by cases h),(fun _ _ h=>by cases h),(fun t kt vt h=>qdK t kt vt h)⟩) follows Tryd.func49 (by kernel_rfl) (by kernel_rfl) (by kernel_rfl) ?_;intro avs r h;unfold s_z49_v0 at h;split at h
  ·simp only [yb] at h;obtain ⟨hp,rfl⟩:=h;obtain ⟨n,hn⟩:=qlH _ hp;exact ⟨n,_,(qpY n _ _).trans hn,.inl rfl⟩
  ·cases h
 have h1:qk G Tryd.prog 49 s_z49_v1:=by
  refine qN G_stays (E:=qbd) (fn:=Tryd.f49) (c:=qdi) (qq rfl qeb) (fun w S hg=>⟨⟨(qb (qpV w S hg) qe),fun f sp h=>qbr f sp h w S⟩,qfc w S hg,(fun _ _ h=>by cases h),(fun _ _ h=>by cases h),(fun _ _ h=>by cases h),(fun t kt vt h=>qdK t kt vt h)⟩) follows Tryd.func49 (by kernel_rfl) (by kernel_rfl) (by kernel_rfl) ?_;intro avs r h;unfold s_z49_v1 at h;split at h
  ·simp only [yb] at h;obtain ⟨hp,rfl⟩:=h;obtain ⟨n,hn⟩:=qlz _ hp;exact ⟨n,_,(qpZ n _ _).trans hn,.inl rfl⟩
  ·cases h
 intro vals avs r h hS ha;unfold s_z49 at h;split at h
 ·rename_i a0 o f;cases e:(f==50) with
  | true =>
   rw [e] at h;obtain rfl:=of_decide_eq_true e;exact h0 w S hg vals [.dat (.sl (.int .i32)) a0 o,.fn 50 []] r h hS ha
  | false =>
   rw [e] at h;cases e2:(f==33) with
   | true =>
    rw [e2] at h;obtain rfl:=of_decide_eq_true e2;exact h1 w S hg vals [.dat (.sl (.int .i32)) a0 o,.fn 33 []] r h hS ha
   | false=>rw [e2] at h; cases h
 ·cases h
def E_z30:EnvP:=eQ [(49,s_z49)] 5 (some [2]) nC nC nP
def C_z30:Code:=cO Tryd.f30
def R_z30:Array ResultVar:=Tryd.f30.results
theorem qxE (n:Nat) (t0:List Int) (o0:Lab):evFnP E_z30 n C_z30 R_z30 [.dat (.sl (.int .i32)) t0 o0]=quj n t0:=by
 kernel_rfl
theorem qqa:qk G Tryd.prog 30 s_z30:=by
 refine sQ (E:=E_z30) (c:=C_z30) rfl (fun w S hg=>(qb (qjL w S hg) qe)) Tryd.func30 ?_;intro avs r h;unfold s_z30 at h;split at h
 ·obtain ⟨hp,rfl⟩:=yj h;obtain ⟨n,hn⟩:=qvm _ hp;exact ⟨n,_,(qxE n _ _).trans hn,.inl rfl⟩
 ·cases h
end
end Go.Av
