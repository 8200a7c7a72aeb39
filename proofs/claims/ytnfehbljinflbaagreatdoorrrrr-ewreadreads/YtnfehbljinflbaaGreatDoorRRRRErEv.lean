import Derived.Test.YtnfehbljinflbaaGreatDoorRRRRErEvI
import Derived.Test.YtnfehbljinflbaaGreatDoorRRRREtN
import Derived.Test.YtnfehbljinflbaaGreatDoorRRRRProg
import Derived.KernelRfl
namespace Go.Av
noncomputable section
open Go.Proofs
set_option maxRecDepth 100000
def E_z24:EnvP:=eQ [(25,s_z25),(42,s_z42),(43,s_z43),(44,s_z44),(45,s_z45)] 33 (some [1000002,3]) nC nC nP
def C_z24:Code:=cO Tryz.f24
def R_z24:Array ResultVar:=Tryz.f24.results
theorem qTs (n:Nat) (s0:LU) (o0:Lab):evFnP E_z24 n C_z24 R_z24 [db s0 o0]=qNg n s0:=by
 kernel_rfl
theorem qFM:qe G Tryz.prog 24 s_z24:=by
 refine sQ (E:=E_z24) (c:=C_z24) rfl (fun w S hg=>(qa (qvc w S hg) (qa (qil w S hg) (qa (qHz w S hg) (qa (qvk w S hg) (qa (qHK w S hg) qc)))))) Tryz.func24 ?_;intro avs r h;unfold s_z24 at h;split at h
 ·obtain ⟨hp,rfl⟩:=yj h;obtain ⟨n,hn⟩:=qOA _ hp;exact ⟨n,_,(qTs n _ _).trans hn,.inl rfl⟩
 ·cases h
def E_z47:EnvP:=eQ [(71,s_z71),(72,s_z72)] 51 (some [1000002,3]) (fun x=>if x=3 then some [0,4,5] else none) (fun x=>if x=0 then some [0,4] else if x=1 then some [0,4,5] else none) nP
def C_z47:Code:=cO Tryz.f47
def R_z47:Array ResultVar:=Tryz.f47.results
noncomputable def qpr (K:Ex→Fr→OA):=fun s0 end4=>K (.exit 0) (frOf [(0,da s0),(4,dc end4)])
def quq (n:Nat):Ex→Fr→OA:=qh 0 (E_z47.cutb 0) (kSeq (evCP E_z47 (evLP E_z47 n) (sub C_z47 [1,1,1])) (kFnP E_z47 R_z47))
def qAj (s0:LU) (end4:Int) (k5:Int):Fr:=frOf [(0,da s0),(4,dc end4),(5,dc k5)]
theorem qFN (K:Ex→Fr→OA):∀ (n:Nat) (s0:LU) (end4:Int) (k5:Int),evLP E_z47 n (sub C_z47 [1,1,0,1,0,0]) K (qAj s0 end4 k5)=qlh (qpr K) n s0 end4 k5:=by
 intro n;induction n with
 | zero=>intros; rfl
 | succ n IH =>
 intro s0 end4 k5;have ih:(fun s0 end4 k5=>evLP E_z47 n (sub C_z47 [1,1,0,1,0,0]) K (qAj s0 end4 k5))=qlh (qpr K) n:=by
  funext s0 end4 k5;exact IH s0 end4 k5
 show _=qhh (qpr K) (qlh (qpr K) n) n s0 end4 k5;rw [← ih];kernel_rfl
theorem qxe (n:Nat) (s0:LU) (end4:Int):(quq n) (.exit 0) (frOf [(0,da s0),(4,dc end4)])=qbV n s0 end4:=by
 kernel_rfl
theorem qTt (n:Nat) (s0:LU) (o0:Lab):evFnP E_z47 n C_z47 R_z47 [db s0 o0]=qNh n s0:=by
 unfold qNh;rw [show qlh (qbV n) n=(fun s0 end4 k5=>evLP E_z47 n (sub C_z47 [1,1,0,1,0,0]) (quq n) (qAj s0 end4 k5)) from by
  funext s0 end4 k5;refine Eq.trans ?_ (qFN (quq n) n s0 end4 k5).symm;rw [show (qpr (quq n))=(qbV n) from by
   funext s0 end4;exact qxe n s0 end4]
  all_goals kernel_rfl]
 kernel_rfl
theorem qFO:qe G Tryz.prog 47 s_z47:=by
 refine sQ (E:=E_z47) (c:=C_z47) rfl (fun w S hg=>(qa (qvg w S hg) (qa (qvi w S hg) qc))) Tryz.func47 ?_;intro avs r h;unfold s_z47 at h;split at h
 ·obtain ⟨hp,rfl⟩:=yj h;obtain ⟨n,hn⟩:=qOt _ hp;exact ⟨n,_,(qTt n _ _).trans hn,.inl rfl⟩
 ·cases h
def E_z48:EnvP:=eQ [(44,s_z44),(79,s_z79)] 32 (some [2]) (fun x=>if x=2 then some [0,3] else none) (fun x=>if x=0 then some [0] else if x=1 then some [0,3] else none) nP
def C_z48:Code:=cO Tryz.f48
def R_z48:Array ResultVar:=Tryz.f48.results
noncomputable def qps (K:Ex→Fr→OA):=fun s0=>K (.exit 0) (frOf [(0,da s0)])
noncomputable def qur (K:Ex→Fr→OA):=fun s2=>K .ret (frOf [(2,dc s2)])
def qus (n:Nat):Ex→Fr→OA:=qh 0 (E_z48.cutb 0) (kSeq (evCP E_z48 (evLP E_z48 n) (sub C_z48 [1,1])) (kFnP E_z48 R_z48))
def qAk (s0:LU) (i3:Int):Fr:=frOf [(0,da s0),(3,dc i3)]
theorem qFP (K:Ex→Fr→OA):∀ (n:Nat) (s0:LU) (i3:Int),evLP E_z48 n (sub C_z48 [1,0,1,0,0]) K (qAk s0 i3)=qti (qur K) (qps K) n s0 i3:=by
 intro n;induction n with
 | zero=>intros; rfl
 | succ n IH =>
 intro s0 i3;have ih:(fun s0 i3=>evLP E_z48 n (sub C_z48 [1,0,1,0,0]) K (qAk s0 i3))=qti (qur K) (qps K) n:=by
  funext s0 i3;exact IH s0 i3
 show _=qhi (qur K) (qps K) (qti (qur K) (qps K) n) n s0 i3;rw [← ih];kernel_rfl
theorem qxf (n:Nat) (s0:LU):(qus n) (.exit 0) (frOf [(0,da s0)])=qfa n s0:=by
 kernel_rfl
theorem qTu (n:Nat) (s0:LU) (o0:Lab):evFnP E_z48 n C_z48 R_z48 [db s0 o0]=qNi n s0:=by
 unfold qNi;rw [show qti qhF (qfa n) n=(fun s0 i3=>evLP E_z48 n (sub C_z48 [1,0,1,0,0]) (qus n) (qAk s0 i3)) from by
  funext s0 i3;refine Eq.trans ?_ (qFP (qus n) n s0 i3).symm;rw [show (qps (qus n))=(qfa n) from by
   funext s0;exact qxf n s0]
  all_goals kernel_rfl]
 kernel_rfl
theorem qFQ:qe G Tryz.prog 48 s_z48:=by
 refine sQ (E:=E_z48) (c:=C_z48) rfl (fun w S hg=>(qa (qvk w S hg) (qa (qnN w S hg) qc))) Tryz.func48 ?_;intro avs r h;unfold s_z48 at h;split at h
 ·obtain ⟨hp,rfl⟩:=yj h;obtain ⟨n,hn⟩:=qOr _ hp;exact ⟨n,_,(qTu n _ _).trans hn,.inl rfl⟩
 ·cases h
def E_z26:EnvP:=eQ [(42,s_z42),(46,s_z46),(47,s_z47),(48,s_z48)] 39 (some [2]) nC nC nP
def C_z26:Code:=cO Tryz.f26
def R_z26:Array ResultVar:=Tryz.f26.results
theorem qTv (n:Nat) (s0:LU) (o0:Lab):evFnP E_z26 n C_z26 R_z26 [db s0 o0]=qNj n s0:=by
 kernel_rfl
theorem qFR:qe G Tryz.prog 26 s_z26:=by
 refine sQ (E:=E_z26) (c:=C_z26) rfl (fun w S hg=>(qa (qil w S hg) (qa (qvb w S hg) (qa (qFO w S hg) (qa (qFQ w S hg) qc))))) Tryz.func26 ?_;intro avs r h;unfold s_z26 at h;split at h
 ·obtain ⟨hp,rfl⟩:=yj h;obtain ⟨n,hn⟩:=qOB _ hp;exact ⟨n,_,(qTv n _ _).trans hn,.inl rfl⟩
 ·cases h
def E_z14:EnvP:=eQ [(23,s_z23),(24,s_z24),(25,s_z25),(26,s_z26),(27,s_z27)] 77 (some [2,3,4]) (fun x=>if x=6 then some [5,6,7,8,9] else none) (fun x=>if x=0 then some [5,6,7] else if x=1 then some [5,6,7,8,9] else none) nP
def C_z14:Code:=cO Tryz.f14
def R_z14:Array ResultVar:=Tryz.f14.results
noncomputable def qpt (K:Ex→Fr→OA):=fun out5 sets6 odd7=>K (.exit 0) (frOf [(5,(.dat (.sl (.sl (.int .i32))) out5 (some (5,25)))),(6,(.dat (.sl (.int .i64)) sets6 (some (6,3)))),(7,dc odd7)])
def qut (n:Nat):Ex→Fr→OA:=qh 0 (E_z14.cutb 0) (kSeq (evCP E_z14 (evLP E_z14 n) (sub C_z14 [1,1,1,1,1,1])) (kFnP E_z14 R_z14))
def qAl (out5:List LI) (sets6:LI) (odd7:Int) (l8:List (Int×(LU×Unit))) (i9:Int):Fr:=frOf [(5,(.dat (.sl (.sl (.int .i32))) out5 (some (5,25)))),(6,(.dat (.sl (.int .i64)) sets6 (some (6,3)))),(7,dc odd7),(8,(.dat (.sl (.pair (.int .i64) (.pair (.sl .byte) .unit))) l8 (some (8,46)))),(9,dc i9)]
theorem qFS (K:Ex→Fr→OA):∀ (n:Nat) (out5:List LI) (sets6:LI) (odd7:Int) (l8:List (Int×(LU×Unit))) (i9:Int),evLP E_z14 n (sub C_z14 [1,1,1,1,1,0,1,0,0]) K (qAl out5 sets6 odd7 l8 i9)=qtj (qpt K) n out5 sets6 odd7 l8 i9:=by
 intro n;induction n with
 | zero=>intros; rfl
 | succ n IH =>
 intro out5 sets6 odd7 l8 i9;have ih:(fun out5 sets6 odd7 l8 i9=>evLP E_z14 n (sub C_z14 [1,1,1,1,1,0,1,0,0]) K (qAl out5 sets6 odd7 l8 i9))=qtj (qpt K) n:=by
  funext out5 sets6 odd7 l8 i9;exact IH out5 sets6 odd7 l8 i9
 show _=qhj (qpt K) (qtj (qpt K) n) n out5 sets6 odd7 l8 i9;rw [← ih];kernel_rfl
theorem qxg (n:Nat) (out5:List LI) (sets6:LI) (odd7:Int):(qut n) (.exit 0) (frOf [(5,(.dat (.sl (.sl (.int .i32))) out5 (some (5,25)))),(6,(.dat (.sl (.int .i64)) sets6 (some (6,3)))),(7,dc odd7)])=qkB n out5 sets6 odd7:=by
 kernel_rfl
theorem qTw (n:Nat) (s0:LU) (o0:Lab):evFnP E_z14 n C_z14 R_z14 [db s0 o0]=qIf n s0:=by
 unfold qIf;rw [show qtj (qkB n) n=(fun out5 sets6 odd7 l8 i9=>evLP E_z14 n (sub C_z14 [1,1,1,1,1,0,1,0,0]) (qut n) (qAl out5 sets6 odd7 l8 i9)) from by
  funext out5 sets6 odd7 l8 i9;refine Eq.trans ?_ (qFS (qut n) n out5 sets6 odd7 l8 i9).symm;rw [show (qpt (qut n))=(qkB n) from by
   funext out5 sets6 odd7;exact qxg n out5 sets6 odd7]
  all_goals kernel_rfl]
 kernel_rfl
theorem qFT:qe G Tryz.prog 14 s_z14:=by
 refine sQ (E:=E_z14) (c:=C_z14) rfl (fun w S hg=>(qa (qHm w S hg) (qa (qFM w S hg) (qa (qvc w S hg) (qa (qFR w S hg) (qa (qvq w S hg) qc)))))) Tryz.func14 ?_;intro avs r h;unfold s_z14 at h;split at h
 ·obtain ⟨hp,rfl⟩:=yj h;obtain ⟨n,hn⟩:=qMh _ hp;exact ⟨n,_,(qTw n _ _).trans hn,.inl rfl⟩
 ·cases h
def E_z12:EnvP:=eQ [(14,s_z14)] 27 (some [2]) (fun x=>if x=4 then some [3,4,7] else none) (fun x=>if x=0 then some [3] else if x=1 then some [3,4,7] else none) nP
def C_z12:Code:=cO Tryz.f12
def R_z12:Array ResultVar:=Tryz.f12.results
noncomputable def qpu (K:Ex→Fr→OA):=fun out3=>K (.exit 0) (frOf [(3,(.dat (.sl (.int .i32)) out3 (some (3,21))))])
def quu (n:Nat):Ex→Fr→OA:=qh 0 (E_z12.cutb 0) (kSeq (evCP E_z12 (evLP E_z12 n) (sub C_z12 [1,1,1,1])) (kFnP E_z12 R_z12))
def qAm (out3:LI) (l4:List LI) (i7:Int):Fr:=frOf [(3,(.dat (.sl (.int .i32)) out3 (some (3,21)))),(4,(.dat (.sl (.sl (.int .i32))) l4 none)),(7,dc i7)]
theorem qFU (K:Ex→Fr→OA):∀ (n:Nat) (out3:LI) (l4:List LI) (i7:Int),evLP E_z12 n (sub C_z12 [1,1,1,0,1,0,0]) K (qAm out3 l4 i7)=qtk (qpu K) n out3 l4 i7:=by
 intro n;induction n with
 | zero=>intros; rfl
 | succ n IH =>
 intro out3 l4 i7;have ih:(fun out3 l4 i7=>evLP E_z12 n (sub C_z12 [1,1,1,0,1,0,0]) K (qAm out3 l4 i7))=qtk (qpu K) n:=by
  funext out3 l4 i7;exact IH out3 l4 i7
 show _=qhk (qpu K) (qtk (qpu K) n) n out3 l4 i7;rw [← ih];kernel_rfl
theorem qxh (n:Nat) (out3:LI):(quu n) (.exit 0) (frOf [(3,(.dat (.sl (.int .i32)) out3 (some (3,21))))])=qkC n out3:=by
 kernel_rfl
theorem qTx (n:Nat) (s0:LU) (o0:Lab):evFnP E_z12 n C_z12 R_z12 [db s0 o0]=qIg n s0:=by
 unfold qIg;rw [show qtk (qkC n) n=(fun out3 l4 i7=>evLP E_z12 n (sub C_z12 [1,1,1,0,1,0,0]) (quu n) (qAm out3 l4 i7)) from by
  funext out3 l4 i7;refine Eq.trans ?_ (qFU (quu n) n out3 l4 i7).symm;rw [show (qpu (quu n))=(qkC n) from by
   funext out3;exact qxh n out3]
  all_goals kernel_rfl]
 kernel_rfl
theorem quv:qe G Tryz.prog 12 s_z12:=by
 refine sQ (E:=E_z12) (c:=C_z12) rfl (fun w S hg=>(qa (qFT w S hg) qc)) Tryz.func12 ?_;intro avs r h;unfold s_z12 at h;split at h
 ·obtain ⟨hp,rfl⟩:=yj h;obtain ⟨n,hn⟩:=qMi _ hp;exact ⟨n,_,(qTx n _ _).trans hn,.inl rfl⟩
 ·cases h
def E_z22:EnvP:=eQ [] 41 (some [4]) nC nC nP
def C_z22:Code:=cO Tryz.f22
def R_z22:Array ResultVar:=Tryz.f22.results
theorem qTy (n:Nat) (s0:LU) (o0:Lab) (i1:Int) (o1:Lab):evFnP E_z22 n C_z22 R_z22 [db s0 o0,de i1 o1]=qNk n s0 i1:=by
 kernel_rfl
theorem qFV:qe G Tryz.prog 22 s_z22:=by
 refine sQ (E:=E_z22) (c:=C_z22) rfl (fun w S hg=>qc) Tryz.func22 ?_;intro avs r h;unfold s_z22 at h;split at h
 ·obtain ⟨hp,rfl⟩:=yj h;obtain ⟨n,hn⟩:=qOS _ _ hp;exact ⟨n,_,(qTy n _ _ _ _).trans hn,.inl rfl⟩
 ·cases h
def E_z13:EnvP:=eQ [(22,s_z22)] 29 (some [2,3]) (fun x=>if x=4 then some [0,4,5,6] else none) (fun x=>if x=0 then some [4,5] else if x=1 then some [0,4,5,6] else none) nP
def C_z13:Code:=cO Tryz.f13
def R_z13:Array ResultVar:=Tryz.f13.results
noncomputable def qpv (K:Ex→Fr→OA):=fun out4 n5=>K (.exit 0) (frOf [(4,(db out4 (some (4,5)))),(5,dc n5)])
def quw (n:Nat):Ex→Fr→OA:=qh 0 (E_z13.cutb 0) (kSeq (evCP E_z13 (evLP E_z13 n) (sub C_z13 [1,1,1,1])) (kFnP E_z13 R_z13))
def qAn (s0:LU) (out4:LU) (n5:Int) (i6:Int):Fr:=frOf [(0,da s0),(4,(db out4 (some (4,5)))),(5,dc n5),(6,dc i6)]
theorem qFW (K:Ex→Fr→OA):∀ (n:Nat) (s0:LU) (out4:LU) (n5:Int) (i6:Int),evLP E_z13 n (sub C_z13 [1,1,1,0,1,0,0]) K (qAn s0 out4 n5 i6)=qoC (qpv K) n s0 out4 n5 i6:=by
 intro n;induction n with
 | zero=>intros; rfl
 | succ n IH =>
 intro s0 out4 n5 i6;have ih:(fun s0 out4 n5 i6=>evLP E_z13 n (sub C_z13 [1,1,1,0,1,0,0]) K (qAn s0 out4 n5 i6))=qoC (qpv K) n:=by
  funext s0 out4 n5 i6;exact IH s0 out4 n5 i6
 show _=qhl (qpv K) (qoC (qpv K) n) n s0 out4 n5 i6;rw [← ih];kernel_rfl
theorem qxi (n:Nat) (out4:LU) (n5:Int):(quw n) (.exit 0) (frOf [(4,(db out4 (some (4,5)))),(5,dc n5)])=qhm n out4 n5:=by
 kernel_rfl
theorem qTz (n:Nat) (s0:LU) (o0:Lab):evFnP E_z13 n C_z13 R_z13 [db s0 o0]=qNl n s0:=by
 unfold qNl;rw [show qoC (qhm n) n=(fun s0 out4 n5 i6=>evLP E_z13 n (sub C_z13 [1,1,1,0,1,0,0]) (quw n) (qAn s0 out4 n5 i6)) from by
  funext s0 out4 n5 i6;refine Eq.trans ?_ (qFW (quw n) n s0 out4 n5 i6).symm;rw [show (qpv (quw n))=(qhm n) from by
   funext out4 n5;exact qxi n out4 n5]
  all_goals kernel_rfl]
 kernel_rfl
theorem qFX:qe G Tryz.prog 13 s_z13:=by
 refine sQ (E:=E_z13) (c:=C_z13) rfl (fun w S hg=>(qa (qFV w S hg) qc)) Tryz.func13 ?_;intro avs r h;unfold s_z13 at h;split at h
 ·obtain ⟨hp,rfl⟩:=yj h;obtain ⟨n,hn⟩:=qOT _ hp;exact ⟨n,_,(qTz n _ _).trans hn,.inl rfl⟩
 ·cases h
def E_z10:EnvP:=eQ [(12,s_z12),(13,s_z13)] 12 (some [2]) nC nC nP
def C_z10:Code:=cO Tryz.f10
def R_z10:Array ResultVar:=Tryz.f10.results
theorem qTA (n:Nat) (s0:LU) (o0:Lab):evFnP E_z10 n C_z10 R_z10 [db s0 o0]=qNm n s0:=by
 kernel_rfl
theorem qFY:qe G Tryz.prog 10 s_z10:=by
 refine sQ (E:=E_z10) (c:=C_z10) rfl (fun w S hg=>(qa (quv w S hg) (qa (qFX w S hg) qc))) Tryz.func10 ?_;intro avs r h;unfold s_z10 at h;split at h
 ·obtain ⟨hp,rfl⟩:=yj h;obtain ⟨n,hn⟩:=qMj _ hp;exact ⟨n,_,(qTA n _ _).trans hn,.inl rfl⟩
 ·cases h
def E_z3:EnvP:=eQ [(7,s_z7),(8,s_z8),(9,s_z9),(10,s_z10),(11,s_z11),(12,s_z12)] 22 (some [2]) nC nC nP
def C_z3:Code:=cO Tryz.f3
def R_z3:Array ResultVar:=Tryz.f3.results
theorem z3_ev (n:Nat) (s0:LU) (o0:Lab):evFnP E_z3 n C_z3 R_z3 [db s0 o0]=z3_sh n s0:=by
 kernel_rfl
theorem qLL:qe G Tryz.prog 3 s_z3:=by
 refine sQ (E:=E_z3) (c:=C_z3) rfl (fun w S hg=>(qa (qLP w S hg) (qa (qAx w S hg) (qa (qBM w S hg) (qa (qFY w S hg) (qa (quN w S hg) (qa (quv w S hg) qc))))))) Tryz.func3 ?_;intro avs r h;unfold s_z3 at h;split at h <;> cases h
 obtain ⟨n,hn⟩:=qSL _;exact ⟨n,_,(z3_ev n _ _).trans hn,.inl rfl⟩
end
end Go.Av
