import Derived.Test.YtnfehbljinflbaaGreatDoorRRRRErEvI
import Derived.Test.YtnfehbljinflbaaGreatDoorRRRREtN
import Derived.Test.YtnfehbljinflbaaGreatDoorRRRRProg
import Derived.KernelRfl
namespace Go.Av
noncomputable section
open Go.Proofs
set_option maxRecDepth 100000
def E_z27:EnvP:=eQ [(49,s_z49)] 42 (some [2,3,4]) (fun x=>if x=4 then some [0,5,6,7,8] else none) (fun x=>if x=0 then some [5,6,7] else if x=1 then some [0,5,6,7,8] else none) nP
def C_z27:Code:=cO Tryz.f27
def R_z27:Array ResultVar:=Tryz.f27.results
noncomputable def qpv (K:Ex→Fr→OA):=fun out5 broken6 first7=>K (.exit 0) (frOf [(5,(.dat (.sl (.int .i32)) out5 (some (5,21)))),(6,dc broken6),(7,dc first7)])
def qus (n:Nat):Ex→Fr→OA:=qg 0 (E_z27.cutb 0) (kSeq (evCP E_z27 (evLP E_z27 n) (sub C_z27 [1,1,1,1])) (kFnP E_z27 R_z27))
def qAl (s0:LU) (out5:LI) (broken6:Int) (first7:Int) (at8:Int):Fr:=frOf [(0,da s0),(5,(.dat (.sl (.int .i32)) out5 (some (5,21)))),(6,dc broken6),(7,dc first7),(8,dc at8)]
theorem qFQ (K:Ex→Fr→OA):∀ (n:Nat) (s0:LU) (out5:LI) (broken6:Int) (first7:Int) (at8:Int),evLP E_z27 n (sub C_z27 [1,1,1,0,1,0,0]) K (qAl s0 out5 broken6 first7 at8)=qqE (qpv K) n s0 out5 broken6 first7 at8:=by
 intro n;induction n with
 | zero=>intros; rfl
 | succ n IH =>
 intro s0 out5 broken6 first7 at8;have ih:(fun s0 out5 broken6 first7 at8=>evLP E_z27 n (sub C_z27 [1,1,1,0,1,0,0]) K (qAl s0 out5 broken6 first7 at8))=qqE (qpv K) n:=by
  funext s0 out5 broken6 first7 at8;exact IH s0 out5 broken6 first7 at8
 show _=qoE (qpv K) (qqE (qpv K) n) n s0 out5 broken6 first7 at8;rw [← ih];kernel_rfl
theorem qxh (n:Nat) (out5:LI) (broken6:Int) (first7:Int):(qus n) (.exit 0) (frOf [(5,(.dat (.sl (.int .i32)) out5 (some (5,21)))),(6,dc broken6),(7,dc first7)])=qhf n out5 broken6 first7:=by
 kernel_rfl
theorem qTo (n:Nat) (s0:LU) (o0:Lab):evFnP E_z27 n C_z27 R_z27 [db s0 o0]=qNd n s0:=by
 unfold qNd;rw [show qqE (qhf n) n=(fun s0 out5 broken6 first7 at8=>evLP E_z27 n (sub C_z27 [1,1,1,0,1,0,0]) (qus n) (qAl s0 out5 broken6 first7 at8)) from by
  funext s0 out5 broken6 first7 at8;refine Eq.trans ?_ (qFQ (qus n) n s0 out5 broken6 first7 at8).symm;rw [show (qpv (qus n))=(qhf n) from by
   funext out5 broken6 first7;exact qxh n out5 broken6 first7]
  all_goals kernel_rfl]
 kernel_rfl
theorem qut:qe G Tryz.prog 27 s_z27:=by
 refine sQ (E:=E_z27) (c:=C_z27) rfl (fun w S hg=>(qa (qHN w S hg) qc)) Tryz.func27 ?_;intro avs r h;unfold s_z27 at h;split at h
 ·obtain ⟨hp,rfl⟩:=yj h;obtain ⟨n,hn⟩:=qOd _ hp;exact ⟨n,_,(qTo n _ _).trans hn,.inl rfl⟩
 ·cases h
def E_z74:EnvP:=eQ [] 22 (some [2]) nC (fun x=>if x=0 then some [0] else none) nP
def C_z74:Code:=cO Tryz.f74
def R_z74:Array ResultVar:=Tryz.f74.results
theorem qTp (n:Nat) (x0:UInt8) (o0:Lab):evFnP E_z74 n C_z74 R_z74 [dn x0 o0]=qNe n x0:=by
 kernel_rfl
theorem qFR:qe G Tryz.prog 74 s_z74:=by
 refine sQ (E:=E_z74) (c:=C_z74) rfl (fun w S hg=>qc) Tryz.func74 ?_;intro avs r h;unfold s_z74 at h;split at h <;> cases h
 obtain ⟨n,hn⟩:=qNF _;exact ⟨n,_,(qTp n _ _).trans hn,.inl rfl⟩
def E_z75:EnvP:=eQ [] 18 (some [2]) nC nC nP
def C_z75:Code:=cO Tryz.f75
def R_z75:Array ResultVar:=Tryz.f75.results
theorem qTq (n:Nat) (x0:UInt8) (o0:Lab):evFnP E_z75 n C_z75 R_z75 [dn x0 o0]=qNf n x0:=by
 kernel_rfl
theorem qFS:qe G Tryz.prog 75 s_z75:=by
 refine sQ (E:=E_z75) (c:=C_z75) rfl (fun w S hg=>qc) Tryz.func75 ?_;intro avs r h;unfold s_z75 at h;split at h <;> cases h
 obtain ⟨n,hn⟩:=qNG _;exact ⟨n,_,(qTq n _ _).trans hn,.inl rfl⟩
def E_z45:EnvP:=eQ [(27,s_z27),(74,s_z74),(75,s_z75)] 69 (some [1000004]) (fun x=>if x=6 then some [0,1,8,9] else none) (fun x=>if x=0 then some [8] else if x=1 then some [0,1,8,9] else if x=2 then some [0,1,8,9] else none) nP
def C_z45:Code:=cO Tryz.f45
def R_z45:Array ResultVar:=Tryz.f45.results
noncomputable def qpw (K:Ex→Fr→OA):=fun out8=>K (.exit 0) (frOf [(8,(.dat (.sl (.int .i32)) out8 (some (8,21))))])
def quu (n:Nat):Ex→Fr→OA:=qg 0 (E_z45.cutb 0) (kSeq (evCP E_z45 (evLP E_z45 n) (sub C_z45 [1,1,1,1])) (kFnP E_z45 R_z45))
def qAm (charset0:Int) (s1:LU) (out8:LI) (i9:Int):Fr:=frOf [(0,dc charset0),(1,da s1),(8,(.dat (.sl (.int .i32)) out8 (some (8,21)))),(9,dc i9)]
theorem qFT (K:Ex→Fr→OA):∀ (n:Nat) (charset0:Int) (s1:LU) (out8:LI) (i9:Int),evLP E_z45 n (sub C_z45 [1,1,1,0,1,0,0]) K (qAm charset0 s1 out8 i9)=qtj (qpw K) n charset0 s1 out8 i9:=by
 intro n;induction n with
 | zero=>intros; rfl
 | succ n IH =>
 intro charset0 s1 out8 i9;have ih:(fun charset0 s1 out8 i9=>evLP E_z45 n (sub C_z45 [1,1,1,0,1,0,0]) K (qAm charset0 s1 out8 i9))=qtj (qpw K) n:=by
  funext charset0 s1 out8 i9;exact IH charset0 s1 out8 i9
 show _=qhg (qpw K) (qtj (qpw K) n) n charset0 s1 out8 i9;rw [← ih];kernel_rfl
theorem qxi (n:Nat) (out8:LI):(quu n) (.exit 0) (frOf [(8,(.dat (.sl (.int .i32)) out8 (some (8,21))))])=qhh n out8:=by
 kernel_rfl
theorem qTr (n:Nat) (charset0:Int) (o0:Lab) (s1:LU) (o1:Lab):evFnP E_z45 n C_z45 R_z45 [de charset0 o0,db s1 o1]=qIh n charset0 s1:=by
 unfold qIh;rw [show qtj (qhh n) n=(fun charset0 s1 out8 i9=>evLP E_z45 n (sub C_z45 [1,1,1,0,1,0,0]) (quu n) (qAm charset0 s1 out8 i9)) from by
  funext charset0 s1 out8 i9;refine Eq.trans ?_ (qFT (quu n) n charset0 s1 out8 i9).symm;rw [show (qpw (quu n))=(qhh n) from by
   funext out8;exact qxi n out8]
  all_goals kernel_rfl]
 kernel_rfl
theorem qFU:qe G Tryz.prog 45 s_z45:=by
 refine sQ (E:=E_z45) (c:=C_z45) rfl (fun w S hg=>(qa (qut w S hg) (qa (qFR w S hg) (qa (qFS w S hg) qc)))) Tryz.func45 ?_;intro avs r h;unfold s_z45 at h;split at h
 ·obtain ⟨hp,rfl⟩:=yj h;obtain ⟨n,hn⟩:=qOe _ _ hp;exact ⟨n,_,(qTr n _ _ _ _).trans hn,.inl rfl⟩
 ·cases h
def E_z24:EnvP:=eQ [(25,s_z25),(42,s_z42),(43,s_z43),(44,s_z44),(45,s_z45)] 33 (some [1000002,3]) nC nC nP
def C_z24:Code:=cO Tryz.f24
def R_z24:Array ResultVar:=Tryz.f24.results
theorem qTs (n:Nat) (s0:LU) (o0:Lab):evFnP E_z24 n C_z24 R_z24 [db s0 o0]=qNg n s0:=by
 kernel_rfl
theorem qFV:qe G Tryz.prog 24 s_z24:=by
 refine sQ (E:=E_z24) (c:=C_z24) rfl (fun w S hg=>(qa (qvh w S hg) (qa (qik w S hg) (qa (qHH w S hg) (qa (qvp w S hg) (qa (qFU w S hg) qc)))))) Tryz.func24 ?_;intro avs r h;unfold s_z24 at h;split at h
 ·obtain ⟨hp,rfl⟩:=yj h;obtain ⟨n,hn⟩:=qOx _ hp;exact ⟨n,_,(qTs n _ _).trans hn,.inl rfl⟩
 ·cases h
def E_z47:EnvP:=eQ [(71,s_z71),(72,s_z72)] 51 (some [1000002,3]) (fun x=>if x=3 then some [0,4,5] else none) (fun x=>if x=0 then some [0,4] else if x=1 then some [0,4,5] else none) nP
def C_z47:Code:=cO Tryz.f47
def R_z47:Array ResultVar:=Tryz.f47.results
noncomputable def qpx (K:Ex→Fr→OA):=fun s0 end4=>K (.exit 0) (frOf [(0,da s0),(4,dc end4)])
def quv (n:Nat):Ex→Fr→OA:=qg 0 (E_z47.cutb 0) (kSeq (evCP E_z47 (evLP E_z47 n) (sub C_z47 [1,1,1])) (kFnP E_z47 R_z47))
def qAn (s0:LU) (end4:Int) (k5:Int):Fr:=frOf [(0,da s0),(4,dc end4),(5,dc k5)]
theorem qFW (K:Ex→Fr→OA):∀ (n:Nat) (s0:LU) (end4:Int) (k5:Int),evLP E_z47 n (sub C_z47 [1,1,0,1,0,0]) K (qAn s0 end4 k5)=qlg (qpx K) n s0 end4 k5:=by
 intro n;induction n with
 | zero=>intros; rfl
 | succ n IH =>
 intro s0 end4 k5;have ih:(fun s0 end4 k5=>evLP E_z47 n (sub C_z47 [1,1,0,1,0,0]) K (qAn s0 end4 k5))=qlg (qpx K) n:=by
  funext s0 end4 k5;exact IH s0 end4 k5
 show _=qhi (qpx K) (qlg (qpx K) n) n s0 end4 k5;rw [← ih];kernel_rfl
theorem qxj (n:Nat) (s0:LU) (end4:Int):(quv n) (.exit 0) (frOf [(0,da s0),(4,dc end4)])=qbV n s0 end4:=by
 kernel_rfl
theorem qTt (n:Nat) (s0:LU) (o0:Lab):evFnP E_z47 n C_z47 R_z47 [db s0 o0]=qNh n s0:=by
 unfold qNh;rw [show qlg (qbV n) n=(fun s0 end4 k5=>evLP E_z47 n (sub C_z47 [1,1,0,1,0,0]) (quv n) (qAn s0 end4 k5)) from by
  funext s0 end4 k5;refine Eq.trans ?_ (qFW (quv n) n s0 end4 k5).symm;rw [show (qpx (quv n))=(qbV n) from by
   funext s0 end4;exact qxj n s0 end4]
  all_goals kernel_rfl]
 kernel_rfl
theorem qFX:qe G Tryz.prog 47 s_z47:=by
 refine sQ (E:=E_z47) (c:=C_z47) rfl (fun w S hg=>(qa (qvl w S hg) (qa (qvn w S hg) qc))) Tryz.func47 ?_;intro avs r h;unfold s_z47 at h;split at h
 ·obtain ⟨hp,rfl⟩:=yj h;obtain ⟨n,hn⟩:=qOq _ hp;exact ⟨n,_,(qTt n _ _).trans hn,.inl rfl⟩
 ·cases h
def E_z48:EnvP:=eQ [(44,s_z44),(79,s_z79)] 32 (some [2]) (fun x=>if x=2 then some [0,3] else none) (fun x=>if x=0 then some [0] else if x=1 then some [0,3] else none) nP
def C_z48:Code:=cO Tryz.f48
def R_z48:Array ResultVar:=Tryz.f48.results
noncomputable def qpy (K:Ex→Fr→OA):=fun s0=>K (.exit 0) (frOf [(0,da s0)])
noncomputable def quw (K:Ex→Fr→OA):=fun s2=>K .ret (frOf [(2,dc s2)])
def qux (n:Nat):Ex→Fr→OA:=qg 0 (E_z48.cutb 0) (kSeq (evCP E_z48 (evLP E_z48 n) (sub C_z48 [1,1])) (kFnP E_z48 R_z48))
def qAo (s0:LU) (i3:Int):Fr:=frOf [(0,da s0),(3,dc i3)]
theorem qFY (K:Ex→Fr→OA):∀ (n:Nat) (s0:LU) (i3:Int),evLP E_z48 n (sub C_z48 [1,0,1,0,0]) K (qAo s0 i3)=qtk (quw K) (qpy K) n s0 i3:=by
 intro n;induction n with
 | zero=>intros; rfl
 | succ n IH =>
 intro s0 i3;have ih:(fun s0 i3=>evLP E_z48 n (sub C_z48 [1,0,1,0,0]) K (qAo s0 i3))=qtk (quw K) (qpy K) n:=by
  funext s0 i3;exact IH s0 i3
 show _=qhj (quw K) (qpy K) (qtk (quw K) (qpy K) n) n s0 i3;rw [← ih];kernel_rfl
theorem qxk (n:Nat) (s0:LU):(qux n) (.exit 0) (frOf [(0,da s0)])=qfb n s0:=by
 kernel_rfl
theorem qTu (n:Nat) (s0:LU) (o0:Lab):evFnP E_z48 n C_z48 R_z48 [db s0 o0]=qNi n s0:=by
 unfold qNi;rw [show qtk qhE (qfb n) n=(fun s0 i3=>evLP E_z48 n (sub C_z48 [1,0,1,0,0]) (qux n) (qAo s0 i3)) from by
  funext s0 i3;refine Eq.trans ?_ (qFY (qux n) n s0 i3).symm;rw [show (qpy (qux n))=(qfb n) from by
   funext s0;exact qxk n s0]
  all_goals kernel_rfl]
 kernel_rfl
theorem qFZ:qe G Tryz.prog 48 s_z48:=by
 refine sQ (E:=E_z48) (c:=C_z48) rfl (fun w S hg=>(qa (qvp w S hg) (qa (qnR w S hg) qc))) Tryz.func48 ?_;intro avs r h;unfold s_z48 at h;split at h
 ·obtain ⟨hp,rfl⟩:=yj h;obtain ⟨n,hn⟩:=qOo _ hp;exact ⟨n,_,(qTu n _ _).trans hn,.inl rfl⟩
 ·cases h
def E_z26:EnvP:=eQ [(42,s_z42),(46,s_z46),(47,s_z47),(48,s_z48)] 39 (some [2]) nC nC nP
def C_z26:Code:=cO Tryz.f26
def R_z26:Array ResultVar:=Tryz.f26.results
theorem qTv (n:Nat) (s0:LU) (o0:Lab):evFnP E_z26 n C_z26 R_z26 [db s0 o0]=qNj n s0:=by
 kernel_rfl
theorem qGa:qe G Tryz.prog 26 s_z26:=by
 refine sQ (E:=E_z26) (c:=C_z26) rfl (fun w S hg=>(qa (qik w S hg) (qa (qvg w S hg) (qa (qFX w S hg) (qa (qFZ w S hg) qc))))) Tryz.func26 ?_;intro avs r h;unfold s_z26 at h;split at h
 ·obtain ⟨hp,rfl⟩:=yj h;obtain ⟨n,hn⟩:=qOy _ hp;exact ⟨n,_,(qTv n _ _).trans hn,.inl rfl⟩
 ·cases h
def E_z14:EnvP:=eQ [(23,s_z23),(24,s_z24),(25,s_z25),(26,s_z26),(27,s_z27)] 77 (some [2,3,4]) (fun x=>if x=6 then some [5,6,7,8,9] else none) (fun x=>if x=0 then some [5,6,7] else if x=1 then some [5,6,7,8,9] else none) nP
def C_z14:Code:=cO Tryz.f14
def R_z14:Array ResultVar:=Tryz.f14.results
noncomputable def qpz (K:Ex→Fr→OA):=fun out5 sets6 odd7=>K (.exit 0) (frOf [(5,(.dat (.sl (.sl (.int .i32))) out5 (some (5,25)))),(6,(.dat (.sl (.int .i64)) sets6 (some (6,3)))),(7,dc odd7)])
def quy (n:Nat):Ex→Fr→OA:=qg 0 (E_z14.cutb 0) (kSeq (evCP E_z14 (evLP E_z14 n) (sub C_z14 [1,1,1,1,1,1])) (kFnP E_z14 R_z14))
def qAp (out5:List LI) (sets6:LI) (odd7:Int) (l8:List (Int×(LU×Unit))) (i9:Int):Fr:=frOf [(5,(.dat (.sl (.sl (.int .i32))) out5 (some (5,25)))),(6,(.dat (.sl (.int .i64)) sets6 (some (6,3)))),(7,dc odd7),(8,(.dat (.sl (.pair (.int .i64) (.pair (.sl .byte) .unit))) l8 (some (8,46)))),(9,dc i9)]
theorem qGb (K:Ex→Fr→OA):∀ (n:Nat) (out5:List LI) (sets6:LI) (odd7:Int) (l8:List (Int×(LU×Unit))) (i9:Int),evLP E_z14 n (sub C_z14 [1,1,1,1,1,0,1,0,0]) K (qAp out5 sets6 odd7 l8 i9)=qtl (qpz K) n out5 sets6 odd7 l8 i9:=by
 intro n;induction n with
 | zero=>intros; rfl
 | succ n IH =>
 intro out5 sets6 odd7 l8 i9;have ih:(fun out5 sets6 odd7 l8 i9=>evLP E_z14 n (sub C_z14 [1,1,1,1,1,0,1,0,0]) K (qAp out5 sets6 odd7 l8 i9))=qtl (qpz K) n:=by
  funext out5 sets6 odd7 l8 i9;exact IH out5 sets6 odd7 l8 i9
 show _=qhk (qpz K) (qtl (qpz K) n) n out5 sets6 odd7 l8 i9;rw [← ih];kernel_rfl
theorem qxl (n:Nat) (out5:List LI) (sets6:LI) (odd7:Int):(quy n) (.exit 0) (frOf [(5,(.dat (.sl (.sl (.int .i32))) out5 (some (5,25)))),(6,(.dat (.sl (.int .i64)) sets6 (some (6,3)))),(7,dc odd7)])=qkC n out5 sets6 odd7:=by
 kernel_rfl
theorem qTw (n:Nat) (s0:LU) (o0:Lab):evFnP E_z14 n C_z14 R_z14 [db s0 o0]=qIi n s0:=by
 unfold qIi;rw [show qtl (qkC n) n=(fun out5 sets6 odd7 l8 i9=>evLP E_z14 n (sub C_z14 [1,1,1,1,1,0,1,0,0]) (quy n) (qAp out5 sets6 odd7 l8 i9)) from by
  funext out5 sets6 odd7 l8 i9;refine Eq.trans ?_ (qGb (quy n) n out5 sets6 odd7 l8 i9).symm;rw [show (qpz (quy n))=(qkC n) from by
   funext out5 sets6 odd7;exact qxl n out5 sets6 odd7]
  all_goals kernel_rfl]
 kernel_rfl
theorem qGc:qe G Tryz.prog 14 s_z14:=by
 refine sQ (E:=E_z14) (c:=C_z14) rfl (fun w S hg=>(qa (qHu w S hg) (qa (qFV w S hg) (qa (qvh w S hg) (qa (qGa w S hg) (qa (qut w S hg) qc)))))) Tryz.func14 ?_;intro avs r h;unfold s_z14 at h;split at h
 ·obtain ⟨hp,rfl⟩:=yj h;obtain ⟨n,hn⟩:=qMh _ hp;exact ⟨n,_,(qTw n _ _).trans hn,.inl rfl⟩
 ·cases h
def E_z4:EnvP:=eQ [(7,s_z7),(8,s_z8),(13,s_z13),(14,s_z14),(15,s_z15),(16,s_z16),(17,s_z17)] 81 (some [2]) (fun x=>if x=9 then some [5,7,8,9,50,51] else if x=15 then some [7,9,66,67] else none) (fun x=>if x=0 then some [7,9] else if x=1 then some [5,7,8,9,50,51] else if x=2 then some [] else if x=3 then some [7,9,66,67] else none) nP
def C_z4:Code:=cO Tryz.f4
def R_z4:Array ResultVar:=Tryz.f4.results
noncomputable def qAq (K:Ex→Fr→OA):=fun sets7 b9=>K (.exit 0) (frOf [(7,(.dat (.sl (.int .i64)) sets7 none)),(9,(.dat (.sl (.int .i64)) b9 none))])
noncomputable def qpA (K:Ex→Fr→OA):=fun s2=>K .ret (frOf [(2,dg s2)])
def qGd (n:Nat):Ex→Fr→OA:=qg 2 (E_z4.cutb 2) (kSeq (evCP E_z4 (evLP E_z4 n) (sub C_z4 [1,1,1,1,1,1,1,1])) (kFnP E_z4 R_z4))
def qGe (n:Nat):Ex→Fr→OA:=qg 0 (E_z4.cutb 0) (kSeq (evCP E_z4 (evLP E_z4 n) (sub C_z4 [1,1,1,1,1,1,1])) (kFnP E_z4 R_z4))
def qLM (l5:List LI) (sets7:LI) (a8:List LI) (b9:LI) (s50:Int) (s51:Int):Fr:=frOf [(5,(.dat (.sl (.sl (.int .i32))) l5 none)),(7,(.dat (.sl (.int .i64)) sets7 none)),(8,(.dat (.sl (.sl (.int .i32))) a8 none)),(9,(.dat (.sl (.int .i64)) b9 none)),(50,dc s50),(51,dc s51)]
def qLN (sets7:LI) (b9:LI) (s66:Int) (s67:Int):Fr:=frOf [(7,(.dat (.sl (.int .i64)) sets7 none)),(9,(.dat (.sl (.int .i64)) b9 none)),(66,dc s66),(67,dc s67)]
theorem qLO (K:Ex→Fr→OA):∀ (n:Nat) (l5:List LI) (sets7:LI) (a8:List LI) (b9:LI) (s50:Int) (s51:Int),evLP E_z4 n (sub C_z4 [1,1,1,1,1,1,0,1,0,0]) K (qLM l5 sets7 a8 b9 s50 s51)=z4_l9 (qpA K) (qAq K) n l5 sets7 a8 b9 s50 s51:=by
 intro n;induction n with
 | zero=>intros; rfl
 | succ n IH =>
 intro l5 sets7 a8 b9 s50 s51;have ih:(fun l5 sets7 a8 b9 s50 s51=>evLP E_z4 n (sub C_z4 [1,1,1,1,1,1,0,1,0,0]) K (qLM l5 sets7 a8 b9 s50 s51))=z4_l9 (qpA K) (qAq K) n:=by
  funext l5 sets7 a8 b9 s50 s51;exact IH l5 sets7 a8 b9 s50 s51
 show _=qlO (qpA K) (qAq K) (z4_l9 (qpA K) (qAq K) n) n l5 sets7 a8 b9 s50 s51;rw [← ih];kernel_rfl
theorem qGf (K:Ex→Fr→OA):∀ (n:Nat) (sets7:LI) (b9:LI) (s66:Int) (s67:Int),evLP E_z4 n (sub C_z4 [1,1,1,1,1,1,1,0,1,0,0]) K (qLN sets7 b9 s66 s67)=qtm (qpA K) (K (.exit 2) (frOf [])) n sets7 b9 s66 s67:=by
 intro n;induction n with
 | zero=>intros; rfl
 | succ n IH =>
 intro sets7 b9 s66 s67;have ih:(fun sets7 b9 s66 s67=>evLP E_z4 n (sub C_z4 [1,1,1,1,1,1,1,0,1,0,0]) K (qLN sets7 b9 s66 s67))=qtm (qpA K) (K (.exit 2) (frOf [])) n:=by
  funext sets7 b9 s66 s67;exact IH sets7 b9 s66 s67
 show _=qhl (qpA K) (K (.exit 2) (frOf [])) (qtm (qpA K) (K (.exit 2) (frOf [])) n) n sets7 b9 s66 s67;rw [← ih];kernel_rfl
theorem qxm (n:Nat)  : (qGd n) (.exit 2) (frOf [])=qoG n  := by
 kernel_rfl
theorem qAr (n:Nat) (sets7:LI) (b9:LI):(qGe n) (.exit 0) (frOf [(7,(.dat (.sl (.int .i64)) sets7 none)),(9,(.dat (.sl (.int .i64)) b9 none))])=qlP n sets7 b9:=by
 unfold qlP;rw [show qtm qlh (qoG n) n=(fun sets7 b9 s66 s67=>evLP E_z4 n (sub C_z4 [1,1,1,1,1,1,1,0,1,0,0]) (qGd n) (qLN sets7 b9 s66 s67)) from by
  funext sets7 b9 s66 s67;refine Eq.trans ?_ (qGf (qGd n) n sets7 b9 s66 s67).symm;rw [show ((qGd n) (.exit 2) (frOf []))=(qoG n) from by
   exact qxm n ]
  all_goals kernel_rfl]
 kernel_rfl
theorem z4_ev (n:Nat) (s0:LU) (o0:Lab):evFnP E_z4 n C_z4 R_z4 [db s0 o0]=z4_sh n s0:=by
 unfold z4_sh;rw [show z4_l9 qlh (qlP n) n=(fun l5 sets7 a8 b9 s50 s51=>evLP E_z4 n (sub C_z4 [1,1,1,1,1,1,0,1,0,0]) (qGe n) (qLM l5 sets7 a8 b9 s50 s51)) from by
  funext l5 sets7 a8 b9 s50 s51;refine Eq.trans ?_ (qLO (qGe n) n l5 sets7 a8 b9 s50 s51).symm;rw [show (qAq (qGe n))=(qlP n) from by
   funext sets7 b9;exact qAr n sets7 b9]
  all_goals kernel_rfl]
 kernel_rfl
theorem qLP:qe G Tryz.prog 4 s_z4:=by
 refine sQ (E:=E_z4) (c:=C_z4) rfl (fun w S hg=>(qa (qLU w S hg) (qa (qAB w S hg) (qa (qHh w S hg) (qa (qGc w S hg) (qa (quQ w S hg) (qa (quS w S hg) (qa (quT w S hg) qc)))))))) Tryz.func4 ?_;intro avs r h;unfold s_z4 at h;split at h <;> cases h
 obtain ⟨n,hn⟩:=qSH _;exact ⟨n,_,(z4_ev n _ _).trans hn,.inl rfl⟩
end
end Go.Av
