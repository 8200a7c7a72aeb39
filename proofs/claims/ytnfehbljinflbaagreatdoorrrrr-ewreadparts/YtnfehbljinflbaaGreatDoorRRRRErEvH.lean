import Derived.Test.YtnfehbljinflbaaGreatDoorRRRRErEvG
import Derived.Test.YtnfehbljinflbaaGreatDoorRRRREtN
import Derived.Test.YtnfehbljinflbaaGreatDoorRRRRProg
import Derived.KernelRfl
namespace Go.Av
noncomputable section
open Go.Proofs
set_option maxRecDepth 100000
def E_z40:EnvP:=eQ [(65,s_z65),(66,s_z66)] 45 (some [2]) (fun x=>if x=3 then some [0,3,4] else if x=5 then some [0,3,4,5] else none) (fun x=>if x=0 then some [3] else if x=1 then some [0,3,4] else if x=2 then some [0,3,4,5] else if x=3 then some [0,3,4,5] else none) nP
def C_z40:Code:=cO Tryz.f40
def R_z40:Array ResultVar:=Tryz.f40.results
def qqf (s0:LU) (out3:List (Int×(LU×Unit))) (i4:Int) (k5:Int):Fr:=frOf [(0,da s0),(3,(.dat (.sl (.pair (.int .i64) (.pair (.sl .byte) .unit))) out3 (some (3,46)))),(4,dc i4),(5,dc k5)]
noncomputable def qqg (K:Ex→Fr→OA):=fun s0 out3 i4 k5=>K (.exit 2) (qqf s0 out3 i4 k5)
noncomputable def qjD (K:Ex→Fr→OA):=fun out3=>K (.exit 0) (frOf [(3,(.dat (.sl (.pair (.int .i64) (.pair (.sl .byte) .unit))) out3 (some (3,46))))])
def quZ (n:Nat) (K:Ex→Fr→OA):Ex→Fr→OA:=qg 2 (E_z40.cutb 2) (kSeq (evCP E_z40 (evLP E_z40 n) (sub C_z40 [1,1,0,1,0,0,1,0,1,1])) (qg 1 (E_z40.cutb 1) (kSeq (fun K fr=>evLP E_z40 n (sub C_z40 [1,1,0,1,0,0]) K (cutFP (E_z40.cuts 3) fr)) K)))
def qva (n:Nat):Ex→Fr→OA:=qg 0 (E_z40.cutb 0) (kSeq (evCP E_z40 (evLP E_z40 n) (sub C_z40 [1,1,1])) (kFnP E_z40 R_z40))
def qlz (s0:LU) (out3:List (Int×(LU×Unit))) (i4:Int):Fr:=frOf [(0,da s0),(3,(.dat (.sl (.pair (.int .i64) (.pair (.sl .byte) .unit))) out3 (some (3,46)))),(4,dc i4)]
theorem qHp (K:Ex→Fr→OA):∀ (n:Nat) (s0:LU) (out3:List (Int×(LU×Unit))) (i4:Int) (k5:Int),evLP E_z40 n (sub C_z40 [1,1,0,1,0,0,1,0,1,0,0,0]) K (qqf s0 out3 i4 k5)=qoy (qqg K) n s0 out3 i4 k5:=by
 intro n;induction n with
 | zero=>intros; rfl
 | succ n IH =>
 intro s0 out3 i4 k5;have ih:(fun s0 out3 i4 k5=>evLP E_z40 n (sub C_z40 [1,1,0,1,0,0,1,0,1,0,0,0]) K (qqf s0 out3 i4 k5))=qoy (qqg K) n:=by
  funext s0 out3 i4 k5;exact IH s0 out3 i4 k5
 show _=qgS (qqg K) (qoy (qqg K) n) n s0 out3 i4 k5;rw [← ih];kernel_rfl
theorem qxW (K:Ex→Fr→OA) (n:Nat) (s0:LU) (out3:List (Int×(LU×Unit))) (i4:Int) (k5:Int):(quZ n K) (.exit 2) (qqf s0 out3 i4 k5)=qkm (fun out3=>K (.exit 0) (frOf [(3,(.dat (.sl (.pair (.int .i64) (.pair (.sl .byte) .unit))) out3 (some (3,46))))])) (fun s0 out3 i4=>evLP E_z40 n (sub C_z40 [1,1,0,1,0,0]) K (qlz s0 out3 i4)) n s0 out3 i4 k5:=by
 kernel_rfl
theorem qHq (K:Ex→Fr→OA):∀ (n:Nat) (s0:LU) (out3:List (Int×(LU×Unit))) (i4:Int),evLP E_z40 n (sub C_z40 [1,1,0,1,0,0]) K (qlz s0 out3 i4)=qqA (qjD K) n s0 out3 i4:=by
 intro n;induction n with
 | zero=>intros; rfl
 | succ n IH =>
 intro s0 out3 i4;have ih:(fun s0 out3 i4=>evLP E_z40 n (sub C_z40 [1,1,0,1,0,0]) K (qlz s0 out3 i4))=qqA (qjD K) n:=by
  funext s0 out3 i4;exact IH s0 out3 i4
 show _=qkn (qjD K) (qqA (qjD K) n) n s0 out3 i4;rw [← ih];unfold qkn;rw [show qoy (qkm (qjD K) (fun s0 out3 i4=>evLP E_z40 n (sub C_z40 [1,1,0,1,0,0]) K (qlz s0 out3 i4)) n) n=(fun s0 out3 i4 k5=>evLP E_z40 n (sub C_z40 [1,1,0,1,0,0,1,0,1,0,0,0]) (quZ n K) (qqf s0 out3 i4 k5)) from by
  funext s0 out3 i4 k5;refine Eq.trans ?_ (qHp (quZ n K) n s0 out3 i4 k5).symm;rw [show (qqg (quZ n K))=(qkm (qjD K) (fun s0 out3 i4=>evLP E_z40 n (sub C_z40 [1,1,0,1,0,0]) K (qlz s0 out3 i4)) n) from by
   funext s0 out3 i4 k5;exact qxW K n s0 out3 i4 k5]
  all_goals kernel_rfl]
 kernel_rfl
theorem qxX (n:Nat) (out3:List (Int×(LU×Unit))):(qva n) (.exit 0) (frOf [(3,(.dat (.sl (.pair (.int .i64) (.pair (.sl .byte) .unit))) out3 (some (3,46))))])=qko n out3:=by
 kernel_rfl
theorem qVk (n:Nat) (s0:LU) (o0:Lab):evFnP E_z40 n C_z40 R_z40 [db s0 o0]=qIa n s0:=by
 unfold qIa;rw [show qqA (qko n) n=(fun s0 out3 i4=>evLP E_z40 n (sub C_z40 [1,1,0,1,0,0]) (qva n) (qlz s0 out3 i4)) from by
  funext s0 out3 i4;refine Eq.trans ?_ (qHq (qva n) n s0 out3 i4).symm;rw [show (qjD (qva n))=(qko n) from by
   funext out3;exact qxX n out3]
  all_goals kernel_rfl]
 kernel_rfl
theorem qHr:qe G Tryz.prog 40 s_z40:=by
 refine sQ (E:=E_z40) (c:=C_z40) rfl (fun w S hg=>(qa (quV w S hg) (qa (qHo w S hg) qc))) Tryz.func40 ?_;intro avs r h;unfold s_z40 at h;split at h
 ·obtain ⟨hp,rfl⟩:=yj h;obtain ⟨n,hn⟩:=qOJ _ hp;exact ⟨n,_,(qVk n _ _).trans hn,.inl rfl⟩
 ·cases h
def E_z41:EnvP:=eQ [] 40 (some [4]) nC nC nP
def C_z41:Code:=cO Tryz.f41
def R_z41:Array ResultVar:=Tryz.f41.results
theorem qVl (n:Nat) (l0:List (Int×(LU×Unit))) (o0:Lab) (i1:Int) (o1:Lab):evFnP E_z41 n C_z41 R_z41 [.dat (.sl (.pair (.int .i64) (.pair (.sl .byte) .unit))) l0 o0,de i1 o1]=qMT n l0 i1:=by
 kernel_rfl
theorem qHs:qe G Tryz.prog 41 s_z41:=by
 refine sQ (E:=E_z41) (c:=C_z41) rfl (fun w S hg=>qc) Tryz.func41 ?_;intro avs r h;unfold s_z41 at h;split at h
 ·obtain ⟨hp,rfl⟩:=yj h;obtain ⟨n,hn⟩:=qOF _ _ hp;exact ⟨n,_,(qVl n _ _ _ _).trans hn,.inl rfl⟩
 ·cases h
def E_z23:EnvP:=eQ [(40,s_z40),(41,s_z41)] 26 (some [2]) (fun x=>if x=4 then some [3,4,5] else none) (fun x=>if x=0 then some [4] else if x=1 then some [3,4,5] else none) nP
def C_z23:Code:=cO Tryz.f23
def R_z23:Array ResultVar:=Tryz.f23.results
noncomputable def qqh (K:Ex→Fr→OA):=fun out4=>K (.exit 0) (frOf [(4,(.dat (.sl (.pair (.int .i64) (.pair (.sl .byte) .unit))) out4 (some (4,46))))])
def qvb (n:Nat):Ex→Fr→OA:=qg 0 (E_z23.cutb 0) (kSeq (evCP E_z23 (evLP E_z23 n) (sub C_z23 [1,1,1,1])) (kFnP E_z23 R_z23))
def qBX (l3:List (Int×(LU×Unit))) (out4:List (Int×(LU×Unit))) (i5:Int):Fr:=frOf [(3,(.dat (.sl (.pair (.int .i64) (.pair (.sl .byte) .unit))) l3 (some (3,46)))),(4,(.dat (.sl (.pair (.int .i64) (.pair (.sl .byte) .unit))) out4 (some (4,46)))),(5,dc i5)]
theorem qHt (K:Ex→Fr→OA):∀ (n:Nat) (l3:List (Int×(LU×Unit))) (out4:List (Int×(LU×Unit))) (i5:Int),evLP E_z23 n (sub C_z23 [1,1,1,0,1,0,0]) K (qBX l3 out4 i5)=qoz (qqh K) n l3 out4 i5:=by
 intro n;induction n with
 | zero=>intros; rfl
 | succ n IH =>
 intro l3 out4 i5;have ih:(fun l3 out4 i5=>evLP E_z23 n (sub C_z23 [1,1,1,0,1,0,0]) K (qBX l3 out4 i5))=qoz (qqh K) n:=by
  funext l3 out4 i5;exact IH l3 out4 i5
 show _=qgT (qqh K) (qoz (qqh K) n) n l3 out4 i5;rw [← ih];kernel_rfl
theorem qxY (n:Nat) (out4:List (Int×(LU×Unit))):(qvb n) (.exit 0) (frOf [(4,(.dat (.sl (.pair (.int .i64) (.pair (.sl .byte) .unit))) out4 (some (4,46))))])=qkp n out4:=by
 kernel_rfl
theorem qVm (n:Nat) (s0:LU) (o0:Lab):evFnP E_z23 n C_z23 R_z23 [db s0 o0]=qIb n s0:=by
 unfold qIb;rw [show qoz (qkp n) n=(fun l3 out4 i5=>evLP E_z23 n (sub C_z23 [1,1,1,0,1,0,0]) (qvb n) (qBX l3 out4 i5)) from by
  funext l3 out4 i5;refine Eq.trans ?_ (qHt (qvb n) n l3 out4 i5).symm;rw [show (qqh (qvb n))=(qkp n) from by
   funext out4;exact qxY n out4]
  all_goals kernel_rfl]
 kernel_rfl
theorem qHu:qe G Tryz.prog 23 s_z23:=by
 refine sQ (E:=E_z23) (c:=C_z23) rfl (fun w S hg=>(qa (qHr w S hg) (qa (qHs w S hg) qc))) Tryz.func23 ?_;intro avs r h;unfold s_z23 at h;split at h
 ·obtain ⟨hp,rfl⟩:=yj h;obtain ⟨n,hn⟩:=qOH _ hp;exact ⟨n,_,(qVm n _ _).trans hn,.inl rfl⟩
 ·cases h
def E_z76:EnvP:=eQ [(109,s_z109)] 20 (some [2]) (fun x=>if x=3 then some [0,3,4] else none) (fun x=>if x=0 then some [3] else if x=1 then some [0,3,4] else none) nP
def C_z76:Code:=cO Tryz.f76
def R_z76:Array ResultVar:=Tryz.f76.results
noncomputable def qqi (K:Ex→Fr→OA):=fun out3=>K (.exit 0) (frOf [(3,(db out3 (some (3,5))))])
def qvc (n:Nat):Ex→Fr→OA:=qg 0 (E_z76.cutb 0) (kSeq (evCP E_z76 (evLP E_z76 n) (sub C_z76 [1,1,1])) (kFnP E_z76 R_z76))
def qBY (s0:LU) (out3:LU) (i4:Int):Fr:=frOf [(0,da s0),(3,(db out3 (some (3,5)))),(4,dc i4)]
theorem qHv (K:Ex→Fr→OA):∀ (n:Nat) (s0:LU) (out3:LU) (i4:Int),evLP E_z76 n (sub C_z76 [1,1,0,1,0,0]) K (qBY s0 out3 i4)=qtb (qqi K) n s0 out3 i4:=by
 intro n;induction n with
 | zero=>intros; rfl
 | succ n IH =>
 intro s0 out3 i4;have ih:(fun s0 out3 i4=>evLP E_z76 n (sub C_z76 [1,1,0,1,0,0]) K (qBY s0 out3 i4))=qtb (qqi K) n:=by
  funext s0 out3 i4;exact IH s0 out3 i4
 show _=qgU (qqi K) (qtb (qqi K) n) n s0 out3 i4;rw [← ih];kernel_rfl
theorem qxZ (n:Nat) (out3:LU):(qvc n) (.exit 0) (frOf [(3,(db out3 (some (3,5))))])=qgV n out3:=by
 kernel_rfl
theorem qVn (n:Nat) (s0:LU) (o0:Lab):evFnP E_z76 n C_z76 R_z76 [db s0 o0]=qIc n s0:=by
 unfold qIc;rw [show qtb (qgV n) n=(fun s0 out3 i4=>evLP E_z76 n (sub C_z76 [1,1,0,1,0,0]) (qvc n) (qBY s0 out3 i4)) from by
  funext s0 out3 i4;refine Eq.trans ?_ (qHv (qvc n) n s0 out3 i4).symm;rw [show (qqi (qvc n))=(qgV n) from by
   funext out3;exact qxZ n out3]
  all_goals kernel_rfl]
 kernel_rfl
theorem qHw:qe G Tryz.prog 76 s_z76:=by
 refine sQ (E:=E_z76) (c:=C_z76) rfl (fun w S hg=>(qa (qqc w S hg) qc)) Tryz.func76 ?_;intro avs r h;unfold s_z76 at h;split at h
 ·obtain ⟨hp,rfl⟩:=yj h;obtain ⟨n,hn⟩:=qOf _ hp;exact ⟨n,_,(qVn n _ _).trans hn,.inl rfl⟩
 ·cases h
def qeC:EnvP:=eQ [(79,s_z79)] 36 (some [2]) (fun x=>if x=2 then some [0,3,4] else if x=4 then some [0,3,4] else none) (fun x=>if x=0 then some [0,3,4] else if x=1 then some [0,3,4] else if x=2 then some [0,3,4] else if x=3 then some [0,3,4] else none) nP
def qla:Code:=cO Tryz.f113
def qLW:Array ResultVar:=Tryz.f113.results
def qcr (s0:LU) (a3:Int) (b4:Int):Fr:=frOf [(0,da s0),(3,dc a3),(4,dc b4)]
noncomputable def qjE (K:Ex→Fr→OA):=fun s0 a3 b4=>K (.exit 0) (qcr s0 a3 b4)
noncomputable def qjF (K:Ex→Fr→OA):=fun s0 a3 b4=>K (.exit 2) (qcr s0 a3 b4)
def qnS (n:Nat):Ex→Fr→OA:=qg 2 (qeC.cutb 2) (kSeq (evCP qeC (evLP qeC n) (sub qla [1,1,1,1])) (kFnP qeC qLW))
def qnT (n:Nat):Ex→Fr→OA:=qg 0 (qeC.cutb 0) (kSeq (evCP qeC (evLP qeC n) (sub qla [1,1,1])) (kFnP qeC qLW))
theorem qBZ (K:Ex→Fr→OA):∀ (n:Nat) (s0:LU) (a3:Int) (b4:Int),evLP qeC n (sub qla [1,1,0,0,0]) K (qcr s0 a3 b4)=qgc (qjE K) n s0 a3 b4:=by
 intro n;induction n with
 | zero=>intros; rfl
 | succ n IH =>
 intro s0 a3 b4;have ih:(fun s0 a3 b4=>evLP qeC n (sub qla [1,1,0,0,0]) K (qcr s0 a3 b4))=qgc (qjE K) n:=by
  funext s0 a3 b4;exact IH s0 a3 b4
 show _=qeu (qjE K) (qgc (qjE K) n) n s0 a3 b4;rw [← ih];kernel_rfl
theorem qCa (K:Ex→Fr→OA):∀ (n:Nat) (s0:LU) (a3:Int) (b4:Int),evLP qeC n (sub qla [1,1,1,0,0,0]) K (qcr s0 a3 b4)=qgd (qjF K) n s0 a3 b4:=by
 intro n;induction n with
 | zero=>intros; rfl
 | succ n IH =>
 intro s0 a3 b4;have ih:(fun s0 a3 b4=>evLP qeC n (sub qla [1,1,1,0,0,0]) K (qcr s0 a3 b4))=qgd (qjF K) n:=by
  funext s0 a3 b4;exact IH s0 a3 b4
 show _=qev (qjF K) (qgd (qjF K) n) n s0 a3 b4;rw [← ih];kernel_rfl
theorem qsD (n:Nat) (s0:LU) (a3:Int) (b4:Int):(qnS n) (.exit 2) (qcr s0 a3 b4)=qew n s0 a3 b4:=by
 kernel_rfl
theorem qsE (n:Nat) (s0:LU) (a3:Int) (b4:Int):(qnT n) (.exit 0) (qcr s0 a3 b4)=qdf n s0 a3 b4:=by
 unfold qdf;rw [show qgd (qew n) n=(fun s0 a3 b4=>evLP qeC n (sub qla [1,1,1,0,0,0]) (qnS n) (qcr s0 a3 b4)) from by
  funext s0 a3 b4;refine Eq.trans ?_ (qCa (qnS n) n s0 a3 b4).symm;rw [show (qjF (qnS n))=(qew n) from by
   funext s0 a3 b4;exact qsD n s0 a3 b4]
  all_goals kernel_rfl]
 kernel_rfl
theorem qSl (n:Nat) (s0:LU) (o0:Lab):evFnP qeC n qla qLW [db s0 o0]=qvS n s0:=by
 unfold qvS;rw [show qgc (qdf n) n=(fun s0 a3 b4=>evLP qeC n (sub qla [1,1,0,0,0]) (qnT n) (qcr s0 a3 b4)) from by
  funext s0 a3 b4;refine Eq.trans ?_ (qBZ (qnT n) n s0 a3 b4).symm;rw [show (qjE (qnT n))=(qdf n) from by
   funext s0 a3 b4;exact qsE n s0 a3 b4]
  all_goals kernel_rfl]
 kernel_rfl
theorem qCb:qe G Tryz.prog 113 s_z113:=by
 refine sQ (E:=qeC) (c:=qla) rfl (fun w S hg=>(qa (qnR w S hg) qc)) Tryz.func113 ?_;intro avs r h;unfold s_z113 at h;split at h
 ·obtain ⟨hp,rfl⟩:=yj h;obtain ⟨n,hn⟩:=qJd _ hp;exact ⟨n,_,(qSl n _ _).trans hn,.inl rfl⟩
 ·cases h
def E_z77:EnvP:=eQ [(113,s_z113)] 24 (some [2]) (fun x=>if x=3 then some [0,3,4] else none) (fun x=>if x=0 then some [0,3] else if x=1 then some [0,3,4] else none) nP
def C_z77:Code:=cO Tryz.f77
def R_z77:Array ResultVar:=Tryz.f77.results
noncomputable def qqj (K:Ex→Fr→OA):=fun s0 end3=>K (.exit 0) (frOf [(0,da s0),(3,dc end3)])
def qvd (n:Nat):Ex→Fr→OA:=qg 0 (E_z77.cutb 0) (kSeq (evCP E_z77 (evLP E_z77 n) (sub C_z77 [1,1,1])) (kFnP E_z77 R_z77))
def qCc (s0:LU) (end3:Int) (i4:Int):Fr:=frOf [(0,da s0),(3,dc end3),(4,dc i4)]
theorem qHx (K:Ex→Fr→OA):∀ (n:Nat) (s0:LU) (end3:Int) (i4:Int),evLP E_z77 n (sub C_z77 [1,1,0,1,0,0]) K (qCc s0 end3 i4)=qtc (qqj K) n s0 end3 i4:=by
 intro n;induction n with
 | zero=>intros; rfl
 | succ n IH =>
 intro s0 end3 i4;have ih:(fun s0 end3 i4=>evLP E_z77 n (sub C_z77 [1,1,0,1,0,0]) K (qCc s0 end3 i4))=qtc (qqj K) n:=by
  funext s0 end3 i4;exact IH s0 end3 i4
 show _=qgW (qqj K) (qtc (qqj K) n) n s0 end3 i4;rw [← ih];kernel_rfl
theorem qya (n:Nat) (s0:LU) (end3:Int):(qvd n) (.exit 0) (frOf [(0,da s0),(3,dc end3)])=qeW n s0 end3:=by
 kernel_rfl
theorem qVo (n:Nat) (s0:LU) (o0:Lab):evFnP E_z77 n C_z77 R_z77 [db s0 o0]=qId n s0:=by
 unfold qId;rw [show qtc (qeW n) n=(fun s0 end3 i4=>evLP E_z77 n (sub C_z77 [1,1,0,1,0,0]) (qvd n) (qCc s0 end3 i4)) from by
  funext s0 end3 i4;refine Eq.trans ?_ (qHx (qvd n) n s0 end3 i4).symm;rw [show (qqj (qvd n))=(qeW n) from by
   funext s0 end3;exact qya n s0 end3]
  all_goals kernel_rfl]
 kernel_rfl
theorem qHy:qe G Tryz.prog 77 s_z77:=by
 refine sQ (E:=E_z77) (c:=C_z77) rfl (fun w S hg=>(qa (qCb w S hg) qc)) Tryz.func77 ?_;intro avs r h;unfold s_z77 at h;split at h
 ·obtain ⟨hp,rfl⟩:=yj h;obtain ⟨n,hn⟩:=qOr _ hp;exact ⟨n,_,(qVo n _ _).trans hn,.inl rfl⟩
 ·cases h
def E_z78:EnvP:=eQ [] 19 (some [2]) nC (fun x=>if x=0 then some [] else none) nP
def C_z78:Code:=cO Tryz.f78
def R_z78:Array ResultVar:=Tryz.f78.results
theorem qVp (n:Nat) (n0:Int) (o0:Lab):evFnP E_z78 n C_z78 R_z78 [de n0 o0]=qMU n n0:=by
 kernel_rfl
theorem qHz:qe G Tryz.prog 78 s_z78:=by
 refine sQ (E:=E_z78) (c:=C_z78) rfl (fun w S hg=>qc) Tryz.func78 ?_;intro avs r h;unfold s_z78 at h;split at h <;> cases h
 obtain ⟨n,hn⟩:=qNH _;exact ⟨n,_,(qVp n _ _).trans hn,.inl rfl⟩
def E_z46:EnvP:=eQ [(76,s_z76),(77,s_z77),(78,s_z78)] 31 (some [2,3]) (fun x=>if x=3 then some [4,5] else if x=7 then some [4,5,6,7] else none) (fun x=>if x=0 then some [] else if x=1 then some [4,5] else if x=2 then some [4,5] else if x=3 then some [4,5,6,7] else none) nP
def C_z46:Code:=cO Tryz.f46
def R_z46:Array ResultVar:=Tryz.f46.results
noncomputable def qdB (K:Ex→Fr→OA):=fun s2 s3=>K .ret (frOf [(2,dc s2),(3,dc s3)])
def qhx (b4:LU) (n5:Int):Fr:=frOf [(4,(df b4 none)),(5,dc n5)]
noncomputable def qqk (K:Ex→Fr→OA):=fun b4 n5=>K (.exit 2) (qhx b4 n5)
def qve (n:Nat) (K:Ex→Fr→OA):Ex→Fr→OA:=qg 2 (E_z46.cutb 2) (qg 1 (E_z46.cutb 1) (kSeq (evCP E_z46 (evLP E_z46 n) (sub C_z46 [1,1,0,1,0,0,1,1])) (kSeq (fun K fr=>evLP E_z46 n (sub C_z46 [1,1,0,1,0,0]) K (cutFP (E_z46.cuts 3) fr)) K)))
def qvf (n:Nat):Ex→Fr→OA:=qg 0 (E_z46.cutb 0) (kSeq (evCP E_z46 (evLP E_z46 n) (sub C_z46 [1,1,1])) (kFnP E_z46 R_z46))
def qCd (b4:LU) (n5:Int) (l6:List LU) (i7:Int):Fr:=frOf [(4,(df b4 none)),(5,dc n5),(6,(.dat (.sl .str) l6 (some (6,9)))),(7,dc i7)]
theorem qHA (K:Ex→Fr→OA):∀ (n:Nat) (b4:LU) (n5:Int) (l6:List LU) (i7:Int),evLP E_z46 n (sub C_z46 [1,1,0,1,0,0,1,0,0,1,1,0,0]) K (qCd b4 n5 l6 i7)=qtd (qdB K) (qqk K) n b4 n5 l6 i7:=by
 intro n;induction n with
 | zero=>intros; rfl
 | succ n IH =>
 intro b4 n5 l6 i7;have ih:(fun b4 n5 l6 i7=>evLP E_z46 n (sub C_z46 [1,1,0,1,0,0,1,0,0,1,1,0,0]) K (qCd b4 n5 l6 i7))=qtd (qdB K) (qqk K) n:=by
  funext b4 n5 l6 i7;exact IH b4 n5 l6 i7
 show _=qgX (qdB K) (qqk K) (qtd (qdB K) (qqk K) n) n b4 n5 l6 i7;rw [← ih];kernel_rfl
theorem qyb (K:Ex→Fr→OA) (n:Nat) (b4:LU) (n5:Int):(qve n K) (.exit 2) (qhx b4 n5)=qkr (fun s2 s3=>K .ret (frOf [(2,dc s2),(3,dc s3)])) (K (.exit 0) (frOf [])) (fun b4 n5=>evLP E_z46 n (sub C_z46 [1,1,0,1,0,0]) K (qhx b4 n5)) n b4 n5:=by
 kernel_rfl
theorem qHB (K:Ex→Fr→OA):∀ (n:Nat) (b4:LU) (n5:Int),evLP E_z46 n (sub C_z46 [1,1,0,1,0,0]) K (qhx b4 n5)=qkt (qdB K) (K (.exit 0) (frOf [])) n b4 n5:=by
 intro n;induction n with
 | zero=>intros; rfl
 | succ n IH =>
 intro b4 n5;have ih:(fun b4 n5=>evLP E_z46 n (sub C_z46 [1,1,0,1,0,0]) K (qhx b4 n5))=qkt (qdB K) (K (.exit 0) (frOf [])) n:=by
  funext b4 n5;exact IH b4 n5
 show _=qks (qdB K) (K (.exit 0) (frOf [])) (qkt (qdB K) (K (.exit 0) (frOf [])) n) n b4 n5;rw [← ih];unfold qks;rw [show qtd (qdB K) (qkr (qdB K) (K (.exit 0) (frOf [])) (fun b4 n5=>evLP E_z46 n (sub C_z46 [1,1,0,1,0,0]) K (qhx b4 n5)) n) n=(fun b4 n5 l6 i7=>evLP E_z46 n (sub C_z46 [1,1,0,1,0,0,1,0,0,1,1,0,0]) (qve n K) (qCd b4 n5 l6 i7)) from by
  funext b4 n5 l6 i7;refine Eq.trans ?_ (qHA (qve n K) n b4 n5 l6 i7).symm;rw [show (qqk (qve n K))=(qkr (qdB K) (K (.exit 0) (frOf [])) (fun b4 n5=>evLP E_z46 n (sub C_z46 [1,1,0,1,0,0]) K (qhx b4 n5)) n) from by
   funext b4 n5;exact qyb K n b4 n5]
  all_goals kernel_rfl]
 kernel_rfl
theorem qyc (n:Nat)  : (qvf n) (.exit 0) (frOf [])=qdg n  := by
 kernel_rfl
theorem qVq (n:Nat) (s0:LU) (o0:Lab):evFnP E_z46 n C_z46 R_z46 [db s0 o0]=qIe n s0:=by
 unfold qIe;rw [show qkt qaO (qdg n) n=(fun b4 n5=>evLP E_z46 n (sub C_z46 [1,1,0,1,0,0]) (qvf n) (qhx b4 n5)) from by
  funext b4 n5;refine Eq.trans ?_ (qHB (qvf n) n b4 n5).symm;rw [show ((qvf n) (.exit 0) (frOf []))=(qdg n) from by
   exact qyc n ]
  all_goals kernel_rfl]
 kernel_rfl
theorem qvg:qe G Tryz.prog 46 s_z46:=by
 refine sQ (E:=E_z46) (c:=C_z46) rfl (fun w S hg=>(qa (qHw w S hg) (qa (qHy w S hg) (qa (qHz w S hg) qc)))) Tryz.func46 ?_;intro avs r h;unfold s_z46 at h;split at h
 ·obtain ⟨hp,rfl⟩:=yj h;obtain ⟨n,hn⟩:=qOs _ hp;exact ⟨n,_,(qVq n _ _).trans hn,.inl rfl⟩
 ·cases h
def E_z25:EnvP:=eQ [(42,s_z42),(46,s_z46)] 23 (some [2]) nC nC nP
def C_z25:Code:=cO Tryz.f25
def R_z25:Array ResultVar:=Tryz.f25.results
theorem qVr (n:Nat) (s0:LU) (o0:Lab):evFnP E_z25 n C_z25 R_z25 [db s0 o0]=qMV n s0:=by
 kernel_rfl
theorem qvh:qe G Tryz.prog 25 s_z25:=by
 refine sQ (E:=E_z25) (c:=C_z25) rfl (fun w S hg=>(qa (qik w S hg) (qa (qvg w S hg) qc))) Tryz.func25 ?_;intro avs r h;unfold s_z25 at h;split at h
 ·obtain ⟨hp,rfl⟩:=yj h;obtain ⟨n,hn⟩:=qOw _ hp;exact ⟨n,_,(qVr n _ _).trans hn,.inl rfl⟩
 ·cases h
def qSm:EnvP:=eQ [] 31 (some [2]) nC (fun x=>if x=0 then some [] else none) nP
def qSn:Code:=cO Tryz.f138
def qVs:Array ResultVar:=Tryz.f138.results
theorem qSo (n:Nat) (n0:Int) (o0:Lab):evFnP qSm n qSn qVs [de n0 o0]=qDP n n0:=by
 kernel_rfl
theorem qCe:qe G Tryz.prog 138 s_z138:=by
 refine sQ (E:=qSm) (c:=qSn) rfl (fun w S hg=>qc) Tryz.func138 ?_;intro avs r h;unfold s_z138 at h;split at h <;> cases h
 obtain ⟨n,hn⟩:=qIP _;exact ⟨n,_,(qSo n _ _).trans hn,.inl rfl⟩
def qnU:EnvP:=eQ [(138,s_z138)] 14 (some [2,3]) (fun x=>if x=2 then some [0,4] else none) (fun x=>if x=0 then some [] else if x=1 then some [0,4] else none) nP
def qyd:Code:=cO Tryz.f110
def qSp:Array ResultVar:=Tryz.f110.results
noncomputable def qnV (K:Ex→Fr→OA):=fun s2 s3=>K .ret (frOf [(2,dc s2),(3,dg s3)])
def qnW (n:Nat):Ex→Fr→OA:=qg 0 (qnU.cutb 0) (kSeq (evCP qnU (evLP qnU n) (sub qyd [1,1])) (kFnP qnU qSp))
def qsF (c0:UInt8) (n4:Int):Fr:=frOf [(0,dm c0),(4,dc n4)]
theorem qCf (K:Ex→Fr→OA):∀ (n:Nat) (c0:UInt8) (n4:Int),evLP qnU n (sub qyd [1,0,1,0,0]) K (qsF c0 n4)=qku (qnV K) (K (.exit 0) (frOf [])) n c0 n4:=by
 intro n;induction n with
 | zero=>intros; rfl
 | succ n IH =>
 intro c0 n4;have ih:(fun c0 n4=>evLP qnU n (sub qyd [1,0,1,0,0]) K (qsF c0 n4))=qku (qnV K) (K (.exit 0) (frOf [])) n:=by
  funext c0 n4;exact IH c0 n4
 show _=qex (qnV K) (K (.exit 0) (frOf [])) (qku (qnV K) (K (.exit 0) (frOf [])) n) n c0 n4;rw [← ih];kernel_rfl
theorem qsG (n:Nat)  : (qnW n) (.exit 0) (frOf [])=qge n  := by
 kernel_rfl
theorem qSq (n:Nat) (c0:UInt8) (o0:Lab):evFnP qnU n qyd qSp [dn c0 o0]=qvU n c0:=by
 unfold qvU;rw [show qku qeY (qge n) n=(fun c0 n4=>evLP qnU n (sub qyd [1,0,1,0,0]) (qnW n) (qsF c0 n4)) from by
  funext c0 n4;refine Eq.trans ?_ (qCf (qnW n) n c0 n4).symm;rw [show ((qnW n) (.exit 0) (frOf []))=(qge n) from by
   exact qsG n ]
  all_goals kernel_rfl]
 kernel_rfl
theorem qql:qe G Tryz.prog 110 s_z110:=by
 refine sQ (E:=qnU) (c:=qyd) rfl (fun w S hg=>(qa (qCe w S hg) qc)) Tryz.func110 ?_;intro avs r h;unfold s_z110 at h;split at h <;> cases h
 obtain ⟨n,hn⟩:=qJr _;exact ⟨n,_,(qSq n _ _).trans hn,.inl rfl⟩
end
end Go.Av
