import Derived.Test.YtnfehbljinflbaaGreatDoorRRRRErEvG
import Derived.Test.YtnfehbljinflbaaGreatDoorRRRREtN
import Derived.Test.YtnfehbljinflbaaGreatDoorRRRRProg
import Derived.KernelRfl
namespace Go.Av
noncomputable section
open Go.Proofs
set_option maxRecDepth 100000
def E_z41:EnvP:=eQ [] 40 (some [4]) nC nC nP
def C_z41:Code:=cO Tryz.f41
def R_z41:Array ResultVar:=Tryz.f41.results
theorem qVn (n:Nat) (l0:List (Int×(LU×Unit))) (o0:Lab) (i1:Int) (o1:Lab):evFnP E_z41 n C_z41 R_z41 [.dat (.sl (.pair (.int .i64) (.pair (.sl .byte) .unit))) l0 o0,de i1 o1]=qMT n l0 i1:=by
 kernel_rfl
theorem qHk:qe G Tryz.prog 41 s_z41:=by
 refine sQ (E:=E_z41) (c:=C_z41) rfl (fun w S hg=>qc) Tryz.func41 ?_;intro avs r h;unfold s_z41 at h;split at h
 ·obtain ⟨hp,rfl⟩:=yj h;obtain ⟨n,hn⟩:=qOI _ _ hp;exact ⟨n,_,(qVn n _ _ _ _).trans hn,.inl rfl⟩
 ·cases h
def E_z23:EnvP:=eQ [(40,s_z40),(41,s_z41)] 26 (some [2]) (fun x=>if x=4 then some [3,4,5] else none) (fun x=>if x=0 then some [4] else if x=1 then some [3,4,5] else none) nP
def C_z23:Code:=cO Tryz.f23
def R_z23:Array ResultVar:=Tryz.f23.results
noncomputable def qqb (K:Ex→Fr→OA):=fun out4=>K (.exit 0) (frOf [(4,(.dat (.sl (.pair (.int .i64) (.pair (.sl .byte) .unit))) out4 (some (4,46))))])
def quW (n:Nat):Ex→Fr→OA:=qh 0 (E_z23.cutb 0) (kSeq (evCP E_z23 (evLP E_z23 n) (sub C_z23 [1,1,1,1])) (kFnP E_z23 R_z23))
def qBT (l3:List (Int×(LU×Unit))) (out4:List (Int×(LU×Unit))) (i5:Int):Fr:=frOf [(3,(.dat (.sl (.pair (.int .i64) (.pair (.sl .byte) .unit))) l3 (some (3,46)))),(4,(.dat (.sl (.pair (.int .i64) (.pair (.sl .byte) .unit))) out4 (some (4,46)))),(5,dc i5)]
theorem qHl (K:Ex→Fr→OA):∀ (n:Nat) (l3:List (Int×(LU×Unit))) (out4:List (Int×(LU×Unit))) (i5:Int),evLP E_z23 n (sub C_z23 [1,1,1,0,1,0,0]) K (qBT l3 out4 i5)=qov (qqb K) n l3 out4 i5:=by
 intro n;induction n with
 | zero=>intros; rfl
 | succ n IH =>
 intro l3 out4 i5;have ih:(fun l3 out4 i5=>evLP E_z23 n (sub C_z23 [1,1,1,0,1,0,0]) K (qBT l3 out4 i5))=qov (qqb K) n:=by
  funext l3 out4 i5;exact IH l3 out4 i5
 show _=qgS (qqb K) (qov (qqb K) n) n l3 out4 i5;rw [← ih];kernel_rfl
theorem qxT (n:Nat) (out4:List (Int×(LU×Unit))):(quW n) (.exit 0) (frOf [(4,(.dat (.sl (.pair (.int .i64) (.pair (.sl .byte) .unit))) out4 (some (4,46))))])=qko n out4:=by
 kernel_rfl
theorem qVo (n:Nat) (s0:LU) (o0:Lab):evFnP E_z23 n C_z23 R_z23 [db s0 o0]=qHY n s0:=by
 unfold qHY;rw [show qov (qko n) n=(fun l3 out4 i5=>evLP E_z23 n (sub C_z23 [1,1,1,0,1,0,0]) (quW n) (qBT l3 out4 i5)) from by
  funext l3 out4 i5;refine Eq.trans ?_ (qHl (quW n) n l3 out4 i5).symm;rw [show (qqb (quW n))=(qko n) from by
   funext out4;exact qxT n out4]
  all_goals kernel_rfl]
 kernel_rfl
theorem qHm:qe G Tryz.prog 23 s_z23:=by
 refine sQ (E:=E_z23) (c:=C_z23) rfl (fun w S hg=>(qa (qHj w S hg) (qa (qHk w S hg) qc))) Tryz.func23 ?_;intro avs r h;unfold s_z23 at h;split at h
 ·obtain ⟨hp,rfl⟩:=yj h;obtain ⟨n,hn⟩:=qOK _ hp;exact ⟨n,_,(qVo n _ _).trans hn,.inl rfl⟩
 ·cases h
def E_z76:EnvP:=eQ [(109,s_z109)] 20 (some [2]) (fun x=>if x=3 then some [0,3,4] else none) (fun x=>if x=0 then some [3] else if x=1 then some [0,3,4] else none) nP
def C_z76:Code:=cO Tryz.f76
def R_z76:Array ResultVar:=Tryz.f76.results
noncomputable def qqc (K:Ex→Fr→OA):=fun out3=>K (.exit 0) (frOf [(3,(db out3 (some (3,5))))])
def quX (n:Nat):Ex→Fr→OA:=qh 0 (E_z76.cutb 0) (kSeq (evCP E_z76 (evLP E_z76 n) (sub C_z76 [1,1,1])) (kFnP E_z76 R_z76))
def qBU (s0:LU) (out3:LU) (i4:Int):Fr:=frOf [(0,da s0),(3,(db out3 (some (3,5)))),(4,dc i4)]
theorem qHn (K:Ex→Fr→OA):∀ (n:Nat) (s0:LU) (out3:LU) (i4:Int),evLP E_z76 n (sub C_z76 [1,1,0,1,0,0]) K (qBU s0 out3 i4)=qsZ (qqc K) n s0 out3 i4:=by
 intro n;induction n with
 | zero=>intros; rfl
 | succ n IH =>
 intro s0 out3 i4;have ih:(fun s0 out3 i4=>evLP E_z76 n (sub C_z76 [1,1,0,1,0,0]) K (qBU s0 out3 i4))=qsZ (qqc K) n:=by
  funext s0 out3 i4;exact IH s0 out3 i4
 show _=qgT (qqc K) (qsZ (qqc K) n) n s0 out3 i4;rw [← ih];kernel_rfl
theorem qxU (n:Nat) (out3:LU):(quX n) (.exit 0) (frOf [(3,(db out3 (some (3,5))))])=qgU n out3:=by
 kernel_rfl
theorem qVp (n:Nat) (s0:LU) (o0:Lab):evFnP E_z76 n C_z76 R_z76 [db s0 o0]=qHZ n s0:=by
 unfold qHZ;rw [show qsZ (qgU n) n=(fun s0 out3 i4=>evLP E_z76 n (sub C_z76 [1,1,0,1,0,0]) (quX n) (qBU s0 out3 i4)) from by
  funext s0 out3 i4;refine Eq.trans ?_ (qHn (quX n) n s0 out3 i4).symm;rw [show (qqc (quX n))=(qgU n) from by
   funext out3;exact qxU n out3]
  all_goals kernel_rfl]
 kernel_rfl
theorem qHo:qe G Tryz.prog 76 s_z76:=by
 refine sQ (E:=E_z76) (c:=C_z76) rfl (fun w S hg=>(qa (qpW w S hg) qc)) Tryz.func76 ?_;intro avs r h;unfold s_z76 at h;split at h
 ·obtain ⟨hp,rfl⟩:=yj h;obtain ⟨n,hn⟩:=qOi _ hp;exact ⟨n,_,(qVp n _ _).trans hn,.inl rfl⟩
 ·cases h
def qeB:EnvP:=eQ [(79,s_z79)] 36 (some [2]) (fun x=>if x=2 then some [0,3,4] else if x=4 then some [0,3,4] else none) (fun x=>if x=0 then some [0,3,4] else if x=1 then some [0,3,4] else if x=2 then some [0,3,4] else if x=3 then some [0,3,4] else none) nP
def qlb:Code:=cO Tryz.f113
def qLR:Array ResultVar:=Tryz.f113.results
def qcr (s0:LU) (a3:Int) (b4:Int):Fr:=frOf [(0,da s0),(3,dc a3),(4,dc b4)]
noncomputable def qjE (K:Ex→Fr→OA):=fun s0 a3 b4=>K (.exit 0) (qcr s0 a3 b4)
noncomputable def qjF (K:Ex→Fr→OA):=fun s0 a3 b4=>K (.exit 2) (qcr s0 a3 b4)
def qnO (n:Nat):Ex→Fr→OA:=qh 2 (qeB.cutb 2) (kSeq (evCP qeB (evLP qeB n) (sub qlb [1,1,1,1])) (kFnP qeB qLR))
def qnP (n:Nat):Ex→Fr→OA:=qh 0 (qeB.cutb 0) (kSeq (evCP qeB (evLP qeB n) (sub qlb [1,1,1])) (kFnP qeB qLR))
theorem qBV (K:Ex→Fr→OA):∀ (n:Nat) (s0:LU) (a3:Int) (b4:Int),evLP qeB n (sub qlb [1,1,0,0,0]) K (qcr s0 a3 b4)=qgd (qjE K) n s0 a3 b4:=by
 intro n;induction n with
 | zero=>intros; rfl
 | succ n IH =>
 intro s0 a3 b4;have ih:(fun s0 a3 b4=>evLP qeB n (sub qlb [1,1,0,0,0]) K (qcr s0 a3 b4))=qgd (qjE K) n:=by
  funext s0 a3 b4;exact IH s0 a3 b4
 show _=qet (qjE K) (qgd (qjE K) n) n s0 a3 b4;rw [← ih];kernel_rfl
theorem qBW (K:Ex→Fr→OA):∀ (n:Nat) (s0:LU) (a3:Int) (b4:Int),evLP qeB n (sub qlb [1,1,1,0,0,0]) K (qcr s0 a3 b4)=qge (qjF K) n s0 a3 b4:=by
 intro n;induction n with
 | zero=>intros; rfl
 | succ n IH =>
 intro s0 a3 b4;have ih:(fun s0 a3 b4=>evLP qeB n (sub qlb [1,1,1,0,0,0]) K (qcr s0 a3 b4))=qge (qjF K) n:=by
  funext s0 a3 b4;exact IH s0 a3 b4
 show _=qeu (qjF K) (qge (qjF K) n) n s0 a3 b4;rw [← ih];kernel_rfl
theorem qsB (n:Nat) (s0:LU) (a3:Int) (b4:Int):(qnO n) (.exit 2) (qcr s0 a3 b4)=qev n s0 a3 b4:=by
 kernel_rfl
theorem qsC (n:Nat) (s0:LU) (a3:Int) (b4:Int):(qnP n) (.exit 0) (qcr s0 a3 b4)=qdf n s0 a3 b4:=by
 unfold qdf;rw [show qge (qev n) n=(fun s0 a3 b4=>evLP qeB n (sub qlb [1,1,1,0,0,0]) (qnO n) (qcr s0 a3 b4)) from by
  funext s0 a3 b4;refine Eq.trans ?_ (qBW (qnO n) n s0 a3 b4).symm;rw [show (qjF (qnO n))=(qev n) from by
   funext s0 a3 b4;exact qsB n s0 a3 b4]
  all_goals kernel_rfl]
 kernel_rfl
theorem qSo (n:Nat) (s0:LU) (o0:Lab):evFnP qeB n qlb qLR [db s0 o0]=qvP n s0:=by
 unfold qvP;rw [show qgd (qdf n) n=(fun s0 a3 b4=>evLP qeB n (sub qlb [1,1,0,0,0]) (qnP n) (qcr s0 a3 b4)) from by
  funext s0 a3 b4;refine Eq.trans ?_ (qBV (qnP n) n s0 a3 b4).symm;rw [show (qjE (qnP n))=(qdf n) from by
   funext s0 a3 b4;exact qsC n s0 a3 b4]
  all_goals kernel_rfl]
 kernel_rfl
theorem qBX:qe G Tryz.prog 113 s_z113:=by
 refine sQ (E:=qeB) (c:=qlb) rfl (fun w S hg=>(qa (qnN w S hg) qc)) Tryz.func113 ?_;intro avs r h;unfold s_z113 at h;split at h
 ·obtain ⟨hp,rfl⟩:=yj h;obtain ⟨n,hn⟩:=qJb _ hp;exact ⟨n,_,(qSo n _ _).trans hn,.inl rfl⟩
 ·cases h
def E_z77:EnvP:=eQ [(113,s_z113)] 24 (some [2]) (fun x=>if x=3 then some [0,3,4] else none) (fun x=>if x=0 then some [0,3] else if x=1 then some [0,3,4] else none) nP
def C_z77:Code:=cO Tryz.f77
def R_z77:Array ResultVar:=Tryz.f77.results
noncomputable def qqd (K:Ex→Fr→OA):=fun s0 end3=>K (.exit 0) (frOf [(0,da s0),(3,dc end3)])
def quY (n:Nat):Ex→Fr→OA:=qh 0 (E_z77.cutb 0) (kSeq (evCP E_z77 (evLP E_z77 n) (sub C_z77 [1,1,1])) (kFnP E_z77 R_z77))
def qBY (s0:LU) (end3:Int) (i4:Int):Fr:=frOf [(0,da s0),(3,dc end3),(4,dc i4)]
theorem qHp (K:Ex→Fr→OA):∀ (n:Nat) (s0:LU) (end3:Int) (i4:Int),evLP E_z77 n (sub C_z77 [1,1,0,1,0,0]) K (qBY s0 end3 i4)=qta (qqd K) n s0 end3 i4:=by
 intro n;induction n with
 | zero=>intros; rfl
 | succ n IH =>
 intro s0 end3 i4;have ih:(fun s0 end3 i4=>evLP E_z77 n (sub C_z77 [1,1,0,1,0,0]) K (qBY s0 end3 i4))=qta (qqd K) n:=by
  funext s0 end3 i4;exact IH s0 end3 i4
 show _=qgV (qqd K) (qta (qqd K) n) n s0 end3 i4;rw [← ih];kernel_rfl
theorem qxV (n:Nat) (s0:LU) (end3:Int):(quY n) (.exit 0) (frOf [(0,da s0),(3,dc end3)])=qeV n s0 end3:=by
 kernel_rfl
theorem qVq (n:Nat) (s0:LU) (o0:Lab):evFnP E_z77 n C_z77 R_z77 [db s0 o0]=qIa n s0:=by
 unfold qIa;rw [show qta (qeV n) n=(fun s0 end3 i4=>evLP E_z77 n (sub C_z77 [1,1,0,1,0,0]) (quY n) (qBY s0 end3 i4)) from by
  funext s0 end3 i4;refine Eq.trans ?_ (qHp (quY n) n s0 end3 i4).symm;rw [show (qqd (quY n))=(qeV n) from by
   funext s0 end3;exact qxV n s0 end3]
  all_goals kernel_rfl]
 kernel_rfl
theorem qHq:qe G Tryz.prog 77 s_z77:=by
 refine sQ (E:=E_z77) (c:=C_z77) rfl (fun w S hg=>(qa (qBX w S hg) qc)) Tryz.func77 ?_;intro avs r h;unfold s_z77 at h;split at h
 ·obtain ⟨hp,rfl⟩:=yj h;obtain ⟨n,hn⟩:=qOu _ hp;exact ⟨n,_,(qVq n _ _).trans hn,.inl rfl⟩
 ·cases h
def E_z78:EnvP:=eQ [] 19 (some [2]) nC (fun x=>if x=0 then some [] else none) nP
def C_z78:Code:=cO Tryz.f78
def R_z78:Array ResultVar:=Tryz.f78.results
theorem qVr (n:Nat) (n0:Int) (o0:Lab):evFnP E_z78 n C_z78 R_z78 [de n0 o0]=qMU n n0:=by
 kernel_rfl
theorem qHr:qe G Tryz.prog 78 s_z78:=by
 refine sQ (E:=E_z78) (c:=C_z78) rfl (fun w S hg=>qc) Tryz.func78 ?_;intro avs r h;unfold s_z78 at h;split at h <;> cases h
 obtain ⟨n,hn⟩:=qNK _;exact ⟨n,_,(qVr n _ _).trans hn,.inl rfl⟩
def E_z46:EnvP:=eQ [(76,s_z76),(77,s_z77),(78,s_z78)] 31 (some [2,3]) (fun x=>if x=3 then some [4,5] else if x=7 then some [4,5,6,7] else none) (fun x=>if x=0 then some [] else if x=1 then some [4,5] else if x=2 then some [4,5] else if x=3 then some [4,5,6,7] else none) nP
def C_z46:Code:=cO Tryz.f46
def R_z46:Array ResultVar:=Tryz.f46.results
noncomputable def qdB (K:Ex→Fr→OA):=fun s2 s3=>K .ret (frOf [(2,dc s2),(3,dc s3)])
def qhy (b4:LU) (n5:Int):Fr:=frOf [(4,(df b4 none)),(5,dc n5)]
noncomputable def qqe (K:Ex→Fr→OA):=fun b4 n5=>K (.exit 2) (qhy b4 n5)
def quZ (n:Nat) (K:Ex→Fr→OA):Ex→Fr→OA:=qh 2 (E_z46.cutb 2) (qh 1 (E_z46.cutb 1) (kSeq (evCP E_z46 (evLP E_z46 n) (sub C_z46 [1,1,0,1,0,0,1,1])) (kSeq (fun K fr=>evLP E_z46 n (sub C_z46 [1,1,0,1,0,0]) K (cutFP (E_z46.cuts 3) fr)) K)))
def qva (n:Nat):Ex→Fr→OA:=qh 0 (E_z46.cutb 0) (kSeq (evCP E_z46 (evLP E_z46 n) (sub C_z46 [1,1,1])) (kFnP E_z46 R_z46))
def qBZ (b4:LU) (n5:Int) (l6:List LU) (i7:Int):Fr:=frOf [(4,(df b4 none)),(5,dc n5),(6,(.dat (.sl .str) l6 (some (6,9)))),(7,dc i7)]
theorem qHs (K:Ex→Fr→OA):∀ (n:Nat) (b4:LU) (n5:Int) (l6:List LU) (i7:Int),evLP E_z46 n (sub C_z46 [1,1,0,1,0,0,1,0,0,1,1,0,0]) K (qBZ b4 n5 l6 i7)=qtb (qdB K) (qqe K) n b4 n5 l6 i7:=by
 intro n;induction n with
 | zero=>intros; rfl
 | succ n IH =>
 intro b4 n5 l6 i7;have ih:(fun b4 n5 l6 i7=>evLP E_z46 n (sub C_z46 [1,1,0,1,0,0,1,0,0,1,1,0,0]) K (qBZ b4 n5 l6 i7))=qtb (qdB K) (qqe K) n:=by
  funext b4 n5 l6 i7;exact IH b4 n5 l6 i7
 show _=qgW (qdB K) (qqe K) (qtb (qdB K) (qqe K) n) n b4 n5 l6 i7;rw [← ih];kernel_rfl
theorem qxW (K:Ex→Fr→OA) (n:Nat) (b4:LU) (n5:Int):(quZ n K) (.exit 2) (qhy b4 n5)=qkq (fun s2 s3=>K .ret (frOf [(2,dc s2),(3,dc s3)])) (K (.exit 0) (frOf [])) (fun b4 n5=>evLP E_z46 n (sub C_z46 [1,1,0,1,0,0]) K (qhy b4 n5)) n b4 n5:=by
 kernel_rfl
theorem qHt (K:Ex→Fr→OA):∀ (n:Nat) (b4:LU) (n5:Int),evLP E_z46 n (sub C_z46 [1,1,0,1,0,0]) K (qhy b4 n5)=qks (qdB K) (K (.exit 0) (frOf [])) n b4 n5:=by
 intro n;induction n with
 | zero=>intros; rfl
 | succ n IH =>
 intro b4 n5;have ih:(fun b4 n5=>evLP E_z46 n (sub C_z46 [1,1,0,1,0,0]) K (qhy b4 n5))=qks (qdB K) (K (.exit 0) (frOf [])) n:=by
  funext b4 n5;exact IH b4 n5
 show _=qkr (qdB K) (K (.exit 0) (frOf [])) (qks (qdB K) (K (.exit 0) (frOf [])) n) n b4 n5;rw [← ih];unfold qkr;rw [show qtb (qdB K) (qkq (qdB K) (K (.exit 0) (frOf [])) (fun b4 n5=>evLP E_z46 n (sub C_z46 [1,1,0,1,0,0]) K (qhy b4 n5)) n) n=(fun b4 n5 l6 i7=>evLP E_z46 n (sub C_z46 [1,1,0,1,0,0,1,0,0,1,1,0,0]) (quZ n K) (qBZ b4 n5 l6 i7)) from by
  funext b4 n5 l6 i7;refine Eq.trans ?_ (qHs (quZ n K) n b4 n5 l6 i7).symm;rw [show (qqe (quZ n K))=(qkq (qdB K) (K (.exit 0) (frOf [])) (fun b4 n5=>evLP E_z46 n (sub C_z46 [1,1,0,1,0,0]) K (qhy b4 n5)) n) from by
   funext b4 n5;exact qxW K n b4 n5]
  all_goals kernel_rfl]
 kernel_rfl
theorem qxX (n:Nat)  : (qva n) (.exit 0) (frOf [])=qdg n  := by
 kernel_rfl
theorem qVs (n:Nat) (s0:LU) (o0:Lab):evFnP E_z46 n C_z46 R_z46 [db s0 o0]=qIb n s0:=by
 unfold qIb;rw [show qks qaO (qdg n) n=(fun b4 n5=>evLP E_z46 n (sub C_z46 [1,1,0,1,0,0]) (qva n) (qhy b4 n5)) from by
  funext b4 n5;refine Eq.trans ?_ (qHt (qva n) n b4 n5).symm;rw [show ((qva n) (.exit 0) (frOf []))=(qdg n) from by
   exact qxX n ]
  all_goals kernel_rfl]
 kernel_rfl
theorem qvb:qe G Tryz.prog 46 s_z46:=by
 refine sQ (E:=E_z46) (c:=C_z46) rfl (fun w S hg=>(qa (qHo w S hg) (qa (qHq w S hg) (qa (qHr w S hg) qc)))) Tryz.func46 ?_;intro avs r h;unfold s_z46 at h;split at h
 ·obtain ⟨hp,rfl⟩:=yj h;obtain ⟨n,hn⟩:=qOv _ hp;exact ⟨n,_,(qVs n _ _).trans hn,.inl rfl⟩
 ·cases h
def E_z25:EnvP:=eQ [(42,s_z42),(46,s_z46)] 23 (some [2]) nC nC nP
def C_z25:Code:=cO Tryz.f25
def R_z25:Array ResultVar:=Tryz.f25.results
theorem qVt (n:Nat) (s0:LU) (o0:Lab):evFnP E_z25 n C_z25 R_z25 [db s0 o0]=qMV n s0:=by
 kernel_rfl
theorem qvc:qe G Tryz.prog 25 s_z25:=by
 refine sQ (E:=E_z25) (c:=C_z25) rfl (fun w S hg=>(qa (qil w S hg) (qa (qvb w S hg) qc))) Tryz.func25 ?_;intro avs r h;unfold s_z25 at h;split at h
 ·obtain ⟨hp,rfl⟩:=yj h;obtain ⟨n,hn⟩:=qOz _ hp;exact ⟨n,_,(qVt n _ _).trans hn,.inl rfl⟩
 ·cases h
def qSp:EnvP:=eQ [] 31 (some [2]) nC (fun x=>if x=0 then some [] else none) nP
def qSq:Code:=cO Tryz.f138
def qVu:Array ResultVar:=Tryz.f138.results
theorem qSr (n:Nat) (n0:Int) (o0:Lab):evFnP qSp n qSq qVu [de n0 o0]=qDK n n0:=by
 kernel_rfl
theorem qCa:qe G Tryz.prog 138 s_z138:=by
 refine sQ (E:=qSp) (c:=qSq) rfl (fun w S hg=>qc) Tryz.func138 ?_;intro avs r h;unfold s_z138 at h;split at h <;> cases h
 obtain ⟨n,hn⟩:=qIN _;exact ⟨n,_,(qSr n _ _).trans hn,.inl rfl⟩
def qnQ:EnvP:=eQ [(138,s_z138)] 14 (some [2,3]) (fun x=>if x=2 then some [0,4] else none) (fun x=>if x=0 then some [] else if x=1 then some [0,4] else none) nP
def qxY:Code:=cO Tryz.f110
def qSs:Array ResultVar:=Tryz.f110.results
noncomputable def qnR (K:Ex→Fr→OA):=fun s2 s3=>K .ret (frOf [(2,dc s2),(3,dg s3)])
def qnS (n:Nat):Ex→Fr→OA:=qh 0 (qnQ.cutb 0) (kSeq (evCP qnQ (evLP qnQ n) (sub qxY [1,1])) (kFnP qnQ qSs))
def qsD (c0:UInt8) (n4:Int):Fr:=frOf [(0,dm c0),(4,dc n4)]
theorem qCb (K:Ex→Fr→OA):∀ (n:Nat) (c0:UInt8) (n4:Int),evLP qnQ n (sub qxY [1,0,1,0,0]) K (qsD c0 n4)=qkt (qnR K) (K (.exit 0) (frOf [])) n c0 n4:=by
 intro n;induction n with
 | zero=>intros; rfl
 | succ n IH =>
 intro c0 n4;have ih:(fun c0 n4=>evLP qnQ n (sub qxY [1,0,1,0,0]) K (qsD c0 n4))=qkt (qnR K) (K (.exit 0) (frOf [])) n:=by
  funext c0 n4;exact IH c0 n4
 show _=qew (qnR K) (K (.exit 0) (frOf [])) (qkt (qnR K) (K (.exit 0) (frOf [])) n) n c0 n4;rw [← ih];kernel_rfl
theorem qsE (n:Nat)  : (qnS n) (.exit 0) (frOf [])=qgf n  := by
 kernel_rfl
theorem qSt (n:Nat) (c0:UInt8) (o0:Lab):evFnP qnQ n qxY qSs [dn c0 o0]=qvR n c0:=by
 unfold qvR;rw [show qkt qeX (qgf n) n=(fun c0 n4=>evLP qnQ n (sub qxY [1,0,1,0,0]) (qnS n) (qsD c0 n4)) from by
  funext c0 n4;refine Eq.trans ?_ (qCb (qnS n) n c0 n4).symm;rw [show ((qnS n) (.exit 0) (frOf []))=(qgf n) from by
   exact qsE n ]
  all_goals kernel_rfl]
 kernel_rfl
theorem qqf:qe G Tryz.prog 110 s_z110:=by
 refine sQ (E:=qnQ) (c:=qxY) rfl (fun w S hg=>(qa (qCa w S hg) qc)) Tryz.func110 ?_;intro avs r h;unfold s_z110 at h;split at h <;> cases h
 obtain ⟨n,hn⟩:=qJp _;exact ⟨n,_,(qSt n _ _).trans hn,.inl rfl⟩
def E_z70:EnvP:=eQ [(110,s_z110)] 42 (some [2,3]) (fun x=>if x=4 then some [0,4,5,6] else none) (fun x=>if x=0 then some [4,5] else if x=1 then some [0,4,5,6] else none) nP
def C_z70:Code:=cO Tryz.f70
def R_z70:Array ResultVar:=Tryz.f70.results
noncomputable def qqg (K:Ex→Fr→OA):=fun out4 strange5=>K (.exit 0) (frOf [(4,(db out4 (some (4,5)))),(5,dc strange5)])
def qvd (n:Nat):Ex→Fr→OA:=qh 0 (E_z70.cutb 0) (kSeq (evCP E_z70 (evLP E_z70 n) (sub C_z70 [1,1,1,1])) (kFnP E_z70 R_z70))
def qCc (s0:LU) (out4:LU) (strange5:Int) (i6:Int):Fr:=frOf [(0,da s0),(4,(db out4 (some (4,5)))),(5,dc strange5),(6,dc i6)]
theorem qHu (K:Ex→Fr→OA):∀ (n:Nat) (s0:LU) (out4:LU) (strange5:Int) (i6:Int),evLP E_z70 n (sub C_z70 [1,1,1,0,1,0,0]) K (qCc s0 out4 strange5 i6)=qtc (qqg K) n s0 out4 strange5 i6:=by
 intro n;induction n with
 | zero=>intros; rfl
 | succ n IH =>
 intro s0 out4 strange5 i6;have ih:(fun s0 out4 strange5 i6=>evLP E_z70 n (sub C_z70 [1,1,1,0,1,0,0]) K (qCc s0 out4 strange5 i6))=qtc (qqg K) n:=by
  funext s0 out4 strange5 i6;exact IH s0 out4 strange5 i6
 show _=qgX (qqg K) (qtc (qqg K) n) n s0 out4 strange5 i6;rw [← ih];kernel_rfl
theorem qxZ (n:Nat) (out4:LU) (strange5:Int):(qvd n) (.exit 0) (frOf [(4,(db out4 (some (4,5)))),(5,dc strange5)])=qkv n out4 strange5:=by
 kernel_rfl
theorem qVv (n:Nat) (s0:LU) (o0:Lab):evFnP E_z70 n C_z70 R_z70 [db s0 o0]=qMW n s0:=by
 unfold qMW;rw [show qtc (qkv n) n=(fun s0 out4 strange5 i6=>evLP E_z70 n (sub C_z70 [1,1,1,0,1,0,0]) (qvd n) (qCc s0 out4 strange5 i6)) from by
  funext s0 out4 strange5 i6;refine Eq.trans ?_ (qHu (qvd n) n s0 out4 strange5 i6).symm;rw [show (qqg (qvd n))=(qkv n) from by
   funext out4 strange5;exact qxZ n out4 strange5]
  all_goals kernel_rfl]
 kernel_rfl
theorem qHv:qe G Tryz.prog 70 s_z70:=by
 refine sQ (E:=E_z70) (c:=C_z70) rfl (fun w S hg=>(qa (qqf w S hg) qc)) Tryz.func70 ?_;intro avs r h;unfold s_z70 at h;split at h
 ·obtain ⟨hp,rfl⟩:=yj h;obtain ⟨n,hn⟩:=qOk _ hp;exact ⟨n,_,(qVv n _ _).trans hn,.inl rfl⟩
 ·cases h
def E_z71:EnvP:=eQ [(110,s_z110)] 37 (some [2,3]) (fun x=>if x=3 then some [0,4,5] else if x=9 then some [0,4,5,6,8] else none) (fun x=>if x=0 then some [4] else if x=1 then some [0,4,5] else if x=2 then some [0,4,5] else if x=3 then some [0,4,5,6,8] else none) nP
def C_z71:Code:=cO Tryz.f71
def R_z71:Array ResultVar:=Tryz.f71.results
def qhz (s0:LU) (out4:LI) (i5:Int):Fr:=frOf [(0,da s0),(4,(.dat (.sl (.int .i64)) out4 (some (4,3)))),(5,dc i5)]
noncomputable def qqh (K:Ex→Fr→OA):=fun s0 out4 i5=>K (.exit 2) (qhz s0 out4 i5)
noncomputable def qlA (K:Ex→Fr→OA):=fun s2 s3=>K .ret (frOf [(2,(.dat (.sl (.int .i64)) s2 (some (2,3)))),(3,dg s3)])
noncomputable def qjG (K:Ex→Fr→OA):=fun out4=>K (.exit 0) (frOf [(4,(.dat (.sl (.int .i64)) out4 (some (4,3))))])
def qve (n:Nat) (K:Ex→Fr→OA):Ex→Fr→OA:=qh 2 (E_z71.cutb 2) (qh 1 (E_z71.cutb 1) (kSeq (evCP E_z71 (evLP E_z71 n) (sub C_z71 [1,1,0,1,0,0,1,1])) (kSeq (fun K fr=>evLP E_z71 n (sub C_z71 [1,1,0,1,0,0]) K (cutFP (E_z71.cuts 3) fr)) K)))
def qvf (n:Nat):Ex→Fr→OA:=qh 0 (E_z71.cutb 0) (kSeq (evCP E_z71 (evLP E_z71 n) (sub C_z71 [1,1,1])) (kFnP E_z71 R_z71))
def qCd (s0:LU) (out4:LI) (i5:Int) (n6:Int) (k8:Int):Fr:=frOf [(0,da s0),(4,(.dat (.sl (.int .i64)) out4 (some (4,3)))),(5,dc i5),(6,dc n6),(8,dc k8)]
theorem qHw (K:Ex→Fr→OA):∀ (n:Nat) (s0:LU) (out4:LI) (i5:Int) (n6:Int) (k8:Int),evLP E_z71 n (sub C_z71 [1,1,0,1,0,0,1,0,0,1,1,1,0,0]) K (qCd s0 out4 i5 n6 k8)=qlg (qqh K) n s0 out4 i5 n6 k8:=by
 intro n;induction n with
 | zero=>intros; rfl
 | succ n IH =>
 intro s0 out4 i5 n6 k8;have ih:(fun s0 out4 i5 n6 k8=>evLP E_z71 n (sub C_z71 [1,1,0,1,0,0,1,0,0,1,1,1,0,0]) K (qCd s0 out4 i5 n6 k8))=qlg (qqh K) n:=by
  funext s0 out4 i5 n6 k8;exact IH s0 out4 i5 n6 k8
 show _=qow (qqh K) (qlg (qqh K) n) n s0 out4 i5 n6 k8;rw [← ih];kernel_rfl
theorem qya (K:Ex→Fr→OA) (n:Nat) (s0:LU) (out4:LI) (i5:Int):(qve n K) (.exit 2) (qhz s0 out4 i5)=qox (fun s2 s3=>K .ret (frOf [(2,(.dat (.sl (.int .i64)) s2 (some (2,3)))),(3,dg s3)])) (fun out4=>K (.exit 0) (frOf [(4,(.dat (.sl (.int .i64)) out4 (some (4,3))))])) (fun s0 out4 i5=>evLP E_z71 n (sub C_z71 [1,1,0,1,0,0]) K (qhz s0 out4 i5)) n s0 out4 i5:=by
 kernel_rfl
theorem qHx (K:Ex→Fr→OA):∀ (n:Nat) (s0:LU) (out4:LI) (i5:Int),evLP E_z71 n (sub C_z71 [1,1,0,1,0,0]) K (qhz s0 out4 i5)=qoy (qlA K) (qjG K) n s0 out4 i5:=by
 intro n;induction n with
 | zero=>intros; rfl
 | succ n IH =>
 intro s0 out4 i5;have ih:(fun s0 out4 i5=>evLP E_z71 n (sub C_z71 [1,1,0,1,0,0]) K (qhz s0 out4 i5))=qoy (qlA K) (qjG K) n:=by
  funext s0 out4 i5;exact IH s0 out4 i5
 show _=qeY (qlA K) (qjG K) (qoy (qlA K) (qjG K) n) n s0 out4 i5;rw [← ih];unfold qeY;rw [show qlg (qox (qlA K) (qjG K) (fun s0 out4 i5=>evLP E_z71 n (sub C_z71 [1,1,0,1,0,0]) K (qhz s0 out4 i5)) n) n=(fun s0 out4 i5 n6 k8=>evLP E_z71 n (sub C_z71 [1,1,0,1,0,0,1,0,0,1,1,1,0,0]) (qve n K) (qCd s0 out4 i5 n6 k8)) from by
  funext s0 out4 i5 n6 k8;refine Eq.trans ?_ (qHw (qve n K) n s0 out4 i5 n6 k8).symm;rw [show (qqh (qve n K))=(qox (qlA K) (qjG K) (fun s0 out4 i5=>evLP E_z71 n (sub C_z71 [1,1,0,1,0,0]) K (qhz s0 out4 i5)) n) from by
   funext s0 out4 i5;exact qya K n s0 out4 i5]
  all_goals kernel_rfl]
 kernel_rfl
theorem qyb (n:Nat) (out4:LI):(qvf n) (.exit 0) (frOf [(4,(.dat (.sl (.int .i64)) out4 (some (4,3))))])=qeZ n out4:=by
 kernel_rfl
theorem qVw (n:Nat) (s0:LU) (o0:Lab):evFnP E_z71 n C_z71 R_z71 [db s0 o0]=qMX n s0:=by
 unfold qMX;rw [show qoy qdM (qeZ n) n=(fun s0 out4 i5=>evLP E_z71 n (sub C_z71 [1,1,0,1,0,0]) (qvf n) (qhz s0 out4 i5)) from by
  funext s0 out4 i5;refine Eq.trans ?_ (qHx (qvf n) n s0 out4 i5).symm;rw [show (qjG (qvf n))=(qeZ n) from by
   funext out4;exact qyb n out4]
  all_goals kernel_rfl]
 kernel_rfl
theorem qvg:qe G Tryz.prog 71 s_z71:=by
 refine sQ (E:=E_z71) (c:=C_z71) rfl (fun w S hg=>(qa (qqf w S hg) qc)) Tryz.func71 ?_;intro avs r h;unfold s_z71 at h;split at h
 ·obtain ⟨hp,rfl⟩:=yj h;obtain ⟨n,hn⟩:=qOm _ hp;exact ⟨n,_,(qVw n _ _).trans hn,.inl rfl⟩
 ·cases h
end
end Go.Av
