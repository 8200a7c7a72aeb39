import Derived.Test.YtabdohophompiaaGreatDoorPxEvA
import Derived.Test.YtabdohophompiaaGreatDoorPxN
import Derived.Test.YtabdohophompiaaGreatDoorProg
import Derived.KernelRfl
namespace Go.Av
set_option linter.unusedSimpArgs false
noncomputable section
open Go.Proofs
set_option maxRecDepth 100000
set_option linter.unusedVariables false
def E_z43:EnvP:=eQ [(73,s_z73)] 8 (some [2]) nC nC nP
def C_z43:Code:=cO Tryz.f43
def R_z43:Array ResultVar:=Tryz.f43.results
theorem qHV (n:Nat) (sets0:Int) (o0:Lab):evFnP E_z43 n C_z43 R_z43 [de sets0 o0]=qCB n sets0:=by
 kernel_rfl
theorem qwN:qe G Tryz.prog 43 s_z43:=by
 refine sQ (E:=E_z43) (c:=C_z43) rfl (fun w S hg=>(qa (qwM w S hg) qc)) Tryz.func43 ?_;intro avs r h;unfold s_z43 at h;split at h
 ·obtain ⟨hp,rfl⟩:=yj h;obtain ⟨n,hn⟩:=qEa _ hp;exact ⟨n,_,(qHV n _ _).trans hn,.inl rfl⟩
 ·cases h
def E_z22:EnvP:=eQ [(42,s_z42),(43,s_z43)] 22 (some [2,3]) (fun x=>if x=3 then some [4,7,8,9] else none) (fun x=>if x=0 then some [4] else if x=1 then some [4,7,8,9] else none) nP
def C_z22:Code:=cO Tryz.f22
def R_z22:Array ResultVar:=Tryz.f22.results
noncomputable def qki (K:Ex→Fr→Option AV):=fun all4=>K (.exit 0) (frOf [(4,dc all4)])
def qnF (n:Nat):Ex→Fr→Option AV:=qp 0 (E_z22.cutb 0) (kSeq (evCP E_z22 (evLP E_z22 n) (sub C_z22 [1,1,1])) (kFnP E_z22 R_z22))
def qsC (all4:Int) (s7:List Int) (s8:Int) (s9:Int):Fr:=frOf [(4,dc all4),(7,(.dat (.sl (.int .i32)) s7 none)),(8,dc s8),(9,dc s9)]
theorem qwO (K:Ex→Fr→Option AV):∀ (n:Nat) (all4:Int) (s7:List Int) (s8:Int) (s9:Int),evLP E_z22 n (sub C_z22 [1,1,0,1,0,0]) K (qsC all4 s7 s8 s9)=qma (qki K) n all4 s7 s8 s9:=by
 intro n;induction n with
 | zero=>intros; rfl
 | succ n IH =>
 intro all4 s7 s8 s9;have ih:(fun all4 s7 s8 s9=>evLP E_z22 n (sub C_z22 [1,1,0,1,0,0]) K (qsC all4 s7 s8 s9))=qma (qki K) n:=by
  funext all4 s7 s8 s9;exact IH all4 s7 s8 s9
 show _=qep (qki K) (qma (qki K) n) n all4 s7 s8 s9;rw [← ih];kernel_rfl
theorem qqf (n:Nat) (all4:Int):(qnF n) (.exit 0) (frOf [(4,dc all4)])=qcY n all4:=by
 kernel_rfl
theorem qHW (n:Nat) (t0:List Int) (o0:Lab):evFnP E_z22 n C_z22 R_z22 [.dat (.sl (.int .i32)) t0 o0]=qyA n t0:=by
 unfold qyA;rw [show qma (qcY n) n=(fun all4 s7 s8 s9=>evLP E_z22 n (sub C_z22 [1,1,0,1,0,0]) (qnF n) (qsC all4 s7 s8 s9)) from by
  funext all4 s7 s8 s9;refine Eq.trans ?_ (qwO (qnF n) n all4 s7 s8 s9).symm;rw [show (qki (qnF n))=(qcY n) from by
   funext all4;exact qqf n all4]
  all_goals kernel_rfl]
 kernel_rfl
theorem qnG:qe G Tryz.prog 22 s_z22:=by
 refine sQ (E:=E_z22) (c:=C_z22) rfl (fun w S hg=>(qa (qwL w S hg) (qa (qwN w S hg) qc))) Tryz.func22 ?_;intro avs r h;unfold s_z22 at h;split at h
 ·obtain ⟨hp,rfl⟩:=yj h;obtain ⟨n,hn⟩:=qEh _ hp;exact ⟨n,_,(qHW n _ _).trans hn,.inl rfl⟩
 ·cases h
def E_z92:EnvP:=eQ [(105,s_z105)] 17 (some [2]) (fun x=>if x=2 then some [0,5,6] else none) (fun x=>if x=0 then some [] else if x=1 then some [0,5,6] else none) nP
def C_z92:Code:=cO Tryz.f92
def R_z92:Array ResultVar:=Tryz.f92.results
noncomputable def qnH (K:Ex→Fr→Option AV):=fun s2=>K .ret (frOf [(2,dc s2)])
def qnI (n:Nat):Ex→Fr→Option AV:=qp 0 (E_z92.cutb 0) (kSeq (evCP E_z92 (evLP E_z92 n) (sub C_z92 [1,1])) (kFnP E_z92 R_z92))
def qsD (t0:List Int) (s5:Int) (s6:Int):Fr:=frOf [(0,(.dat (.sl (.int .i32)) t0 none)),(5,dc s5),(6,dc s6)]
theorem qwP (K:Ex→Fr→Option AV):∀ (n:Nat) (t0:List Int) (s5:Int) (s6:Int),evLP E_z92 n (sub C_z92 [1,0,1,0,0]) K (qsD t0 s5 s6)=qmb (qnH K) (K (.exit 0) (frOf [])) n t0 s5 s6:=by
 intro n;induction n with
 | zero=>intros; rfl
 | succ n IH =>
 intro t0 s5 s6;have ih:(fun t0 s5 s6=>evLP E_z92 n (sub C_z92 [1,0,1,0,0]) K (qsD t0 s5 s6))=qmb (qnH K) (K (.exit 0) (frOf [])) n:=by
  funext t0 s5 s6;exact IH t0 s5 s6
 show _=qeq (qnH K) (K (.exit 0) (frOf [])) (qmb (qnH K) (K (.exit 0) (frOf [])) n) n t0 s5 s6;rw [← ih];kernel_rfl
theorem qqg (n:Nat)  : (qnI n) (.exit 0) (frOf [])=qgJ n  := by
 kernel_rfl
theorem qHX (n:Nat) (t0:List Int) (o0:Lab):evFnP E_z92 n C_z92 R_z92 [.dat (.sl (.int .i32)) t0 o0]=qyB n t0:=by
 unfold qyB;rw [show qmb qkI (qgJ n) n=(fun t0 s5 s6=>evLP E_z92 n (sub C_z92 [1,0,1,0,0]) (qnI n) (qsD t0 s5 s6)) from by
  funext t0 s5 s6;refine Eq.trans ?_ (qwP (qnI n) n t0 s5 s6).symm;rw [show ((qnI n) (.exit 0) (frOf []))=(qgJ n) from by
   exact qqg n ]
  all_goals kernel_rfl]
 kernel_rfl
theorem qwQ:qe G Tryz.prog 92 s_z92:=by
 refine sQ (E:=E_z92) (c:=C_z92) rfl (fun w S hg=>(qa (qkd w S hg) qc)) Tryz.func92 ?_;intro avs r h;unfold s_z92 at h;split at h
 ·obtain ⟨hp,rfl⟩:=yj h;obtain ⟨n,hn⟩:=qDF _ hp;exact ⟨n,_,(qHX n _ _).trans hn,.inl rfl⟩
 ·cases h
def E_z52:EnvP:=eQ [(92,s_z92)] 27 (some [2,3]) (fun x=>if x=5 then some [4,13,14,15] else none) (fun x=>if x=0 then some [4] else if x=1 then some [4,13,14,15] else none) (fun x=>if x=12 then some (.psl 5 (.leaf .byte)) else none)
def C_z52:Code:=cO Tryz.f52
def R_z52:Array ResultVar:=Tryz.f52.results
noncomputable def qkj (K:Ex→Fr→Option AV):=fun s4=>K (.exit 0) (frOf [(4,(.pv (.psl 5 (.leaf .byte)) s4 none))])
def qnJ (n:Nat):Ex→Fr→Option AV:=qp 0 (E_z52.cutb 0) (kSeq (evCP E_z52 (evLP E_z52 n) (sub C_z52 [1,1,1,1])) (kFnP E_z52 R_z52))
def qsE (s4:List UInt8) (s13:List Int) (s14:Int) (s15:Int):Fr:=frOf [(4,(.pv (.psl 5 (.leaf .byte)) s4 none)),(13,(.dat (.sl (.int .i32)) s13 none)),(14,dc s14),(15,dc s15)]
theorem qwR (K:Ex→Fr→Option AV):∀ (n:Nat) (s4:List UInt8) (s13:List Int) (s14:Int) (s15:Int),evLP E_z52 n (sub C_z52 [1,1,1,0,1,0,0]) K (qsE s4 s13 s14 s15)=qiZ (qkj K) n s4 s13 s14 s15:=by
 intro n;induction n with
 | zero=>intros; rfl
 | succ n IH =>
 intro s4 s13 s14 s15;have ih:(fun s4 s13 s14 s15=>evLP E_z52 n (sub C_z52 [1,1,1,0,1,0,0]) K (qsE s4 s13 s14 s15))=qiZ (qkj K) n:=by
  funext s4 s13 s14 s15;exact IH s4 s13 s14 s15
 show _=qer (qkj K) (qiZ (qkj K) n) n s4 s13 s14 s15;rw [← ih];kernel_rfl
theorem qqh (n:Nat) (s4:List UInt8):(qnJ n) (.exit 0) (frOf [(4,(.pv (.psl 5 (.leaf .byte)) s4 none))])=qes n s4:=by
 kernel_rfl
theorem qHY (n:Nat) (t0:List Int) (o0:Lab):evFnP E_z52 n C_z52 R_z52 [.dat (.sl (.int .i32)) t0 o0]=qyC n t0:=by
 unfold qyC;rw [show qiZ (qes n) n=(fun s4 s13 s14 s15=>evLP E_z52 n (sub C_z52 [1,1,1,0,1,0,0]) (qnJ n) (qsE s4 s13 s14 s15)) from by
  funext s4 s13 s14 s15;refine Eq.trans ?_ (qwR (qnJ n) n s4 s13 s14 s15).symm;rw [show (qkj (qnJ n))=(qes n) from by
   funext s4;exact qqh n s4]
  all_goals kernel_rfl]
 kernel_rfl
theorem qnK:qe G Tryz.prog 52 s_z52:=by
 refine sQ (E:=E_z52) (c:=C_z52) rfl (fun w S hg=>(qa (qwQ w S hg) qc)) Tryz.func52 ?_;intro avs r h;unfold s_z52 at h;split at h
 ·obtain ⟨hp,rfl⟩:=yj h;obtain ⟨n,hn⟩:=qDJ _ hp;exact ⟨n,_,(qHY n _ _).trans hn,.inl rfl⟩
 ·cases h
def E_z74:EnvP:=eQ [] 13 (some [2]) nC (fun x=>if x=0 then some [] else none) nP
def C_z74:Code:=cO Tryz.f74
def R_z74:Array ResultVar:=Tryz.f74.results
theorem qHZ (n:Nat) (charset0:Int) (o0:Lab):evFnP E_z74 n C_z74 R_z74 [de charset0 o0]=qCC n charset0:=by
 kernel_rfl
theorem qnL:qe G Tryz.prog 74 s_z74:=by
 refine sQ (E:=E_z74) (c:=C_z74) rfl (fun w S hg=>qc) Tryz.func74 ?_;intro avs r h;unfold s_z74 at h;split at h <;> cases h
 obtain ⟨n,hn⟩:=qDQ _;exact ⟨n,_,(qHZ n _ _).trans hn,.inl rfl⟩
def qiE:EnvP:=eQ [(72,s_z72)] 20 (some [4]) (fun x=>if x=2 then some [0,7,8,9] else none) (fun x=>if x=0 then some [] else if x=1 then some [0,7,8,9] else none) nP
def qqi:Code:=cO Tryz.f111
def qFx:Array ResultVar:=Tryz.f111.results
noncomputable def qiF (K:Ex→Fr→Option AV):=fun s4=>K .ret (frOf [(4,dc s4)])
def qiG (n:Nat):Ex→Fr→Option AV:=qp 0 (qiE.cutb 0) (kSeq (evCP qiE (evLP qiE n) (sub qqi [1,1])) (kFnP qiE qFx))
def qlJ (charset0:Int) (s7:List Int) (s8:Int) (s9:Int):Fr:=frOf [(0,dc charset0),(7,(.dat (.sl (.int .i32)) s7 none)),(8,dc s8),(9,dc s9)]
theorem qsF (K:Ex→Fr→Option AV):∀ (n:Nat) (charset0:Int) (s7:List Int) (s8:Int) (s9:Int),evLP qiE n (sub qqi [1,0,1,0,0]) K (qlJ charset0 s7 s8 s9)=qgL (qiF K) (K (.exit 0) (frOf [])) n charset0 s7 s8 s9:=by
 intro n;induction n with
 | zero=>intros; rfl
 | succ n IH =>
 intro charset0 s7 s8 s9;have ih:(fun charset0 s7 s8 s9=>evLP qiE n (sub qqi [1,0,1,0,0]) K (qlJ charset0 s7 s8 s9))=qgL (qiF K) (K (.exit 0) (frOf [])) n:=by
  funext charset0 s7 s8 s9;exact IH charset0 s7 s8 s9
 show _=qcw (qiF K) (K (.exit 0) (frOf [])) (qgL (qiF K) (K (.exit 0) (frOf [])) n) n charset0 s7 s8 s9;rw [← ih];kernel_rfl
theorem qlK (n:Nat)  : (qiG n) (.exit 0) (frOf [])=qdH n  := by
 kernel_rfl
theorem qFy (n:Nat) (charset0:Int) (o0:Lab) (t1:List Int) (o1:Lab):evFnP qiE n qqi qFx [de charset0 o0,.dat (.sl (.int .i32)) t1 o1]=qpa n charset0 t1:=by
 unfold qpa;rw [show qgL qgK (qdH n) n=(fun charset0 s7 s8 s9=>evLP qiE n (sub qqi [1,0,1,0,0]) (qiG n) (qlJ charset0 s7 s8 s9)) from by
  funext charset0 s7 s8 s9;refine Eq.trans ?_ (qsF (qiG n) n charset0 s7 s8 s9).symm;rw [show ((qiG n) (.exit 0) (frOf []))=(qdH n) from by
   exact qlK n ]
  all_goals kernel_rfl]
 kernel_rfl
theorem qsG:qe G Tryz.prog 111 s_z111:=by
 refine sQ (E:=qiE) (c:=qqi) rfl (fun w S hg=>(qa (qnD w S hg) qc)) Tryz.func111 ?_;intro avs r h;unfold s_z111 at h;split at h
 ·obtain ⟨hp,rfl⟩:=yj h;obtain ⟨n,hn⟩:=qzz _ _ hp;exact ⟨n,_,(qFy n _ _ _ _).trans hn,.inl rfl⟩
 ·cases h
def E_z75:EnvP:=eQ [(74,s_z74),(111,s_z111)] 14 (some [4]) nC nC nP
def C_z75:Code:=cO Tryz.f75
def R_z75:Array ResultVar:=Tryz.f75.results
theorem qIa (n:Nat) (charset0:Int) (o0:Lab) (t1:List Int) (o1:Lab):evFnP E_z75 n C_z75 R_z75 [de charset0 o0,.dat (.sl (.int .i32)) t1 o1]=qCD n charset0 t1:=by
 kernel_rfl
theorem qwS:qe G Tryz.prog 75 s_z75:=by
 refine sQ (E:=E_z75) (c:=C_z75) rfl (fun w S hg=>(qa (qnL w S hg) (qa (qsG w S hg) qc))) Tryz.func75 ?_;intro avs r h;unfold s_z75 at h;split at h
 ·obtain ⟨hp,rfl⟩:=yj h;obtain ⟨n,hn⟩:=qDR _ _ hp;exact ⟨n,_,(qIa n _ _ _ _).trans hn,.inl rfl⟩
 ·cases h
def E_z91:EnvP:=eQ [] 9 (some [2]) nC nC nP
def C_z91:Code:=cO Tryz.f91
def R_z91:Array ResultVar:=Tryz.f91.results
theorem qIb (n:Nat) (c0:Int) (o0:Lab):evFnP E_z91 n C_z91 R_z91 [di c0 o0]=qCE n c0:=by
 kernel_rfl
theorem qwT:qe G Tryz.prog 91 s_z91:=by
 refine sQ (E:=E_z91) (c:=C_z91) rfl (fun w S hg=>qc) Tryz.func91 ?_;intro avs r h;unfold s_z91 at h;split at h <;> cases h
 obtain ⟨n,hn⟩:=qCc _;exact ⟨n,_,(qIb n _ _).trans hn,.inl rfl⟩
def qFz:EnvP:=eQ [(108,s_z108)] 6 (some [2]) nC nC nP
def qFA:Code:=cO Tryz.f122
def qIc:Array ResultVar:=Tryz.f122.results
theorem qFB (n:Nat) (c0:Int) (o0:Lab):evFnP qFz n qFA qIc [di c0 o0]=qAe n c0:=by
 kernel_rfl
theorem qsH:qe G Tryz.prog 122 s_z122:=by
 refine sQ (E:=qFz) (c:=qFA) rfl (fun w S hg=>(qa (qgD w S hg) qc)) Tryz.func122 ?_;intro avs r h;unfold s_z122 at h;split at h <;> cases h
 obtain ⟨n,hn⟩:=qzw _;exact ⟨n,_,(qFB n _ _).trans hn,.inl rfl⟩
def qaJ:EnvP:=eQ [(122,s_z122)] 19 (some [4]) (fun x=>if x=2 then some [0,1,7,8] else none) (fun x=>if x=0 then some [] else if x=1 then some [0,1,7,8] else none) nP
def qco:Code:=cO Tryz.f121
def qnM:Array ResultVar:=Tryz.f121.results
noncomputable def qcp (K:Ex→Fr→Option AV):=fun s4=>K .ret (frOf [(4,dc s4)])
def qcq (n:Nat):Ex→Fr→Option AV:=qp 0 (qaJ.cutb 0) (kSeq (evCP qaJ (evLP qaJ n) (sub qco [1,1])) (kFnP qaJ qnM))
def qel (s0:List Int) (s7:Int) (s8:Int):Fr:=frOf [(0,(.dat (.sl (.int .i32)) s0 none)),(1,(.fn 122 [])),(7,dc s7),(8,dc s8)]
theorem qkk (K:Ex→Fr→Option AV):∀ (n:Nat) (s0:List Int) (s7:Int) (s8:Int),evLP qaJ n (sub qco [1,0,1,0,0]) K (qel s0 s7 s8)=qaW (qcp K) (K (.exit 0) (frOf [])) n s0 s7 s8:=by
 intro n;induction n with
 | zero=>intros; rfl
 | succ n IH =>
 intro s0 s7 s8;have ih:(fun s0 s7 s8=>evLP qaJ n (sub qco [1,0,1,0,0]) K (qel s0 s7 s8))=qaW (qcp K) (K (.exit 0) (frOf [])) n:=by
  funext s0 s7 s8;exact IH s0 s7 s8
 show _=qay (qcp K) (K (.exit 0) (frOf [])) (qaW (qcp K) (K (.exit 0) (frOf [])) n) n s0 s7 s8;rw [← ih];kernel_rfl
theorem qhs (n:Nat)  : (qcq n) (.exit 0) (frOf [])=qaX n  := by
 kernel_rfl
theorem qsI (n:Nat) (s0:List Int) (o0:Lab):evFnP qaJ n qco qnM [.dat (.sl (.int .i32)) s0 o0,.fn 122 []]=qdI n s0:=by
 unfold qdI;rw [show qaW qbz (qaX n) n=(fun s0 s7 s8=>evLP qaJ n (sub qco [1,0,1,0,0]) (qcq n) (qel s0 s7 s8)) from by
  funext s0 s7 s8;refine Eq.trans ?_ (qkk (qcq n) n s0 s7 s8).symm;rw [show ((qcq n) (.exit 0) (frOf []))=(qaX n) from by
   exact qhs n ]
  all_goals kernel_rfl]
 kernel_rfl
def qaK:EnvP:=eQ [(91,s_z91)] 19 (some [4]) (fun x=>if x=2 then some [0,1,7,8] else none) (fun x=>if x=0 then some [] else if x=1 then some [0,1,7,8] else none) nP
def qcr:Code:=cO Tryz.f121
def qnN:Array ResultVar:=Tryz.f121.results
noncomputable def qcs (K:Ex→Fr→Option AV):=fun s4=>K .ret (frOf [(4,dc s4)])
def qct (n:Nat):Ex→Fr→Option AV:=qp 0 (qaK.cutb 0) (kSeq (evCP qaK (evLP qaK n) (sub qcr [1,1])) (kFnP qaK qnN))
def qem (s0:List Int) (s7:Int) (s8:Int):Fr:=frOf [(0,(.dat (.sl (.int .i32)) s0 none)),(1,(.fn 91 [])),(7,dc s7),(8,dc s8)]
theorem qkl (K:Ex→Fr→Option AV):∀ (n:Nat) (s0:List Int) (s7:Int) (s8:Int),evLP qaK n (sub qcr [1,0,1,0,0]) K (qem s0 s7 s8)=qaY (qcs K) (K (.exit 0) (frOf [])) n s0 s7 s8:=by
 intro n;induction n with
 | zero=>intros; rfl
 | succ n IH =>
 intro s0 s7 s8;have ih:(fun s0 s7 s8=>evLP qaK n (sub qcr [1,0,1,0,0]) K (qem s0 s7 s8))=qaY (qcs K) (K (.exit 0) (frOf [])) n:=by
  funext s0 s7 s8;exact IH s0 s7 s8
 show _=qaz (qcs K) (K (.exit 0) (frOf [])) (qaY (qcs K) (K (.exit 0) (frOf [])) n) n s0 s7 s8;rw [← ih];kernel_rfl
theorem qht (n:Nat)  : (qct n) (.exit 0) (frOf [])=qaZ n  := by
 kernel_rfl
theorem qsJ (n:Nat) (s0:List Int) (o0:Lab):evFnP qaK n qcr qnN [.dat (.sl (.int .i32)) s0 o0,.fn 91 []]=qdJ n s0:=by
 unfold qdJ;rw [show qaY qbA (qaZ n) n=(fun s0 s7 s8=>evLP qaK n (sub qcr [1,0,1,0,0]) (qct n) (qem s0 s7 s8)) from by
  funext s0 s7 s8;refine Eq.trans ?_ (qkl (qct n) n s0 s7 s8).symm;rw [show ((qct n) (.exit 0) (frOf []))=(qaZ n) from by
   exact qht n ]
  all_goals kernel_rfl]
 kernel_rfl
theorem qkm:qe G Tryz.prog 121 s_z121:=fun w S hg=>by
 have h0:qe G Tryz.prog 121 s_z121_v0:=by
  refine qJ G_stays (E:=qaJ) (fn:=Tryz.f121) (c:=qco) (qo rfl qdE) (fun w S hg=>⟨⟨(qa (qsH w S hg) qc),fun f sp h=>qbr f sp h w S⟩,qdG w S hg,(fun _ _ h=>by cases h),(fun _ _ h=>by cases h),(fun _ _ h=>by cases h),(fun t kt vt h=>qcE t kt vt h)⟩) follows Tryz.func121 (by kernel_rfl) (by kernel_rfl) (by kernel_rfl) ?_;intro avs r h;unfold s_z121_v0 at h;split at h
  ·simp only [yb] at h;obtain ⟨hp,rfl⟩:=h;obtain ⟨n,hn⟩:=qmz _ hp;exact ⟨n,_,(qsI n _ _).trans hn,.inl rfl⟩
  ·cases h
 have h1:qe G Tryz.prog 121 s_z121_v1:=by
  refine qJ G_stays (E:=qaK) (fn:=Tryz.f121) (c:=qcr) (qo rfl qdE) (fun w S hg=>⟨⟨(qa (qwT w S hg) qc),fun f sp h=>qbr f sp h w S⟩,qdG w S hg,(fun _ _ h=>by cases h),(fun _ _ h=>by cases h),(fun _ _ h=>by cases h),(fun t kt vt h=>qcE t kt vt h)⟩) follows Tryz.func121 (by kernel_rfl) (by kernel_rfl) (by kernel_rfl) ?_;intro avs r h;unfold s_z121_v1 at h;split at h
  ·simp only [yb] at h;obtain ⟨hp,rfl⟩:=h;obtain ⟨n,hn⟩:=qlT _ hp;exact ⟨n,_,(qsJ n _ _).trans hn,.inl rfl⟩
  ·cases h
 intro vals avs r h hS ha;unfold s_z121 at h;split at h
 ·rename_i a0 o f;cases e:(f==122) with
  | true =>
   rw [e] at h;obtain rfl:=of_decide_eq_true e;exact h0 w S hg vals [.dat (.sl (.int .i32)) a0 o,.fn 122 []] r h hS ha
  | false =>
   rw [e] at h;cases e2:(f==91) with
   | true =>
    rw [e2] at h;obtain rfl:=of_decide_eq_true e2;exact h1 w S hg vals [.dat (.sl (.int .i32)) a0 o,.fn 91 []] r h hS ha
   | false=>rw [e2] at h; cases h
 ·cases h
end
end Go.Av
