import Derived.Test.YtabdohophompiaaGreatDoorPxEvB
import Derived.Test.YtabdohophompiaaGreatDoorPxN
import Derived.Test.YtabdohophompiaaGreatDoorProg
import Derived.KernelRfl
namespace Go.Av
set_option linter.unusedSimpArgs false
noncomputable section
open Go.Proofs
set_option maxRecDepth 100000
set_option linter.unusedVariables false
def E_z91:EnvP:=eQ [] 9 (some [2]) nC nC nP
def C_z91:Code:=cO Tryz.f91
def R_z91:Array ResultVar:=Tryz.f91.results
theorem qFE (n:Nat) (c0:Int) (o0:Lab):evFnP E_z91 n C_z91 R_z91 [di c0 o0]=qAM n c0:=by
 kernel_rfl
theorem qvo:qh G Tryz.prog 91 s_z91:=by
 refine sQ (E:=E_z91) (c:=C_z91) rfl (fun w S hg=>qc) Tryz.func91 ?_;intro avs r h;unfold s_z91 at h;split at h <;> cases h
 obtain ⟨n,hn⟩:=qAc _;exact ⟨n,_,(qFE n _ _).trans hn,.inl rfl⟩
def qDg:EnvP:=eQ [(108,s_z108)] 6 (some [2]) nC nC nP
def qDh:Code:=cO Tryz.f122
def qFF:Array ResultVar:=Tryz.f122.results
theorem qDi (n:Nat) (c0:Int) (o0:Lab):evFnP qDg n qDh qFF [di c0 o0]=qyk n c0:=by
 kernel_rfl
theorem qrq:qh G Tryz.prog 122 s_z122:=by
 refine sQ (E:=qDg) (c:=qDh) rfl (fun w S hg=>(qb (qgv w S hg) qc)) Tryz.func122 ?_;intro avs r h;unfold s_z122 at h;split at h <;> cases h
 obtain ⟨n,hn⟩:=qxz _;exact ⟨n,_,(qDi n _ _).trans hn,.inl rfl⟩
def qaG:EnvP:=eQ [(122,s_z122)] 19 (some [4]) (fun x=>if x=2 then some [0,1,7,8] else none) (fun x=>if x=0 then some [] else if x=1 then some [0,1,7,8] else none) nP
def qcm:Code:=cO Tryz.f121
def qnb:Array ResultVar:=Tryz.f121.results
noncomputable def qcn (K:Ex→Fr→Option AV):=fun s4=>K .ret (frOf [(4,dc s4)])
def qco (n:Nat):Ex→Fr→Option AV:=qz 0 (qaG.cutb 0) (kSeq (evCP qaG (evLP qaG n) (sub qcm [1,1])) (kFnP qaG qnb))
def qei (s0:List Int) (s7:Int) (s8:Int):Fr:=frOf [(0,(.dat (.sl (.int .i32)) s0 none)),(1,(.fn 122 [])),(7,dc s7),(8,dc s8)]
theorem qjY (K:Ex→Fr→Option AV):∀ (n:Nat) (s0:List Int) (s7:Int) (s8:Int),evLP qaG n (sub qcm [1,0,1,0,0]) K (qei s0 s7 s8)=qaW (qcn K) (K (.exit 0) (frOf [])) n s0 s7 s8:=by
 intro n;induction n with
 | zero=>intros; rfl
 | succ n IH =>
 intro s0 s7 s8;have ih:(fun s0 s7 s8=>evLP qaG n (sub qcm [1,0,1,0,0]) K (qei s0 s7 s8))=qaW (qcn K) (K (.exit 0) (frOf [])) n:=by
  funext s0 s7 s8;exact IH s0 s7 s8
 show _=qaw (qcn K) (K (.exit 0) (frOf [])) (qaW (qcn K) (K (.exit 0) (frOf [])) n) n s0 s7 s8;rw [← ih];kernel_rfl
theorem qhi (n:Nat)  : (qco n) (.exit 0) (frOf [])=qaX n  := by
 kernel_rfl
theorem qrr (n:Nat) (s0:List Int) (o0:Lab):evFnP qaG n qcm qnb [.dat (.sl (.int .i32)) s0 o0,.fn 122 []]=qdF n s0:=by
 unfold qdF;rw [show qaW qbv (qaX n) n=(fun s0 s7 s8=>evLP qaG n (sub qcm [1,0,1,0,0]) (qco n) (qei s0 s7 s8)) from by
  funext s0 s7 s8;refine Eq.trans ?_ (qjY (qco n) n s0 s7 s8).symm;rw [show ((qco n) (.exit 0) (frOf []))=(qaX n) from by
   exact qhi n ]
  all_goals kernel_rfl]
 kernel_rfl
def qaH:EnvP:=eQ [(91,s_z91)] 19 (some [4]) (fun x=>if x=2 then some [0,1,7,8] else none) (fun x=>if x=0 then some [] else if x=1 then some [0,1,7,8] else none) nP
def qcp:Code:=cO Tryz.f121
def qnc:Array ResultVar:=Tryz.f121.results
noncomputable def qcq (K:Ex→Fr→Option AV):=fun s4=>K .ret (frOf [(4,dc s4)])
def qcr (n:Nat):Ex→Fr→Option AV:=qz 0 (qaH.cutb 0) (kSeq (evCP qaH (evLP qaH n) (sub qcp [1,1])) (kFnP qaH qnc))
def qej (s0:List Int) (s7:Int) (s8:Int):Fr:=frOf [(0,(.dat (.sl (.int .i32)) s0 none)),(1,(.fn 91 [])),(7,dc s7),(8,dc s8)]
theorem qjZ (K:Ex→Fr→Option AV):∀ (n:Nat) (s0:List Int) (s7:Int) (s8:Int),evLP qaH n (sub qcp [1,0,1,0,0]) K (qej s0 s7 s8)=qaY (qcq K) (K (.exit 0) (frOf [])) n s0 s7 s8:=by
 intro n;induction n with
 | zero=>intros; rfl
 | succ n IH =>
 intro s0 s7 s8;have ih:(fun s0 s7 s8=>evLP qaH n (sub qcp [1,0,1,0,0]) K (qej s0 s7 s8))=qaY (qcq K) (K (.exit 0) (frOf [])) n:=by
  funext s0 s7 s8;exact IH s0 s7 s8
 show _=qax (qcq K) (K (.exit 0) (frOf [])) (qaY (qcq K) (K (.exit 0) (frOf [])) n) n s0 s7 s8;rw [← ih];kernel_rfl
theorem qhj (n:Nat)  : (qcr n) (.exit 0) (frOf [])=qaZ n  := by
 kernel_rfl
theorem qrs (n:Nat) (s0:List Int) (o0:Lab):evFnP qaH n qcp qnc [.dat (.sl (.int .i32)) s0 o0,.fn 91 []]=qdG n s0:=by
 unfold qdG;rw [show qaY qbw (qaZ n) n=(fun s0 s7 s8=>evLP qaH n (sub qcp [1,0,1,0,0]) (qcr n) (qej s0 s7 s8)) from by
  funext s0 s7 s8;refine Eq.trans ?_ (qjZ (qcr n) n s0 s7 s8).symm;rw [show ((qcr n) (.exit 0) (frOf []))=(qaZ n) from by
   exact qhj n ]
  all_goals kernel_rfl]
 kernel_rfl
theorem qka:qh G Tryz.prog 121 s_z121:=fun w S hg=>by
 have h0:qh G Tryz.prog 121 s_z121_v0:=by
  refine qO G_stays (E:=qaG) (fn:=Tryz.f121) (c:=qcm) (qn rfl qeh) (fun w S hg=>⟨⟨(qb (qrq w S hg) qc),fun f sp h=>qbF f sp h w S⟩,qfh w S hg,(fun _ _ h=>by cases h),(fun _ _ h=>by cases h),(fun _ _ h=>by cases h),(fun t kt vt h=>qdb t kt vt h)⟩) follows Tryz.func121 (by kernel_rfl) (by kernel_rfl) (by kernel_rfl) ?_;intro avs r h;unfold s_z121_v0 at h;split at h
  ·simp only [yb] at h;obtain ⟨hp,rfl⟩:=h;obtain ⟨n,hn⟩:=qlZ _ hp;exact ⟨n,_,(qrr n _ _).trans hn,.inl rfl⟩
  ·cases h
 have h1:qh G Tryz.prog 121 s_z121_v1:=by
  refine qO G_stays (E:=qaH) (fn:=Tryz.f121) (c:=qcp) (qn rfl qeh) (fun w S hg=>⟨⟨(qb (qvo w S hg) qc),fun f sp h=>qbF f sp h w S⟩,qfh w S hg,(fun _ _ h=>by cases h),(fun _ _ h=>by cases h),(fun _ _ h=>by cases h),(fun t kt vt h=>qdb t kt vt h)⟩) follows Tryz.func121 (by kernel_rfl) (by kernel_rfl) (by kernel_rfl) ?_;intro avs r h;unfold s_z121_v1 at h;split at h
  ·simp only [yb] at h;obtain ⟨hp,rfl⟩:=h;obtain ⟨n,hn⟩:=qly _ hp;exact ⟨n,_,(qrs n _ _).trans hn,.inl rfl⟩
  ·cases h
 intro vals avs r h hS ha;unfold s_z121 at h;split at h
 ·rename_i a0 o f;cases e:(f==122) with
  | true =>
   rw [e] at h;obtain rfl:=of_decide_eq_true e;exact h0 w S hg vals [.dat (.sl (.int .i32)) a0 o,.fn 122 []] r h hS ha
  | false =>
   rw [e] at h;cases e2:(f==91) with
   | true =>
    rw [e2] at h;obtain rfl:=of_decide_eq_true e2;exact h1 w S hg vals [.dat (.sl (.int .i32)) a0 o,.fn 91 []] r h hS ha
   | false=>rw [e2] at h; cases h
 ·cases h
def E_z88:EnvP:=eQ [(121,s_z121)] 5 (some [2]) nC nC nP
def C_z88:Code:=cO Tryz.f88
def R_z88:Array ResultVar:=Tryz.f88.results
theorem qFG (n:Nat) (t0:List Int) (o0:Lab):evFnP E_z88 n C_z88 R_z88 [.dat (.sl (.int .i32)) t0 o0]=qAN n t0:=by
 kernel_rfl
theorem qvp:qh G Tryz.prog 88 s_z88:=by
 refine sQ (E:=E_z88) (c:=C_z88) rfl (fun w S hg=>(qb (qka w S hg) qc)) Tryz.func88 ?_;intro avs r h;unfold s_z88 at h;split at h
 ·obtain ⟨hp,rfl⟩:=yj h;obtain ⟨n,hn⟩:=qBA _ hp;exact ⟨n,_,(qFG n _ _).trans hn,.inl rfl⟩
 ·cases h
def E_z49:EnvP:=eQ [(88,s_z88)] 6 (some [2]) nC nC nP
def C_z49:Code:=cO Tryz.f49
def R_z49:Array ResultVar:=Tryz.f49.results
theorem qFH (n:Nat) (t0:List Int) (o0:Lab):evFnP E_z49 n C_z49 R_z49 [.dat (.sl (.int .i32)) t0 o0]=qAO n t0:=by
 kernel_rfl
theorem qnd:qh G Tryz.prog 49 s_z49:=by
 refine sQ (E:=E_z49) (c:=C_z49) rfl (fun w S hg=>(qb (qvp w S hg) qc)) Tryz.func49 ?_;intro avs r h;unfold s_z49 at h;split at h
 ·obtain ⟨hp,rfl⟩:=yj h;obtain ⟨n,hn⟩:=qBB _ hp;exact ⟨n,_,(qFH n _ _).trans hn,.inl rfl⟩
 ·cases h
def qDj:EnvP:=eQ [(108,s_z108)] 16 (some [2]) nC (fun x=>if x=0 then some [] else none) nP
def qDk:Code:=cO Tryz.f128
def qFI:Array ResultVar:=Tryz.f128.results
theorem qDl (n:Nat) (c0:Int) (o0:Lab):evFnP qDj n qDk qFI [di c0 o0]=qtf n c0:=by
 kernel_rfl
theorem qrt:qh G Tryz.prog 128 s_z128:=by
 refine sQ (E:=qDj) (c:=qDk) rfl (fun w S hg=>(qb (qgv w S hg) qc)) Tryz.func128 ?_;intro avs r h;unfold s_z128 at h;split at h <;> cases h
 obtain ⟨n,hn⟩:=qxC _;exact ⟨n,_,(qDl n _ _).trans hn,.inl rfl⟩
def qDm:EnvP:=eQ [] 10 (some [2]) nC (fun x=>if x=0 then some [] else none) nP
def qDn:Code:=cO Tryz.f129
def qFJ:Array ResultVar:=Tryz.f129.results
theorem qDo (n:Nat) (n0:Int) (o0:Lab):evFnP qDm n qDn qFJ [de n0 o0]=qtg n n0:=by
 kernel_rfl
theorem qru:qh G Tryz.prog 129 s_z129:=by
 refine sQ (E:=qDm) (c:=qDn) rfl (fun w S hg=>qc) Tryz.func129 ?_;intro avs r h;unfold s_z129 at h;split at h <;> cases h
 obtain ⟨n,hn⟩:=qxu _;exact ⟨n,_,(qDo n _ _).trans hn,.inl rfl⟩
def qDp:EnvP:=eQ [(53,s_z53),(128,s_z128),(129,s_z129)] 56 (some [4,5]) nC (fun x=>if x=0 then some [7] else if x=1 then some [1,7] else if x=2 then some [1,7] else if x=3 then some [1,7] else none) nP
def qDq:Code:=cO Tryz.f112
def qFK:Array ResultVar:=Tryz.f112.results
theorem qDr (n:Nat) (b0:List UInt8) (o0:Lab) (c1:Int) (o1:Lab):evFnP qDp n qDq qFK [db b0 o0,di c1 o1]=qth n b0 c1:=by
 kernel_rfl
theorem qrv:qh G Tryz.prog 112 s_z112:=by
 refine sQ (E:=qDp) (c:=qDq) rfl (fun w S hg=>(qb (qdA w S hg) (qb (qrt w S hg) (qb (qru w S hg) qc)))) Tryz.func112 ?_;intro avs r h;unfold s_z112 at h;split at h
 ·obtain ⟨hp,rfl⟩:=yj h;obtain ⟨n,hn⟩:=qxD _ _ hp;exact ⟨n,_,(qDr n _ _ _ _).trans hn,.inl rfl⟩
 ·cases h
def E_z76:EnvP:=eQ [(49,s_z49),(112,s_z112)] 28 (some [2,3]) (fun x=>if x=5 then some [4,12,13,14] else none) (fun x=>if x=0 then some [4] else if x=1 then some [4,12,13,14] else none) nP
def C_z76:Code:=cO Tryz.f76
def R_z76:Array ResultVar:=Tryz.f76.results
noncomputable def qkb (K:Ex→Fr→Option AV):=fun out4=>K (.exit 0) (frOf [(4,(db out4 (some (4,5))))])
def qne (n:Nat):Ex→Fr→Option AV:=qz 0 (E_z76.cutb 0) (kSeq (evCP E_z76 (evLP E_z76 n) (sub C_z76 [1,1,1,1])) (kFnP E_z76 R_z76))
def qrw (out4:List UInt8) (s12:List Int) (s13:Int) (s14:Int):Fr:=frOf [(4,(db out4 (some (4,5)))),(12,(.dat (.sl (.int .i32)) s12 none)),(13,dc s13),(14,dc s14)]
theorem qvq (K:Ex→Fr→Option AV):∀ (n:Nat) (out4:List UInt8) (s12:List Int) (s13:Int) (s14:Int),evLP E_z76 n (sub C_z76 [1,1,1,0,1,0,0]) K (qrw out4 s12 s13 s14)=qlI (qkb K) n out4 s12 s13 s14:=by
 intro n;induction n with
 | zero=>intros; rfl
 | succ n IH =>
 intro out4 s12 s13 s14;have ih:(fun out4 s12 s13 s14=>evLP E_z76 n (sub C_z76 [1,1,1,0,1,0,0]) K (qrw out4 s12 s13 s14))=qlI (qkb K) n:=by
  funext out4 s12 s13 s14;exact IH out4 s12 s13 s14
 show _=qew (qkb K) (qlI (qkb K) n) n out4 s12 s13 s14;rw [← ih];kernel_rfl
theorem qoW (n:Nat) (out4:List UInt8):(qne n) (.exit 0) (frOf [(4,(db out4 (some (4,5))))])=qex n out4:=by
 kernel_rfl
theorem qFL (n:Nat) (t0:List Int) (o0:Lab):evFnP E_z76 n C_z76 R_z76 [.dat (.sl (.int .i32)) t0 o0]=qwT n t0:=by
 unfold qwT;rw [show qlI (qex n) n=(fun out4 s12 s13 s14=>evLP E_z76 n (sub C_z76 [1,1,1,0,1,0,0]) (qne n) (qrw out4 s12 s13 s14)) from by
  funext out4 s12 s13 s14;refine Eq.trans ?_ (qvq (qne n) n out4 s12 s13 s14).symm;rw [show (qkb (qne n))=(qex n) from by
   funext out4;exact qoW n out4]
  all_goals kernel_rfl]
 kernel_rfl
theorem qvr:qh G Tryz.prog 76 s_z76:=by
 refine sQ (E:=E_z76) (c:=C_z76) rfl (fun w S hg=>(qb (qnd w S hg) (qb (qrv w S hg) qc))) Tryz.func76 ?_;intro avs r h;unfold s_z76 at h;split at h
 ·obtain ⟨hp,rfl⟩:=yj h;obtain ⟨n,hn⟩:=qBI _ hp;exact ⟨n,_,(qFL n _ _).trans hn,.inl rfl⟩
 ·cases h
def E_z77:EnvP:=eQ [(113,s_z113)] 28 (some [2,3]) (fun x=>if x=3 then some [4,9,10,11] else none) (fun x=>if x=0 then some [4] else if x=1 then some [4,9,10,11] else none) nP
def C_z77:Code:=cO Tryz.f77
def R_z77:Array ResultVar:=Tryz.f77.results
noncomputable def qnf (K:Ex→Fr→Option AV):=fun s2 s3=>K .ret (frOf [(2,(db s2 (some (2,5)))),(3,dc s3)])
noncomputable def qkc (K:Ex→Fr→Option AV):=fun s4=>K (.exit 0) (frOf [(4,(db s4 (some (4,5))))])
def qng (n:Nat):Ex→Fr→Option AV:=qz 0 (E_z77.cutb 0) (kSeq (evCP E_z77 (evLP E_z77 n) (sub C_z77 [1,1,1])) (kFnP E_z77 R_z77))
def qrx (s4:List UInt8) (s9:List Int) (s10:Int) (s11:Int):Fr:=frOf [(4,(db s4 (some (4,5)))),(9,(.dat (.sl (.int .i32)) s9 none)),(10,dc s10),(11,dc s11)]
theorem qvs (K:Ex→Fr→Option AV):∀ (n:Nat) (s4:List UInt8) (s9:List Int) (s10:Int) (s11:Int),evLP E_z77 n (sub C_z77 [1,1,0,1,0,0]) K (qrx s4 s9 s10 s11)=qlJ (qnf K) (qkc K) n s4 s9 s10 s11:=by
 intro n;induction n with
 | zero=>intros; rfl
 | succ n IH =>
 intro s4 s9 s10 s11;have ih:(fun s4 s9 s10 s11=>evLP E_z77 n (sub C_z77 [1,1,0,1,0,0]) K (qrx s4 s9 s10 s11))=qlJ (qnf K) (qkc K) n:=by
  funext s4 s9 s10 s11;exact IH s4 s9 s10 s11
 show _=qey (qnf K) (qkc K) (qlJ (qnf K) (qkc K) n) n s4 s9 s10 s11;rw [← ih];kernel_rfl
theorem qoX (n:Nat) (s4:List UInt8):(qng n) (.exit 0) (frOf [(4,(db s4 (some (4,5))))])=qez n s4:=by
 kernel_rfl
theorem qFM (n:Nat) (t0:List Int) (o0:Lab):evFnP E_z77 n C_z77 R_z77 [.dat (.sl (.int .i32)) t0 o0]=qwU n t0:=by
 unfold qwU;rw [show qlJ qhB (qez n) n=(fun s4 s9 s10 s11=>evLP E_z77 n (sub C_z77 [1,1,0,1,0,0]) (qng n) (qrx s4 s9 s10 s11)) from by
  funext s4 s9 s10 s11;refine Eq.trans ?_ (qvs (qng n) n s4 s9 s10 s11).symm;rw [show (qkc (qng n))=(qez n) from by
   funext s4;exact qoX n s4]
  all_goals kernel_rfl]
 kernel_rfl
theorem qvt:qh G Tryz.prog 77 s_z77:=by
 refine sQ (E:=E_z77) (c:=C_z77) rfl (fun w S hg=>(qb (qjS w S hg) qc)) Tryz.func77 ?_;intro avs r h;unfold s_z77 at h;split at h
 ·obtain ⟨hp,rfl⟩:=yj h;obtain ⟨n,hn⟩:=qBG _ hp;exact ⟨n,_,(qFM n _ _).trans hn,.inl rfl⟩
 ·cases h
end
end Go.Av
