import Derived.Test.YtmdadpepccbpcaaGreatDoorPoEvH
import Derived.Test.YtmdadpepccbpcaaGreatDoorPoD
import Derived.Test.YtmdadpepccbpcaaGreatDoorAvE
import Derived.Test.YtmdadpepccbpcaaGreatDoorProg
import Derived.KernelRfl
namespace Go.Av
set_option linter.unusedSimpArgs false
set_option linter.unusedVariables false
section
noncomputable section
open Go.Proofs
set_option maxRecDepth 100000
set_option linter.unusedVariables false
def qkb:EnvP:=eQ [] 69 (some [2,3]) (fun x=>if x=3 then some [0,4,5] else none) (fun x=>if x=0 then some [4] else if x=1 then some [0,4,5] else none) (fun x=>if x=2 then some (.psl 24 (.osl 5 .byte)) else if x=8 then some (.psl 24 (.osl 5 .byte)) else if x=39 then some (.psl 24 (.osl 5 .byte)) else if x=40 then some (.psl 24 (.osl 5 .byte)) else if x=54 then some (.osl 5 .byte) else none)
def qsk:Code:=cO Tryz.f102
def qHJ:Array ResultVar:=Tryz.f102.results
noncomputable def qhE (K:Ex→Fr→OA):=fun out4=>K (.exit 0) (frOf [(4,(.pv (.psl 24 (.osl 5 .byte)) out4 none))])
def qkc (n:Nat):Ex→Fr→OA:=qo 0 (qkb.cutb 0) (kSeq (evCP qkb (evLP qkb n) (sub qsk [1,1,1])) (kFnP qkb qHJ))
def qnU (s0:LU) (out4:List LU) (i5:Int):Fr:=frOf [(0,da s0),(4,(.pv (.psl 24 (.osl 5 .byte)) out4 none)),(5,dc i5)]
theorem quJ (K:Ex→Fr→OA):∀ (n:Nat) (s0:LU) (out4:List LU) (i5:Int),evLP qkb n (sub qsk [1,1,0,1,0,0]) K (qnU s0 out4 i5)=qfb (qhE K) n s0 out4 i5:=by
 intro n;induction n with
 | zero=>intros; rfl
 | succ n IH =>
 intro s0 out4 i5;have ih:(fun s0 out4 i5=>evLP qkb n (sub qsk [1,1,0,1,0,0]) K (qnU s0 out4 i5))=qfb (qhE K) n:=by
  funext s0 out4 i5;exact IH s0 out4 i5
 show _=qgW (qhE K) (qfb (qhE K) n) n s0 out4 i5;rw [← ih];kernel_rfl
theorem qnV (n:Nat) (out4:List LU):(qkc n) (.exit 0) (frOf [(4,(.pv (.psl 24 (.osl 5 .byte)) out4 none))])=qdA n out4:=by
 kernel_rfl
theorem qHK (n:Nat) (s0:LU) (o0:Lab):evFnP qkb n qsk qHJ [db s0 o0]=qro n s0:=by
 unfold qro;rw [show qfb (qdA n) n=(fun s0 out4 i5=>evLP qkb n (sub qsk [1,1,0,1,0,0]) (qkc n) (qnU s0 out4 i5)) from by
  funext s0 out4 i5;refine Eq.trans ?_ (quJ (qkc n) n s0 out4 i5).symm;rw [show (qhE (qkc n))=(qdA n) from by
   funext out4;exact qnV n out4]
  all_goals kernel_rfl]
 kernel_rfl
theorem quK:qe G Tryz.prog 102 s_z102:=by
 refine sQ (E:=qkb) (c:=qsk) rfl (fun w S hg=>qc) Tryz.func102 ?_;intro avs r h;unfold s_z102 at h;split at h
 ·obtain ⟨hp,rfl⟩:=yj h;obtain ⟨n,hn⟩:=qCU _ hp;exact ⟨n,_,(qHK n _ _).trans hn,.inl rfl⟩
 ·cases h
def E_z76:EnvP:=eQ [(102,s_z102)] 11 (some [2]) nC nC nP
def C_z76:Code:=cO Tryz.f76
def R_z76:Array ResultVar:=Tryz.f76.results
theorem qMk (n:Nat) (s0:LU) (o0:Lab):evFnP E_z76 n C_z76 R_z76 [db s0 o0]=qGb n s0:=by
 kernel_rfl
theorem qzS:qe G Tryz.prog 76 s_z76:=by
 refine sQ (E:=E_z76) (c:=C_z76) rfl (fun w S hg=>(qa (quK w S hg) qc)) Tryz.func76 ?_;intro avs r h;unfold s_z76 at h;split at h
 ·obtain ⟨hp,rfl⟩:=yj h;obtain ⟨n,hn⟩:=qGI _ hp;exact ⟨n,_,(qMk n _ _).trans hn,.inl rfl⟩
 ·cases h
def E_z35:EnvP:=eQ [(75,s_z75),(76,s_z76)] 47 (some [4]) (fun x=>if x=3 then some [0,1,5,6] else if x=14 then some [1,7,8] else none) (fun x=>if x=0 then some [0,1,5] else if x=1 then some [0,1,5,6] else if x=2 then some [] else if x=3 then some [1,7,8] else none) nP
def C_z35:Code:=cO Tryz.f35
def R_z35:Array ResultVar:=Tryz.f35.results
noncomputable def qmn (K:Ex→Fr→OA):=fun s0 most1 high5=>K (.exit 0) (frOf [(0,da s0),(1,dc most1),(5,dg high5)])
noncomputable def qgj (K:Ex→Fr→OA):=fun s4=>K .ret (frOf [(4,dc s4)])
def qqm (n:Nat):Ex→Fr→OA:=qo 2 (E_z35.cutb 2) (kSeq (evCP E_z35 (evLP E_z35 n) (sub C_z35 [1,1,1,1,1,1,1])) (kFnP E_z35 R_z35))
def qqn (n:Nat):Ex→Fr→OA:=qo 0 (E_z35.cutb 0) (kSeq (evCP E_z35 (evLP E_z35 n) (sub C_z35 [1,1,1])) (kFnP E_z35 R_z35))
def quL (s0:LU) (most1:Int) (high5:Bool) (i6:Int):Fr:=frOf [(0,da s0),(1,dc most1),(5,dg high5),(6,dc i6)]
def quM (most1:Int) (l7:List LU) (i8:Int):Fr:=frOf [(1,dc most1),(7,(.dat (.sl (.sl .byte)) l7 none)),(8,dc i8)]
theorem qzT (K:Ex→Fr→OA):∀ (n:Nat) (s0:LU) (most1:Int) (high5:Bool) (i6:Int),evLP E_z35 n (sub C_z35 [1,1,0,1,0,0]) K (quL s0 most1 high5 i6)=qlq (qgj K) (qmn K) n s0 most1 high5 i6:=by
 intro n;induction n with
 | zero=>intros; rfl
 | succ n IH =>
 intro s0 most1 high5 i6;have ih:(fun s0 most1 high5 i6=>evLP E_z35 n (sub C_z35 [1,1,0,1,0,0]) K (quL s0 most1 high5 i6))=qlq (qgj K) (qmn K) n:=by
  funext s0 most1 high5 i6;exact IH s0 most1 high5 i6
 show _=qgb (qgj K) (qmn K) (qlq (qgj K) (qmn K) n) n s0 most1 high5 i6;rw [← ih];kernel_rfl
theorem quN (K:Ex→Fr→OA):∀ (n:Nat) (most1:Int) (l7:List LU) (i8:Int),evLP E_z35 n (sub C_z35 [1,1,1,1,1,1,0,1,0,0]) K (quM most1 l7 i8)=qfc (qgj K) (K (.exit 2) (frOf [])) n most1 l7 i8:=by
 intro n;induction n with
 | zero=>intros; rfl
 | succ n IH =>
 intro most1 l7 i8;have ih:(fun most1 l7 i8=>evLP E_z35 n (sub C_z35 [1,1,1,1,1,1,0,1,0,0]) K (quM most1 l7 i8))=qfc (qgj K) (K (.exit 2) (frOf [])) n:=by
  funext most1 l7 i8;exact IH most1 l7 i8
 show _=qdB (qgj K) (K (.exit 2) (frOf [])) (qfc (qgj K) (K (.exit 2) (frOf [])) n) n most1 l7 i8;rw [← ih];kernel_rfl
theorem qnW (n:Nat)  : (qqm n) (.exit 2) (frOf [])=qfd n  := by
 kernel_rfl
theorem qsl (n:Nat) (s0:LU) (most1:Int) (high5:Bool):(qqn n) (.exit 0) (frOf [(0,da s0),(1,dc most1),(5,dg high5)])=qee n s0 most1 high5:=by
 unfold qee;rw [show qfc qdP (qfd n) n=(fun most1 l7 i8=>evLP E_z35 n (sub C_z35 [1,1,1,1,1,1,0,1,0,0]) (qqm n) (quM most1 l7 i8)) from by
  funext most1 l7 i8;refine Eq.trans ?_ (quN (qqm n) n most1 l7 i8).symm;rw [show ((qqm n) (.exit 2) (frOf []))=(qfd n) from by
   exact qnW n ]
  all_goals kernel_rfl]
 kernel_rfl
theorem qMl (n:Nat) (s0:LU) (o0:Lab) (most1:Int) (o1:Lab):evFnP E_z35 n C_z35 R_z35 [db s0 o0,de most1 o1]=qGc n s0 most1:=by
 unfold qGc;rw [show qlq qdP (qee n) n=(fun s0 most1 high5 i6=>evLP E_z35 n (sub C_z35 [1,1,0,1,0,0]) (qqn n) (quL s0 most1 high5 i6)) from by
  funext s0 most1 high5 i6;refine Eq.trans ?_ (qzT (qqn n) n s0 most1 high5 i6).symm;rw [show (qmn (qqn n))=(qee n) from by
   funext s0 most1 high5;exact qsl n s0 most1 high5]
  all_goals kernel_rfl]
 kernel_rfl
theorem qzU:qe G Tryz.prog 35 s_z35:=by
 refine sQ (E:=E_z35) (c:=C_z35) rfl (fun w S hg=>(qa (qBi w S hg) (qa (qzS w S hg) qc))) Tryz.func35 ?_;intro avs r h;unfold s_z35 at h;split at h
 ·obtain ⟨hp,rfl⟩:=yj h;obtain ⟨n,hn⟩:=qFt _ _ hp;exact ⟨n,_,(qMl n _ _ _ _).trans hn,.inl rfl⟩
 ·cases h
def E_z14:EnvP:=eQ [(32,s_z32),(33,s_z33),(34,s_z34),(35,s_z35)] 41 (some [1000006,7]) nC (fun x=>if x=0 then some [8] else none) nP
def C_z14:Code:=cO Tryz.f14
def R_z14:Array ResultVar:=Tryz.f14.results
theorem qMm (n:Nat) (coding0:Int) (o0:Lab) (charset1:Int) (o1:Lab) (t2:LI) (o2:Lab):evFnP E_z14 n C_z14 R_z14 [de coding0 o0,de charset1 o1,.dat (.sl (.int .i32)) t2 o2]=qGd n coding0 charset1 t2:=by
 kernel_rfl
theorem qzV:qe G Tryz.prog 14 s_z14:=by
 refine sQ (E:=E_z14) (c:=C_z14) rfl (fun w S hg=>(qa (qAX w S hg) (qa (qBc w S hg) (qa (qBg w S hg) (qa (qzU w S hg) qc))))) Tryz.func14 ?_;intro avs r h;unfold s_z14 at h;split at h
 ·obtain ⟨hp,rfl⟩:=yj h;obtain ⟨n,hn⟩:=qFC _ _ _ hp;exact ⟨n,_,(qMm n _ _ _ _ _ _).trans hn,.inl rfl⟩
 ·cases h
def E_z15:EnvP:=eQ [(13,s_z13)] 18 (some [6]) nC nC nP
def C_z15:Code:=cO Tryz.f15
def R_z15:Array ResultVar:=Tryz.f15.results
theorem qMn (n:Nat) (coding0:Int) (o0:Lab) (charset1:Int) (o1:Lab) (t2:LI) (o2:Lab):evFnP E_z15 n C_z15 R_z15 [de coding0 o0,de charset1 o1,.dat (.sl (.int .i32)) t2 o2]=qGe n coding0 charset1 t2:=by
 kernel_rfl
theorem qzW:qe G Tryz.prog 15 s_z15:=by
 refine sQ (E:=E_z15) (c:=C_z15) rfl (fun w S hg=>(qa (qgK w S hg) qc)) Tryz.func15 ?_;intro avs r h;unfold s_z15 at h;split at h
 ·obtain ⟨hp,rfl⟩:=yj h;obtain ⟨n,hn⟩:=qFD _ _ _ hp;exact ⟨n,_,(qMn n _ _ _ _ _ _).trans hn,.inl rfl⟩
 ·cases h
def E_z16:EnvP:=eQ [] 44 (some [2]) (fun x=>if x=3 then some [0,3,6,7,8] else none) (fun x=>if x=0 then some [3] else if x=1 then some [0,3,6,7,8] else if x=2 then some [0,3,6,7,8] else none) nP
def C_z16:Code:=cO Tryz.f16
def R_z16:Array ResultVar:=Tryz.f16.results
noncomputable def qmo (K:Ex→Fr→OA):=fun out3=>K (.exit 0) (frOf [(3,(.dat (.sl (.int .i32)) out3 (some (3,21))))])
def qqo (n:Nat):Ex→Fr→OA:=qo 0 (E_z16.cutb 0) (kSeq (evCP E_z16 (evLP E_z16 n) (sub C_z16 [1,1,1])) (kFnP E_z16 R_z16))
def quO (t0:LI) (out3:LI) (s6:LI) (s7:Int) (s8:Int):Fr:=frOf [(0,(.dat (.sl (.int .i32)) t0 none)),(3,(.dat (.sl (.int .i32)) out3 (some (3,21)))),(6,(.dat (.sl (.int .i32)) s6 none)),(7,dc s7),(8,dc s8)]
theorem qzX (K:Ex→Fr→OA):∀ (n:Nat) (t0:LI) (out3:LI) (s6:LI) (s7:Int) (s8:Int),evLP E_z16 n (sub C_z16 [1,1,0,1,0,0]) K (quO t0 out3 s6 s7 s8)=qlr (qmo K) n t0 out3 s6 s7 s8:=by
 intro n;induction n with
 | zero=>intros; rfl
 | succ n IH =>
 intro t0 out3 s6 s7 s8;have ih:(fun t0 out3 s6 s7 s8=>evLP E_z16 n (sub C_z16 [1,1,0,1,0,0]) K (quO t0 out3 s6 s7 s8))=qlr (qmo K) n:=by
  funext t0 out3 s6 s7 s8;exact IH t0 out3 s6 s7 s8
 show _=qgc (qmo K) (qlr (qmo K) n) n t0 out3 s6 s7 s8;rw [← ih];kernel_rfl
theorem qsm (n:Nat) (out3:LI):(qqo n) (.exit 0) (frOf [(3,(.dat (.sl (.int .i32)) out3 (some (3,21))))])=qiJ n out3:=by
 kernel_rfl
theorem qMo (n:Nat) (t0:LI) (o0:Lab):evFnP E_z16 n C_z16 R_z16 [.dat (.sl (.int .i32)) t0 o0]=qGf n t0:=by
 unfold qGf;rw [show qlr (qiJ n) n=(fun t0 out3 s6 s7 s8=>evLP E_z16 n (sub C_z16 [1,1,0,1,0,0]) (qqo n) (quO t0 out3 s6 s7 s8)) from by
  funext t0 out3 s6 s7 s8;refine Eq.trans ?_ (qzX (qqo n) n t0 out3 s6 s7 s8).symm;rw [show (qmo (qqo n))=(qiJ n) from by
   funext out3;exact qsm n out3]
  all_goals kernel_rfl]
 kernel_rfl
theorem qzY:qe G Tryz.prog 16 s_z16:=by
 refine sQ (E:=E_z16) (c:=C_z16) rfl (fun w S hg=>qc) Tryz.func16 ?_;intro avs r h;unfold s_z16 at h;split at h
 ·obtain ⟨hp,rfl⟩:=yj h;obtain ⟨n,hn⟩:=qFE _ hp;exact ⟨n,_,(qMo n _ _).trans hn,.inl rfl⟩
 ·cases h
def E_z17:EnvP:=eQ [] 52 (some [2]) (fun x=>if x=3 then some [0,3,4] else none) (fun x=>if x=0 then some [3] else if x=1 then some [0,3,4] else if x=2 then some [0,3,4] else none) nP
def C_z17:Code:=cO Tryz.f17
def R_z17:Array ResultVar:=Tryz.f17.results
noncomputable def qmp (K:Ex→Fr→OA):=fun out3=>K (.exit 0) (frOf [(3,(.dat (.sl (.int .i32)) out3 (some (3,21))))])
def qqp (n:Nat):Ex→Fr→OA:=qo 0 (E_z17.cutb 0) (kSeq (evCP E_z17 (evLP E_z17 n) (sub C_z17 [1,1,1])) (kFnP E_z17 R_z17))
def quP (t0:LI) (out3:LI) (i4:Int):Fr:=frOf [(0,(.dat (.sl (.int .i32)) t0 none)),(3,(.dat (.sl (.int .i32)) out3 (some (3,21)))),(4,dc i4)]
theorem qzZ (K:Ex→Fr→OA):∀ (n:Nat) (t0:LI) (out3:LI) (i4:Int),evLP E_z17 n (sub C_z17 [1,1,0,1,0,0]) K (quP t0 out3 i4)=qng (qmp K) n t0 out3 i4:=by
 intro n;induction n with
 | zero=>intros; rfl
 | succ n IH =>
 intro t0 out3 i4;have ih:(fun t0 out3 i4=>evLP E_z17 n (sub C_z17 [1,1,0,1,0,0]) K (quP t0 out3 i4))=qng (qmp K) n:=by
  funext t0 out3 i4;exact IH t0 out3 i4
 show _=qls (qmp K) (qng (qmp K) n) n t0 out3 i4;rw [← ih];kernel_rfl
theorem qsn (n:Nat) (out3:LI):(qqp n) (.exit 0) (frOf [(3,(.dat (.sl (.int .i32)) out3 (some (3,21))))])=qiK n out3:=by
 kernel_rfl
theorem qMp (n:Nat) (t0:LI) (o0:Lab):evFnP E_z17 n C_z17 R_z17 [.dat (.sl (.int .i32)) t0 o0]=qGg n t0:=by
 unfold qGg;rw [show qng (qiK n) n=(fun t0 out3 i4=>evLP E_z17 n (sub C_z17 [1,1,0,1,0,0]) (qqp n) (quP t0 out3 i4)) from by
  funext t0 out3 i4;refine Eq.trans ?_ (qzZ (qqp n) n t0 out3 i4).symm;rw [show (qmp (qqp n))=(qiK n) from by
   funext out3;exact qsn n out3]
  all_goals kernel_rfl]
 kernel_rfl
theorem qAa:qe G Tryz.prog 17 s_z17:=by
 refine sQ (E:=E_z17) (c:=C_z17) rfl (fun w S hg=>qc) Tryz.func17 ?_;intro avs r h;unfold s_z17 at h;split at h
 ·obtain ⟨hp,rfl⟩:=yj h;obtain ⟨n,hn⟩:=qFF _ hp;exact ⟨n,_,(qMp n _ _).trans hn,.inl rfl⟩
 ·cases h
def E_z4:EnvP:=eQ [(7,s_z7),(10,s_z10),(11,s_z11),(13,s_z13),(14,s_z14),(15,s_z15),(16,s_z16),(17,s_z17)] 60 (some [4]) nC nC nP
def C_z4:Code:=cO Tryz.f4
def R_z4:Array ResultVar:=Tryz.f4.results
theorem z4_ev (n:Nat) (h0:Int×(Int×Unit)) (o0:Lab) (t1:LI) (o1:Lab):evFnP E_z4 n C_z4 R_z4 [.dat (.pair (.int .i64) (.pair (.int .i64) .unit)) h0 o0,.dat (.sl (.int .i32)) t1 o1]=z4_sh n h0 t1:=by
 kernel_rfl
theorem qFf:qe G Tryz.prog 4 s_z4:=by
 refine sQ (E:=E_z4) (c:=C_z4) rfl (fun w S hg=>(qa (qFi w S hg) (qa (qAR w S hg) (qa (qqE w S hg) (qa (qgK w S hg) (qa (qzV w S hg) (qa (qzW w S hg) (qa (qzY w S hg) (qa (qAa w S hg) qc))))))))) Tryz.func4 ?_;intro avs r h;unfold s_z4 at h;split at h
 ·obtain ⟨hp,rfl⟩:=yj h;obtain ⟨n,hn⟩:=qLD _ _ hp;exact ⟨n,_,(z4_ev n _ _ _ _).trans hn,.inl rfl⟩
 ·cases h
end
end
end Go.Av
