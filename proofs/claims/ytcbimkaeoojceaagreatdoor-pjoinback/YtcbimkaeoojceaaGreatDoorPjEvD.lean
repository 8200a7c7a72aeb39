import Derived.Test.YtcbimkaeoojceaaGreatDoorPjEvC
import Derived.Test.YtcbimkaeoojceaaGreatDoorPjU
import Derived.Test.YtcbimkaeoojceaaGreatDoorProg
import Derived.KernelRfl
namespace Go.Av
set_option linter.unusedSimpArgs false
set_option linter.unusedVariables false
noncomputable section
open Go.Proofs
set_option maxRecDepth 100000
def E_z70:EnvP:=eQ [(96,s_z96)] 19 (some [2]) (fun x=>if x=3 then some [3,6,7,8] else none) (fun x=>if x=0 then some [3] else if x=1 then some [3,6,7,8] else none) nP
def C_z70:Code:=cO Tryz.f70
def R_z70:Array ResultVar:=Tryz.f70.results
noncomputable def qnd (K:Ex→Fr→OA):=fun t3=>K (.exit 0) (frOf [(3,(.dat (.sl (.int .i32)) t3 (some (3,21))))])
def qro (n:Nat):Ex→Fr→OA:=qw 0 (E_z70.cutb 0) (kSeq (evCP E_z70 (evLP E_z70 n) (sub C_z70 [1,1,1])) (kFnP E_z70 R_z70))
def qxP (t3:LI) (s6:LU) (s7:Int) (s8:Int):Fr:=frOf [(3,(.dat (.sl (.int .i32)) t3 (some (3,21)))),(6,da s6),(7,dc s7),(8,dc s8)]
theorem qCP (K:Ex→Fr→OA):∀ (n:Nat) (t3:LI) (s6:LU) (s7:Int) (s8:Int),evLP E_z70 n (sub C_z70 [1,1,0,1,0,0]) K (qxP t3 s6 s7 s8)=qpB (qnd K) n t3 s6 s7 s8:=by
 intro n;induction n with
 | zero=>intros; rfl
 | succ n IH =>
 intro t3 s6 s7 s8;have ih:(fun t3 s6 s7 s8=>evLP E_z70 n (sub C_z70 [1,1,0,1,0,0]) K (qxP t3 s6 s7 s8))=qpB (qnd K) n:=by
  funext t3 s6 s7 s8;exact IH t3 s6 s7 s8
 show _=qfS (qnd K) (qpB (qnd K) n) n t3 s6 s7 s8;rw [← ih];kernel_rfl
theorem qut (n:Nat) (t3:LI):(qro n) (.exit 0) (frOf [(3,(.dat (.sl (.int .i32)) t3 (some (3,21))))])=qfT n t3:=by
 kernel_rfl
theorem qQi (n:Nat) (s0:LU) (o0:Lab):evFnP E_z70 n C_z70 R_z70 [db s0 o0]=qEO n s0:=by
 unfold qEO;rw [show qpB (qfT n) n=(fun t3 s6 s7 s8=>evLP E_z70 n (sub C_z70 [1,1,0,1,0,0]) (qro n) (qxP t3 s6 s7 s8)) from by
  funext t3 s6 s7 s8;refine Eq.trans ?_ (qCP (qro n) n t3 s6 s7 s8).symm;rw [show (qnd (qro n))=(qfT n) from by
   funext t3;exact qut n t3]
  all_goals kernel_rfl]
 kernel_rfl
theorem qCQ:qf G Tryz.prog 70 s_z70:=by
 refine sQ (E:=E_z70) (c:=C_z70) rfl (fun w S hg=>(qa (qCO w S hg) qd)) Tryz.func70 ?_;intro avs r h;unfold s_z70 at h;split at h
 ·obtain ⟨hp,rfl⟩:=yj h;obtain ⟨n,hn⟩:=qLy _ hp;exact ⟨n,_,(qQi n _ _).trans hn,.inl rfl⟩
 ·cases h
def qND:EnvP:=⟨⟨tiOf tis,fnsOf [],cnsOf [],[],4,(fun _=>none),(fun _=>none),some [0]⟩,fun _=>none,fun _=>none,(fun x=>if x=500002 then [1] else []),fun _=>none,fun _=>none,fun _=>none,fun _=>none⟩
def qNE:Code:=cO Tryz.f115
def qQj:Array ResultVar:=Tryz.f115.results
theorem qNF (n:Nat)  : evFnP qND n qNE qQj []=qGO n  := by
 kernel_rfl
theorem qxQ:qf G Tryz.prog 115 s_z115:=by
 refine qM G_stays (E:=qND) (fn:=Tryz.f115) (c:=qNE) (qo rfl qcq) (fun w S hg=>⟨⟨qd,fun f sp h=>qaN f sp h w S⟩,qaU w S hg,(fun _ _ h=>by cases h),(fun f sp h=>qbz f sp h),(fun f it h=>qbA f it h),(fun t kt vt h=>qaP t kt vt h)⟩) follows Tryz.func115 (by kernel_rfl) (by kernel_rfl) (by kernel_rfl) ?_;intro avs r h;unfold s_z115 at h;split at h <;> cases h
 obtain ⟨n,hn⟩:=qFv;exact ⟨n,_,(qNF n ).trans hn,.inl rfl⟩
def E_z97:EnvP:=eQ [(115,s_z115)] 20 (some [2]) nC nC nP
def C_z97:Code:=cO Tryz.f97
def R_z97:Array ResultVar:=Tryz.f97.results
theorem qQk (n:Nat) (x0:UInt8) (o0:Lab):evFnP E_z97 n C_z97 R_z97 [dp x0 o0]=qJK n x0:=by
 kernel_rfl
theorem qCR:qf G Tryz.prog 97 s_z97:=by
 refine sQ (E:=E_z97) (c:=C_z97) rfl (fun w S hg=>(qa (qxQ w S hg) qd)) Tryz.func97 ?_;intro avs r h;unfold s_z97 at h;split at h <;> cases h
 obtain ⟨n,hn⟩:=qLK _;exact ⟨n,_,(qQk n _ _).trans hn,.inl rfl⟩
def E_z71:EnvP:=eQ [(97,s_z97)] 22 (some [2]) (fun x=>if x=3 then some [3,9,10,11] else none) (fun x=>if x=0 then some [3] else if x=1 then some [3,9,10,11] else none) nP
def C_z71:Code:=cO Tryz.f71
def R_z71:Array ResultVar:=Tryz.f71.results
noncomputable def qne (K:Ex→Fr→OA):=fun t3=>K (.exit 0) (frOf [(3,(.dat (.sl (.int .i32)) t3 (some (3,21))))])
def qrp (n:Nat):Ex→Fr→OA:=qw 0 (E_z71.cutb 0) (kSeq (evCP E_z71 (evLP E_z71 n) (sub C_z71 [1,1,1])) (kFnP E_z71 R_z71))
def qxR (t3:LI) (s9:LU) (s10:Int) (s11:Int):Fr:=frOf [(3,(.dat (.sl (.int .i32)) t3 (some (3,21)))),(9,da s9),(10,dc s10),(11,dc s11)]
theorem qCS (K:Ex→Fr→OA):∀ (n:Nat) (t3:LI) (s9:LU) (s10:Int) (s11:Int),evLP E_z71 n (sub C_z71 [1,1,0,1,0,0]) K (qxR t3 s9 s10 s11)=qpC (qne K) n t3 s9 s10 s11:=by
 intro n;induction n with
 | zero=>intros; rfl
 | succ n IH =>
 intro t3 s9 s10 s11;have ih:(fun t3 s9 s10 s11=>evLP E_z71 n (sub C_z71 [1,1,0,1,0,0]) K (qxR t3 s9 s10 s11))=qpC (qne K) n:=by
  funext t3 s9 s10 s11;exact IH t3 s9 s10 s11
 show _=qfU (qne K) (qpC (qne K) n) n t3 s9 s10 s11;rw [← ih];kernel_rfl
theorem quu (n:Nat) (t3:LI):(qrp n) (.exit 0) (frOf [(3,(.dat (.sl (.int .i32)) t3 (some (3,21))))])=qfV n t3:=by
 kernel_rfl
theorem qQl (n:Nat) (s0:LU) (o0:Lab):evFnP E_z71 n C_z71 R_z71 [db s0 o0]=qEP n s0:=by
 unfold qEP;rw [show qpC (qfV n) n=(fun t3 s9 s10 s11=>evLP E_z71 n (sub C_z71 [1,1,0,1,0,0]) (qrp n) (qxR t3 s9 s10 s11)) from by
  funext t3 s9 s10 s11;refine Eq.trans ?_ (qCS (qrp n) n t3 s9 s10 s11).symm;rw [show (qne (qrp n))=(qfV n) from by
   funext t3;exact quu n t3]
  all_goals kernel_rfl]
 kernel_rfl
theorem qCT:qf G Tryz.prog 71 s_z71:=by
 refine sQ (E:=E_z71) (c:=C_z71) rfl (fun w S hg=>(qa (qCR w S hg) qd)) Tryz.func71 ?_;intro avs r h;unfold s_z71 at h;split at h
 ·obtain ⟨hp,rfl⟩:=yj h;obtain ⟨n,hn⟩:=qLz _ hp;exact ⟨n,_,(qQl n _ _).trans hn,.inl rfl⟩
 ·cases h
def E_z50:EnvP:=eQ [(51,s_z51),(69,s_z69),(70,s_z70),(71,s_z71),(72,s_z72)] 24 (some [1000004]) nC (fun x=>if x=0 then some [1] else none) nP
def C_z50:Code:=cO Tryz.f50
def R_z50:Array ResultVar:=Tryz.f50.results
theorem qQm (n:Nat) (charset0:Int) (o0:Lab) (s1:LU) (o1:Lab):evFnP E_z50 n C_z50 R_z50 [de charset0 o0,db s1 o1]=qJL n charset0 s1:=by
 kernel_rfl
theorem qCU:qf G Tryz.prog 50 s_z50:=by
 refine sQ (E:=E_z50) (c:=C_z50) rfl (fun w S hg=>(qa (qri w S hg) (qa (qCM w S hg) (qa (qCQ w S hg) (qa (qCT w S hg) (qa (qrk w S hg) qd)))))) Tryz.func50 ?_;intro avs r h;unfold s_z50 at h;split at h
 ·obtain ⟨hp,rfl⟩:=yj h;obtain ⟨n,hn⟩:=qLA _ _ hp;exact ⟨n,_,(qQm n _ _ _ _).trans hn,.inl rfl⟩
 ·cases h
def E_z30:EnvP:=eQ [(46,s_z46),(47,s_z47),(48,s_z48),(49,s_z49),(50,s_z50),(51,s_z51)] 60 (some [2]) (fun x=>if x=11 then some [3,4,10,42,43,44] else none) (fun x=>if x=0 then some [3,4,10] else if x=1 then some [3,4,10,42,43,44] else none) nP
def C_z30:Code:=cO Tryz.f30
def R_z30:Array ResultVar:=Tryz.f30.results
noncomputable def qnf (K:Ex→Fr→OA):=fun first3 charset4 s10=>K (.exit 0) (frOf [(3,(.box (.pair (.sl .byte) (.pair (.int .i64) (.pair .bool (.pair (.sl .byte) .unit)))) first3)),(4,dc charset4),(10,(db s10 (some (10,5))))])
def qrq (n:Nat):Ex→Fr→OA:=qw 0 (E_z30.cutb 0) (kSeq (evCP E_z30 (evLP E_z30 n) (sub C_z30 [1,1,1,1,1,1])) (kFnP E_z30 R_z30))
def qxS (first3:LU×(Int×(Bool×(LU×Unit)))) (charset4:Int) (s10:LU) (s42:List (LU×(Int×(Bool×(LU×Unit))))) (s43:Int) (s44:Int):Fr:=frOf [(3,(.box (.pair (.sl .byte) (.pair (.int .i64) (.pair .bool (.pair (.sl .byte) .unit)))) first3)),(4,dc charset4),(10,(db s10 (some (10,5)))),(42,(.dat (.sl (.pair (.sl .byte) (.pair (.int .i64) (.pair .bool (.pair (.sl .byte) .unit))))) s42 none)),(43,dc s43),(44,dc s44)]
theorem qxT (K:Ex→Fr→OA):∀ (n:Nat) (first3:LU×(Int×(Bool×(LU×Unit)))) (charset4:Int) (s10:LU) (s42:List (LU×(Int×(Bool×(LU×Unit))))) (s43:Int) (s44:Int),evLP E_z30 n (sub C_z30 [1,1,1,1,1,0,1,0,0]) K (qxS first3 charset4 s10 s42 s43 s44)=qdj (qnf K) n first3 charset4 s10 s42 s43 s44:=by
 intro n;induction n with
 | zero=>intros; rfl
 | succ n IH =>
 intro first3 charset4 s10 s42 s43 s44;have ih:(fun first3 charset4 s10 s42 s43 s44=>evLP E_z30 n (sub C_z30 [1,1,1,1,1,0,1,0,0]) K (qxS first3 charset4 s10 s42 s43 s44))=qdj (qnf K) n:=by
  funext first3 charset4 s10 s42 s43 s44;exact IH first3 charset4 s10 s42 s43 s44
 show _=qdG (qnf K) (qdj (qnf K) n) n first3 charset4 s10 s42 s43 s44;rw [← ih];kernel_rfl
theorem qpb (n:Nat) (first3:LU×(Int×(Bool×(LU×Unit)))) (charset4:Int) (s10:LU):(qrq n) (.exit 0) (frOf [(3,(.box (.pair (.sl .byte) (.pair (.int .i64) (.pair .bool (.pair (.sl .byte) .unit)))) first3)),(4,dc charset4),(10,(db s10 (some (10,5))))])=qaA n first3 charset4 s10:=by
 kernel_rfl
theorem qQn (n:Nat) (l0:List (LU×(Int×(Bool×(LU×Unit))))) (o0:Lab):evFnP E_z30 n C_z30 R_z30 [.dat (.sl (.pair (.sl .byte) (.pair (.int .i64) (.pair .bool (.pair (.sl .byte) .unit))))) l0 o0]=qEQ n l0:=by
 unfold qEQ qdH qbk qaq qaa;rw [show qdj (qaA n) n=(fun first3 charset4 s10 s42 s43 s44=>evLP E_z30 n (sub C_z30 [1,1,1,1,1,0,1,0,0]) (qrq n) (qxS first3 charset4 s10 s42 s43 s44)) from by
  funext first3 charset4 s10 s42 s43 s44;refine Eq.trans ?_ (qxT (qrq n) n first3 charset4 s10 s42 s43 s44).symm;rw [show (qnf (qrq n))=(qaA n) from by
   funext first3 charset4 s10;exact qpb n first3 charset4 s10]
  all_goals kernel_rfl]
 kernel_rfl
theorem qCV:qf G Tryz.prog 30 s_z30:=by
 refine sQ (E:=E_z30) (c:=C_z30) rfl (fun w S hg=>(qa (qCr w S hg) (qa (qCy w S hg) (qa (qCm w S hg) (qa (qCE w S hg) (qa (qCU w S hg) (qa (qri w S hg) qd))))))) Tryz.func30 ?_;intro avs r h;unfold s_z30 at h;split at h
 ·obtain ⟨hp,rfl⟩:=yj h;obtain ⟨n,hn⟩:=qIU _ hp;exact ⟨n,_,(qQn n _ _).trans hn,.inl rfl⟩
 ·cases h
def E_z14:EnvP:=⟨⟨tiOf tis,fnsOf [(28,s_z28),(29,s_z29),(30,s_z30)],cnsOf [],[],60,(fun x=>if x=4 then some [0,3,4,13,14,15] else if x=12 then some [0,3,4,7,9,13,14,15,37,38,39] else none),(fun x=>if x=0 then some [3] else if x=1 then some [0,3,4,13,14,15] else if x=2 then some [0,3,4,7,9,13,14,15] else if x=3 then some [0,3,4,7,9,13,14,15,37,38,39] else none),some [2]⟩,fun _=>none,fun _=>none,fun _=>[],fun _=>none,fun _=>none,fun _=>none,(fun x=>if x=57 then some (9,4) else none)⟩
def C_z14:Code:=cO Tryz.f14
def R_z14:Array ResultVar:=Tryz.f14.results
noncomputable def qng (K:Ex→Fr→OA):=fun l0 out3 met4 name7 of9 s13 s14 s15=>K (.exit 2) (frOf [(0,(.dat (.sl (.pair (.sl .byte) (.pair (.int .i64) (.pair .bool (.pair (.sl .byte) .unit))))) l0 none)),(3,(.dat (.sl (.pair (.sl .byte) (.pair (.sl (.int .i32)) .unit))) out3 (some (3,31)))),(4,(.abs (.sl (.pair .str .bool)) (qfD .str .bool) met4)),(7,(db name7 (some (7,5)))),(9,(.dat (.sl (.pair (.sl .byte) (.pair (.int .i64) (.pair .bool (.pair (.sl .byte) .unit))))) of9 (some (9,59)))),(13,(.dat (.sl (.pair (.sl .byte) (.pair (.int .i64) (.pair .bool (.pair (.sl .byte) .unit))))) s13 none)),(14,dc s14),(15,dc s15)])
noncomputable def qiw (K:Ex→Fr→OA):=fun out3=>K (.exit 0) (frOf [(3,(.dat (.sl (.pair (.sl .byte) (.pair (.sl (.int .i32)) .unit))) out3 (some (3,31))))])
def qrr (n:Nat) (K:Ex→Fr→OA):Ex→Fr→OA:=qw 2 (E_z14.cutb 2) (kSeq (evCP E_z14 (evLP E_z14 n) (sub C_z14 [1,1,1,0,1,0,0,1,1,0,0,1,1,1,1,1,1,1])) (qw 1 (E_z14.cutb 1) (kSeq (evCP E_z14 (evLP E_z14 n) (sub C_z14 [1,1,1,0,1,0,0,1,1,1])) (kSeq (fun K fr=>evLP E_z14 n (sub C_z14 [1,1,1,0,1,0,0]) K (cutFP (E_z14.cuts 4) fr)) K))))
def qrs (n:Nat):Ex→Fr→OA:=qw 0 (E_z14.cutb 0) (kSeq (evCP E_z14 (evLP E_z14 n) (sub C_z14 [1,1,1,1])) (kFnP E_z14 R_z14))
def qxU (l0:List (LU×(Int×(Bool×(LU×Unit))))) (out3:List (LU×(LI×Unit))) (met4:List (LU×Bool)) (name7:LU) (of9:List (LU×(Int×(Bool×(LU×Unit))))) (s13:List (LU×(Int×(Bool×(LU×Unit))))) (s14:Int) (s15:Int) (s37:LI) (s38:Int) (s39:Int):Fr:=frOf [(0,(.dat (.sl (.pair (.sl .byte) (.pair (.int .i64) (.pair .bool (.pair (.sl .byte) .unit))))) l0 none)),(3,(.dat (.sl (.pair (.sl .byte) (.pair (.sl (.int .i32)) .unit))) out3 (some (3,31)))),(4,(.abs (.sl (.pair .str .bool)) (qfD .str .bool) met4)),(7,(db name7 (some (7,5)))),(9,(.dat (.sl (.pair (.sl .byte) (.pair (.int .i64) (.pair .bool (.pair (.sl .byte) .unit))))) of9 (some (9,59)))),(13,(.dat (.sl (.pair (.sl .byte) (.pair (.int .i64) (.pair .bool (.pair (.sl .byte) .unit))))) s13 none)),(14,dc s14),(15,dc s15),(37,(.dat (.sl (.int .i64)) s37 none)),(38,dc s38),(39,dc s39)]
def qjE (l0:List (LU×(Int×(Bool×(LU×Unit))))) (out3:List (LU×(LI×Unit))) (met4:List (LU×Bool)) (s13:List (LU×(Int×(Bool×(LU×Unit))))) (s14:Int) (s15:Int):Fr:=frOf [(0,(.dat (.sl (.pair (.sl .byte) (.pair (.int .i64) (.pair .bool (.pair (.sl .byte) .unit))))) l0 none)),(3,(.dat (.sl (.pair (.sl .byte) (.pair (.sl (.int .i32)) .unit))) out3 (some (3,31)))),(4,(.abs (.sl (.pair .str .bool)) (qfD .str .bool) met4)),(13,(.dat (.sl (.pair (.sl .byte) (.pair (.int .i64) (.pair .bool (.pair (.sl .byte) .unit))))) s13 none)),(14,dc s14),(15,dc s15)]
theorem qxV (K:Ex→Fr→OA):∀ (n:Nat) (l0:List (LU×(Int×(Bool×(LU×Unit))))) (out3:List (LU×(LI×Unit))) (met4:List (LU×Bool)) (name7:LU) (of9:List (LU×(Int×(Bool×(LU×Unit))))) (s13:List (LU×(Int×(Bool×(LU×Unit))))) (s14:Int) (s15:Int) (s37:LI) (s38:Int) (s39:Int),evLP E_z14 n (sub C_z14 [1,1,1,0,1,0,0,1,1,0,0,1,1,1,1,1,1,0,1,0,0]) K (qxU l0 out3 met4 name7 of9 s13 s14 s15 s37 s38 s39)=qiN (qng K) n l0 out3 met4 name7 of9 s13 s14 s15 s37 s38 s39:=by
 intro n;induction n with
 | zero=>intros; rfl
 | succ n IH =>
 intro l0 out3 met4 name7 of9 s13 s14 s15 s37 s38 s39;have ih:(fun l0 out3 met4 name7 of9 s13 s14 s15 s37 s38 s39=>evLP E_z14 n (sub C_z14 [1,1,1,0,1,0,0,1,1,0,0,1,1,1,1,1,1,0,1,0,0]) K (qxU l0 out3 met4 name7 of9 s13 s14 s15 s37 s38 s39))=qiN (qng K) n:=by
  funext l0 out3 met4 name7 of9 s13 s14 s15 s37 s38 s39;exact IH l0 out3 met4 name7 of9 s13 s14 s15 s37 s38 s39
 show _=qdI (qng K) (qiN (qng K) n) n l0 out3 met4 name7 of9 s13 s14 s15 s37 s38 s39;rw [← ih];kernel_rfl
theorem qpc (K:Ex→Fr→OA) (n:Nat) (l0:List (LU×(Int×(Bool×(LU×Unit))))) (out3:List (LU×(LI×Unit))) (met4:List (LU×Bool)) (name7:LU) (of9:List (LU×(Int×(Bool×(LU×Unit))))) (s13:List (LU×(Int×(Bool×(LU×Unit))))) (s14:Int) (s15:Int):(qrr n K) (.exit 2) (frOf [(0,(.dat (.sl (.pair (.sl .byte) (.pair (.int .i64) (.pair .bool (.pair (.sl .byte) .unit))))) l0 none)),(3,(.dat (.sl (.pair (.sl .byte) (.pair (.sl (.int .i32)) .unit))) out3 (some (3,31)))),(4,(.abs (.sl (.pair .str .bool)) (qfD .str .bool) met4)),(7,(db name7 (some (7,5)))),(9,(.dat (.sl (.pair (.sl .byte) (.pair (.int .i64) (.pair .bool (.pair (.sl .byte) .unit))))) of9 (some (9,59)))),(13,(.dat (.sl (.pair (.sl .byte) (.pair (.int .i64) (.pair .bool (.pair (.sl .byte) .unit))))) s13 none)),(14,dc s14),(15,dc s15)])=qdJ (fun out3=>K (.exit 0) (frOf [(3,(.dat (.sl (.pair (.sl .byte) (.pair (.sl (.int .i32)) .unit))) out3 (some (3,31))))])) (fun l0 out3 met4 s13 s14 s15=>evLP E_z14 n (sub C_z14 [1,1,1,0,1,0,0]) K (qjE l0 out3 met4 s13 s14 s15)) n l0 out3 met4 name7 of9 s13 s14 s15:=by
 kernel_rfl
theorem qCW (K:Ex→Fr→OA):∀ (n:Nat) (l0:List (LU×(Int×(Bool×(LU×Unit))))) (out3:List (LU×(LI×Unit))) (met4:List (LU×Bool)) (s13:List (LU×(Int×(Bool×(LU×Unit))))) (s14:Int) (s15:Int),evLP E_z14 n (sub C_z14 [1,1,1,0,1,0,0]) K (qjE l0 out3 met4 s13 s14 s15)=qnI (qiw K) n l0 out3 met4 s13 s14 s15:=by
 intro n;induction n with
 | zero=>intros; rfl
 | succ n IH =>
 intro l0 out3 met4 s13 s14 s15;have ih:(fun l0 out3 met4 s13 s14 s15=>evLP E_z14 n (sub C_z14 [1,1,1,0,1,0,0]) K (qjE l0 out3 met4 s13 s14 s15))=qnI (qiw K) n:=by
  funext l0 out3 met4 s13 s14 s15;exact IH l0 out3 met4 s13 s14 s15
 show _=qel (qiw K) (qnI (qiw K) n) n l0 out3 met4 s13 s14 s15;rw [← ih];unfold qel qam;rw [show qiN (qdJ (qiw K) (fun l0 out3 met4 s13 s14 s15=>evLP E_z14 n (sub C_z14 [1,1,1,0,1,0,0]) K (qjE l0 out3 met4 s13 s14 s15)) n) n=(fun l0 out3 met4 name7 of9 s13 s14 s15 s37 s38 s39=>evLP E_z14 n (sub C_z14 [1,1,1,0,1,0,0,1,1,0,0,1,1,1,1,1,1,0,1,0,0]) (qrr n K) (qxU l0 out3 met4 name7 of9 s13 s14 s15 s37 s38 s39)) from by
  funext l0 out3 met4 name7 of9 s13 s14 s15 s37 s38 s39;refine Eq.trans ?_ (qxV (qrr n K) n l0 out3 met4 name7 of9 s13 s14 s15 s37 s38 s39).symm;rw [show (qng (qrr n K))=(qdJ (qiw K) (fun l0 out3 met4 s13 s14 s15=>evLP E_z14 n (sub C_z14 [1,1,1,0,1,0,0]) K (qjE l0 out3 met4 s13 s14 s15)) n) from by
   funext l0 out3 met4 name7 of9 s13 s14 s15;exact qpc K n l0 out3 met4 name7 of9 s13 s14 s15]
  all_goals kernel_rfl]
 kernel_rfl
theorem quv (n:Nat) (out3:List (LU×(LI×Unit))):(qrs n) (.exit 0) (frOf [(3,(.dat (.sl (.pair (.sl .byte) (.pair (.sl (.int .i32)) .unit))) out3 (some (3,31))))])=qem n out3:=by
 kernel_rfl
theorem qQo (n:Nat) (l0:List (LU×(Int×(Bool×(LU×Unit))))) (o0:Lab):evFnP E_z14 n C_z14 R_z14 [.dat (.sl (.pair (.sl .byte) (.pair (.int .i64) (.pair .bool (.pair (.sl .byte) .unit))))) l0 o0]=qJM n l0:=by
 unfold qJM;rw [show qnI (qem n) n=(fun l0 out3 met4 s13 s14 s15=>evLP E_z14 n (sub C_z14 [1,1,1,0,1,0,0]) (qrs n) (qjE l0 out3 met4 s13 s14 s15)) from by
  funext l0 out3 met4 s13 s14 s15;refine Eq.trans ?_ (qCW (qrs n) n l0 out3 met4 s13 s14 s15).symm;rw [show (qiw (qrs n))=(qem n) from by
   funext out3;exact quv n out3]
  all_goals kernel_rfl]
 kernel_rfl
theorem qCX:qf G Tryz.prog 14 s_z14:=by
 refine qM G_stays (E:=E_z14) (fn:=Tryz.f14) (c:=C_z14) (qo rfl qcq) (fun w S hg=>⟨⟨(qa (qhk w S hg) (qa (qCp w S hg) (qa (qCV w S hg) qd))),fun f sp h=>qaN f sp h w S⟩,qaU w S hg,(fun _ _ h=>by cases h),(fun f sp h=>qbz f sp h),(fun f it h=>qbA f it h),(fun t kt vt h=>(qon (by kernel_rfl) qaP) t kt vt h)⟩) follows Tryz.func14 (by kernel_rfl) (by kernel_rfl) (by kernel_rfl) ?_;intro avs r h;unfold s_z14 at h;split at h
 ·obtain ⟨hp,rfl⟩:=yj h;obtain ⟨n,hn⟩:=qIZ _ hp;exact ⟨n,_,(qQo n _ _).trans hn,.inl rfl⟩
 ·cases h
def E_z76:EnvP:=eQ [] 10 (some [4]) nC nC nP
def C_z76:Code:=cO Tryz.f76
def R_z76:Array ResultVar:=Tryz.f76.results
theorem qQp (n:Nat) (s0:LU) (o0:Lab) (at1:Int) (o1:Lab):evFnP E_z76 n C_z76 R_z76 [db s0 o0,de at1 o1]=qJN n s0 at1:=by
 kernel_rfl
theorem qhm:qf G Tryz.prog 76 s_z76:=by
 refine sQ (E:=E_z76) (c:=C_z76) rfl (fun w S hg=>qd) Tryz.func76 ?_;intro avs r h;unfold s_z76 at h;split at h <;> cases h
 obtain ⟨n,hn⟩:=qIv _ _;exact ⟨n,_,(qQp n _ _ _ _).trans hn,.inl rfl⟩
def qNG:EnvP:=eQ [] 56 (some [4,56]) nC (fun x=>if x=0 then some [56] else none) nP
def qNH:Code:=cO Tryz.f100
def qQq:Array ResultVar:=Tryz.f100.results
theorem qNI (n:Nat) (k0:Int×(Int×(Bool×Unit))) (c1:UInt8) (o1:Lab):evFnM qNG n qNH qQq [.pbox (.ppair (.leaf (.int .i64)) (.ppair (.leaf (.int .i64)) (.ppair (.leaf .bool) (.leaf .unit)))) k0 none,dp c1 o1]=qzV n k0 c1:=by
 kernel_rfl
theorem qxW:qmx G Tryz.prog 100 s_z100:=by
 refine qaF G_stays (E:=qNG) (fn:=Tryz.f100) (c:=qNH) (qo rfl qcq) (fun w S hg=>⟨⟨qd,fun f sp h=>qaN f sp h w S⟩,qaU w S hg,(fun _ _ h=>by cases h),(fun f sp h=>qbz f sp h),(fun f it h=>qbA f it h),(fun t kt vt h=>qaP t kt vt h)⟩) follows Tryz.func100 (by kernel_rfl) (by kernel_rfl) (by kernel_rfl) ?_;intro avs r h;unfold s_z100 at h;split at h
 ·obtain ⟨hp,rfl⟩:=yj h;obtain ⟨n,hn⟩:=qEq _ _ hp;exact ⟨n,(qNI n _ _ _).trans hn⟩
 ·cases h
def E_z78:EnvP:=⟨⟨tiOf tis,fnsOf [],cnsOf [],[],35,(fun x=>if x=4 then some [0,4,5,12,13,14] else none),(fun x=>if x=0 then some [0,4] else if x=1 then some [0,4,5,12,13,14] else none),some [2,3]⟩,(fun x=>if x=8 then some (.ppair (.leaf (.int .i64)) (.ppair (.leaf (.int .i64)) (.ppair (.leaf .bool) (.leaf .unit)))) else if x=9 then some (.ppair (.leaf (.int .i64)) (.ppair (.leaf (.int .i64)) (.ppair (.leaf .bool) (.leaf .unit)))) else none),fun _=>none,fun _=>[],(fun x=>if x=100 then some s_z100 else none),fun _=>none,fun _=>none,fun _=>none⟩
def C_z78:Code:=cO Tryz.f78
def R_z78:Array ResultVar:=Tryz.f78.results
noncomputable def qnh (K:Ex→Fr→OA):=fun s0 k4=>K (.exit 0) (frOf [(0,da s0),(4,(.pbox (.ppair (.leaf (.int .i64)) (.ppair (.leaf (.int .i64)) (.ppair (.leaf .bool) (.leaf .unit)))) k4 none))])
noncomputable def qrt (K:Ex→Fr→OA):=fun s2 s3=>K .ret (frOf [(2,dc s2),(3,dc s3)])
def qru (n:Nat):Ex→Fr→OA:=qw 0 (E_z78.cutb 0) (kSeq (evCP E_z78 (evLP E_z78 n) (sub C_z78 [1,1,1,1])) (kFnP E_z78 R_z78))
def qxX (s0:LU) (k4:Int×(Int×(Bool×Unit))) (s12:LU) (s13:Int) (s14:Int):Fr:=frOf [(0,da s0),(4,(.pbox (.ppair (.leaf (.int .i64)) (.ppair (.leaf (.int .i64)) (.ppair (.leaf .bool) (.leaf .unit)))) k4 none)),(5,(.padr 4 [.clo 100 true])),(12,da s12),(13,dc s13),(14,dc s14)]
theorem qCY (K:Ex→Fr→OA):∀ (n:Nat) (s0:LU) (k4:Int×(Int×(Bool×Unit))) (s12:LU) (s13:Int) (s14:Int),evLP E_z78 n (sub C_z78 [1,1,1,0,1,0,0]) K (qxX s0 k4 s12 s13 s14)=qpD (qrt K) (qnh K) n s0 k4 s12 s13 s14:=by
 intro n;induction n with
 | zero=>intros; rfl
 | succ n IH =>
 intro s0 k4 s12 s13 s14;have ih:(fun s0 k4 s12 s13 s14=>evLP E_z78 n (sub C_z78 [1,1,1,0,1,0,0]) K (qxX s0 k4 s12 s13 s14))=qpD (qrt K) (qnh K) n:=by
  funext s0 k4 s12 s13 s14;exact IH s0 k4 s12 s13 s14
 show _=qfX (qrt K) (qnh K) (qpD (qrt K) (qnh K) n) n s0 k4 s12 s13 s14;rw [← ih];kernel_rfl
theorem quw (n:Nat) (s0:LU) (k4:Int×(Int×(Bool×Unit))):(qru n) (.exit 0) (frOf [(0,da s0),(4,(.pbox (.ppair (.leaf (.int .i64)) (.ppair (.leaf (.int .i64)) (.ppair (.leaf .bool) (.leaf .unit)))) k4 none))])=qiO n s0 k4:=by
 kernel_rfl
theorem qQr (n:Nat) (s0:LU) (o0:Lab):evFnP E_z78 n C_z78 R_z78 [db s0 o0]=qJO n s0:=by
 unfold qJO;rw [show qpD qnJ (qiO n) n=(fun s0 k4 s12 s13 s14=>evLP E_z78 n (sub C_z78 [1,1,1,0,1,0,0]) (qru n) (qxX s0 k4 s12 s13 s14)) from by
  funext s0 k4 s12 s13 s14;refine Eq.trans ?_ (qCY (qru n) n s0 k4 s12 s13 s14).symm;rw [show (qnh (qru n))=(qiO n) from by
   funext s0 k4;exact quw n s0 k4]
  all_goals kernel_rfl]
 kernel_rfl
theorem qCZ:qf G Tryz.prog 78 s_z78:=by
 refine qM G_stays (E:=E_z78) (fn:=Tryz.f78) (c:=C_z78) (qo rfl qcq) (fun w S hg=>⟨⟨qd,fun f sp h=>qaN f sp h w S⟩,qaU w S hg,(fun f sp h=>(qea (qxW w S hg) qhF) f sp h),(fun f sp h=>qbz f sp h),(fun f it h=>qbA f it h),(fun t kt vt h=>qaP t kt vt h)⟩) follows Tryz.func78 (by kernel_rfl) (by kernel_rfl) (by kernel_rfl) ?_;intro avs r h;unfold s_z78 at h;split at h
 ·obtain ⟨hp,rfl⟩:=yj h;obtain ⟨n,hn⟩:=qIw _ hp;exact ⟨n,_,(qQr n _ _).trans hn,.inl rfl⟩
 ·cases h
def E_z54:EnvP:=eQ [(76,s_z76),(77,s_z77),(78,s_z78)] 43 (some [4]) (fun x=>if x=2 then some [0,1] else none) (fun x=>if x=0 then some [1] else if x=1 then some [0,1] else if x=2 then some [0,1] else none) nP
def C_z54:Code:=cO Tryz.f54
def R_z54:Array ResultVar:=Tryz.f54.results
noncomputable def qni (K:Ex→Fr→OA):=fun at1=>K (.exit 0) (frOf [(1,dc at1)])
noncomputable def qrv (K:Ex→Fr→OA):=fun s4=>K .ret (frOf [(4,dc s4)])
def qrw (n:Nat):Ex→Fr→OA:=qw 0 (E_z54.cutb 0) (kSeq (evCP E_z54 (evLP E_z54 n) (sub C_z54 [1,1,1])) (kFnP E_z54 R_z54))
def qxY (s0:LU) (at1:Int):Fr:=frOf [(0,da s0),(1,dc at1)]
theorem qDa (K:Ex→Fr→OA):∀ (n:Nat) (s0:LU) (at1:Int),evLP E_z54 n (sub C_z54 [1,1,0,0,0]) K (qxY s0 at1)=qpE (qrv K) (qni K) n s0 at1:=by
 intro n;induction n with
 | zero=>intros; rfl
 | succ n IH =>
 intro s0 at1;have ih:(fun s0 at1=>evLP E_z54 n (sub C_z54 [1,1,0,0,0]) K (qxY s0 at1))=qpE (qrv K) (qni K) n:=by
  funext s0 at1;exact IH s0 at1
 show _=qlB (qrv K) (qni K) (qpE (qrv K) (qni K) n) n s0 at1;rw [← ih];kernel_rfl
theorem qux (n:Nat) (at1:Int):(qrw n) (.exit 0) (frOf [(1,dc at1)])=qiP n at1:=by
 kernel_rfl
theorem qQs (n:Nat) (s0:LU) (o0:Lab) (at1:Int) (o1:Lab):evFnP E_z54 n C_z54 R_z54 [db s0 o0,de at1 o1]=qJP n s0 at1:=by
 unfold qJP;rw [show qpE qjS (qiP n) n=(fun s0 at1=>evLP E_z54 n (sub C_z54 [1,1,0,0,0]) (qrw n) (qxY s0 at1)) from by
  funext s0 at1;refine Eq.trans ?_ (qDa (qrw n) n s0 at1).symm;rw [show (qni (qrw n))=(qiP n) from by
   funext at1;exact qux n at1]
  all_goals kernel_rfl]
 kernel_rfl
theorem qhn:qf G Tryz.prog 54 s_z54:=by
 refine sQ (E:=E_z54) (c:=C_z54) rfl (fun w S hg=>(qa (qhm w S hg) (qa (qhl w S hg) (qa (qCZ w S hg) qd)))) Tryz.func54 ?_;intro avs r h;unfold s_z54 at h;split at h
 ·obtain ⟨hp,rfl⟩:=yj h;obtain ⟨n,hn⟩:=qIy _ _ hp;exact ⟨n,_,(qQs n _ _ _ _).trans hn,.inl rfl⟩
 ·cases h
def E_z75:EnvP:=eQ [] 46 (some [2,3,4]) (fun x=>if x=6 then some [5,6,19,20,21] else none) (fun x=>if x=0 then some [] else if x=1 then some [5,6,19,20,21] else if x=2 then some [5,6,19,20,21] else none) nP
def C_z75:Code:=cO Tryz.f75
def R_z75:Array ResultVar:=Tryz.f75.results
noncomputable def qrx (K:Ex→Fr→OA):=fun s2 s3 s4=>K .ret (frOf [(2,(db s2 (some (2,5)))),(3,dc s3),(4,dc s4)])
def qry (n:Nat):Ex→Fr→OA:=qw 0 (E_z75.cutb 0) (kSeq (evCP E_z75 (evLP E_z75 n) (sub C_z75 [1,1,1,1,1])) (kFnP E_z75 R_z75))
def qxZ (out5:LU) (taken6:Bool) (s19:LU) (s20:Int) (s21:Int):Fr:=frOf [(5,(db out5 (some (5,5)))),(6,dg taken6),(19,da s19),(20,dc s20),(21,dc s21)]
theorem qDb (K:Ex→Fr→OA):∀ (n:Nat) (out5:LU) (taken6:Bool) (s19:LU) (s20:Int) (s21:Int),evLP E_z75 n (sub C_z75 [1,1,1,1,0,1,0,0]) K (qxZ out5 taken6 s19 s20 s21)=qlC (qrx K) (K (.exit 0) (frOf [])) n out5 taken6 s19 s20 s21:=by
 intro n;induction n with
 | zero=>intros; rfl
 | succ n IH =>
 intro out5 taken6 s19 s20 s21;have ih:(fun out5 taken6 s19 s20 s21=>evLP E_z75 n (sub C_z75 [1,1,1,1,0,1,0,0]) K (qxZ out5 taken6 s19 s20 s21))=qlC (qrx K) (K (.exit 0) (frOf [])) n:=by
  funext out5 taken6 s19 s20 s21;exact IH out5 taken6 s19 s20 s21
 show _=qbn (qrx K) (K (.exit 0) (frOf [])) (qlC (qrx K) (K (.exit 0) (frOf [])) n) n out5 taken6 s19 s20 s21;rw [← ih];kernel_rfl
theorem quy (n:Nat)  : (qry n) (.exit 0) (frOf [])=qfY n  := by
 kernel_rfl
theorem qQt (n:Nat) (s0:LU) (o0:Lab):evFnP E_z75 n C_z75 R_z75 [db s0 o0]=qER n s0:=by
 unfold qER;rw [show qlC qgK (qfY n) n=(fun out5 taken6 s19 s20 s21=>evLP E_z75 n (sub C_z75 [1,1,1,1,0,1,0,0]) (qry n) (qxZ out5 taken6 s19 s20 s21)) from by
  funext out5 taken6 s19 s20 s21;refine Eq.trans ?_ (qDb (qry n) n out5 taken6 s19 s20 s21).symm;rw [show ((qry n) (.exit 0) (frOf []))=(qfY n) from by
   exact quy n ]
  all_goals kernel_rfl]
 kernel_rfl
theorem qrz:qf G Tryz.prog 75 s_z75:=by
 refine sQ (E:=E_z75) (c:=C_z75) rfl (fun w S hg=>qd) Tryz.func75 ?_;intro avs r h;unfold s_z75 at h;split at h
 ·obtain ⟨hp,rfl⟩:=yj h;obtain ⟨n,hn⟩:=qIB _ hp;exact ⟨n,_,(qQt n _ _).trans hn,.inl rfl⟩
 ·cases h
end
end Go.Av
