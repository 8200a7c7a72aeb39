import Derived.Test.YtcbimkaeoojceaaGreatDoorPjEvH
import Derived.Test.YtcbimkaeoojceaaGreatDoorPjU
import Derived.Test.YtcbimkaeoojceaaGreatDoorProg
import Derived.KernelRfl
namespace Go.Av
set_option linter.unusedSimpArgs false
noncomputable section
open Go.Proofs
set_option maxRecDepth 100000
set_option linter.unusedVariables false
def E_z12:EnvP:=eQ [(21,s_z21)] 17 (some [2]) (fun x=>if x=2 then some [0,3] else none) (fun x=>if x=0 then some [] else if x=1 then some [0,3] else none) nP
def C_z12:Code:=cO Tryz.f12
def R_z12:Array ResultVar:=Tryz.f12.results
noncomputable def qnu (K:Ex→Fr→Option AV):=fun s2=>K .ret (frOf [(2,dc s2)])
def qnv (n:Nat):Ex→Fr→Option AV:=qw 0 (E_z12.cutb 0) (kSeq (evCP E_z12 (evLP E_z12 n) (sub C_z12 [1,1])) (kFnP E_z12 R_z12))
def qrW (t0:List Int) (i3:Int):Fr:=frOf [(0,(.dat (.sl (.int .i32)) t0 none)),(3,dc i3)]
theorem qvP (K:Ex→Fr→Option AV):∀ (n:Nat) (t0:List Int) (i3:Int),evLP E_z12 n (sub C_z12 [1,0,1,0,0]) K (qrW t0 i3)=qmv (qnu K) (K (.exit 0) (frOf [])) n t0 i3:=by
 intro n;induction n with
 | zero=>intros; rfl
 | succ n IH =>
 intro t0 i3;have ih:(fun t0 i3=>evLP E_z12 n (sub C_z12 [1,0,1,0,0]) K (qrW t0 i3))=qmv (qnu K) (K (.exit 0) (frOf [])) n:=by
  funext t0 i3;exact IH t0 i3
 show _=qeM (qnu K) (K (.exit 0) (frOf [])) (qmv (qnu K) (K (.exit 0) (frOf [])) n) n t0 i3;rw [← ih];kernel_rfl
theorem qpG (n:Nat)  : (qnv n) (.exit 0) (frOf [])=qhd n  := by
 kernel_rfl
theorem qFo (n:Nat) (t0:List Int) (o0:Lab):evFnP E_z12 n C_z12 R_z12 [.dat (.sl (.int .i32)) t0 o0]=qxL n t0:=by
 unfold qxL;rw [show qmv qhc (qhd n) n=(fun t0 i3=>evLP E_z12 n (sub C_z12 [1,0,1,0,0]) (qnv n) (qrW t0 i3)) from by
  funext t0 i3;refine Eq.trans ?_ (qvP (qnv n) n t0 i3).symm;rw [show ((qnv n) (.exit 0) (frOf []))=(qhd n) from by
   exact qpG n ]
  all_goals kernel_rfl]
 kernel_rfl
theorem qvQ:ql G Tryz.prog 12 s_z12:=by
 refine sQ (E:=E_z12) (c:=C_z12) rfl (fun w S hg=>(qb (qxg w S hg) qf)) Tryz.func12 ?_;intro avs r h;unfold s_z12 at h;split at h
 ·obtain ⟨hp,rfl⟩:=yj h;obtain ⟨n,hn⟩:=qBR _ hp;exact ⟨n,_,(qFo n _ _).trans hn,.inl rfl⟩
 ·cases h
def E_z4:EnvP:=eQ [(5,s_z5),(7,s_z7),(8,s_z8),(10,s_z10),(11,s_z11),(12,s_z12)] 93 (some [2]) (fun x=>if x=6 then some [0,3,4,19,20,21] else if x=9 then some [0,3,4,6,19,20,21,26,27] else if x=16 then some [0,3,4,6,8,19,20,21,40,41,42] else none) (fun x=>if x=0 then some [0,4] else if x=1 then some [0,3,4,19,20,21] else if x=2 then some [0,3,4,6,19,20,21] else if x=3 then some [0,3,4,6,19,20,21,26,27] else if x=4 then some [0,3,4,6,8,19,20,21] else if x=5 then some [0,3,4,6,8,19,20,21,40,41,42] else none) nP
def C_z4:Code:=cO Tryz.f4
def R_z4:Array ResultVar:=Tryz.f4.results
noncomputable def qrX (K:Ex→Fr→Option AV):=fun s0 l3 n4 p6 s19 s20 s21=>K (.exit 2) (frOf [(0,da s0),(3,(.dat (.sl (.pair (.sl .byte) (.pair (.sl (.int .i32)) .unit))) l3 (some (3,31)))),(4,dc n4),(6,(.box (.pair (.sl .byte) (.pair (.sl (.int .i32)) .unit)) p6)),(19,(.dat (.sl (.pair (.sl .byte) (.pair (.sl (.int .i32)) .unit))) s19 (some (3,31)))),(20,dc s20),(21,dc s21)])
noncomputable def qgy (K:Ex→Fr→Option AV):=fun s2=>K .ret (frOf [(2,dg s2)])
noncomputable def qrY (K:Ex→Fr→Option AV):=fun s0 l3 n4 p6 big8 s19 s20 s21=>K (.exit 4) (frOf [(0,da s0),(3,(.dat (.sl (.pair (.sl .byte) (.pair (.sl (.int .i32)) .unit))) l3 (some (3,31)))),(4,dc n4),(6,(.box (.pair (.sl .byte) (.pair (.sl (.int .i32)) .unit)) p6)),(8,(db big8 (some (8,5)))),(19,(.dat (.sl (.pair (.sl .byte) (.pair (.sl (.int .i32)) .unit))) s19 (some (3,31)))),(20,dc s20),(21,dc s21)])
def qhz (s0:List UInt8) (n4:Int):Fr:=frOf [(0,da s0),(4,dc n4)]
noncomputable def qlD (K:Ex→Fr→Option AV):=fun s0 n4=>K (.exit 0) (qhz s0 n4)
def qvR (n:Nat) (K:Ex→Fr→Option AV):Ex→Fr→Option AV:=qw 4 (E_z4.cutb 4) (kSeq (evCP E_z4 (evLP E_z4 n) (sub C_z4 [1,1,1,1,0,1,0,0,1,1,0,0,1,1,1,1])) (qw 1 (E_z4.cutb 1) (kSeq (evCP E_z4 (evLP E_z4 n) (sub C_z4 [1,1,1,1,0,1,0,0,1,1,1])) (kSeq (fun K fr=>evLP E_z4 n (sub C_z4 [1,1,1,1,0,1,0,0]) K (cutFP (E_z4.cuts 6) fr)) K))))
def qvS (n:Nat) (K:Ex→Fr→Option AV):Ex→Fr→Option AV:=qw 2 (E_z4.cutb 2) (kSeq (evCP E_z4 (evLP E_z4 n) (sub C_z4 [1,1,1,1,0,1,0,0,1,1,0,0,1,1])) (qw 1 (E_z4.cutb 1) (kSeq (evCP E_z4 (evLP E_z4 n) (sub C_z4 [1,1,1,1,0,1,0,0,1,1,1])) (kSeq (fun K fr=>evLP E_z4 n (sub C_z4 [1,1,1,1,0,1,0,0]) K (cutFP (E_z4.cuts 6) fr)) K))))
def qvT (n:Nat):Ex→Fr→Option AV:=qw 0 (E_z4.cutb 0) (kSeq (evCP E_z4 (evLP E_z4 n) (sub C_z4 [1,1,1,1,1])) (kFnP E_z4 R_z4))
def qAa (s0:List UInt8) (l3:List ((List UInt8)×((List Int)×Unit))) (n4:Int) (p6:(List UInt8)×((List Int)×Unit)) (big8:List UInt8) (s19:List ((List UInt8)×((List Int)×Unit))) (s20:Int) (s21:Int) (s40:List UInt8) (s41:Int) (s42:Int):Fr:=frOf [(0,da s0),(3,(.dat (.sl (.pair (.sl .byte) (.pair (.sl (.int .i32)) .unit))) l3 (some (3,31)))),(4,dc n4),(6,(.box (.pair (.sl .byte) (.pair (.sl (.int .i32)) .unit)) p6)),(8,(db big8 (some (8,5)))),(19,(.dat (.sl (.pair (.sl .byte) (.pair (.sl (.int .i32)) .unit))) s19 (some (3,31)))),(20,dc s20),(21,dc s21),(40,da s40),(41,dc s41),(42,dc s42)]
def qAb (s0:List UInt8) (l3:List ((List UInt8)×((List Int)×Unit))) (n4:Int) (p6:(List UInt8)×((List Int)×Unit)) (s19:List ((List UInt8)×((List Int)×Unit))) (s20:Int) (s21:Int) (s26:Int) (s27:Int):Fr:=frOf [(0,da s0),(3,(.dat (.sl (.pair (.sl .byte) (.pair (.sl (.int .i32)) .unit))) l3 (some (3,31)))),(4,dc n4),(6,(.box (.pair (.sl .byte) (.pair (.sl (.int .i32)) .unit)) p6)),(19,(.dat (.sl (.pair (.sl .byte) (.pair (.sl (.int .i32)) .unit))) s19 (some (3,31)))),(20,dc s20),(21,dc s21),(26,dc s26),(27,dc s27)]
def qdM (s0:List UInt8) (l3:List ((List UInt8)×((List Int)×Unit))) (n4:Int) (s19:List ((List UInt8)×((List Int)×Unit))) (s20:Int) (s21:Int):Fr:=frOf [(0,da s0),(3,(.dat (.sl (.pair (.sl .byte) (.pair (.sl (.int .i32)) .unit))) l3 (some (3,31)))),(4,dc n4),(19,(.dat (.sl (.pair (.sl .byte) (.pair (.sl (.int .i32)) .unit))) s19 (some (3,31)))),(20,dc s20),(21,dc s21)]
theorem qAc (K:Ex→Fr→Option AV):∀ (n:Nat) (s0:List UInt8) (l3:List ((List UInt8)×((List Int)×Unit))) (n4:Int) (p6:(List UInt8)×((List Int)×Unit)) (s19:List ((List UInt8)×((List Int)×Unit))) (s20:Int) (s21:Int) (s26:Int) (s27:Int),evLP E_z4 n (sub C_z4 [1,1,1,1,0,1,0,0,1,1,0,0,1,0,1,0,0]) K (qAb s0 l3 n4 p6 s19 s20 s21 s26 s27)=z4_l9 (qgy K) (qrX K) n s0 l3 n4 p6 s19 s20 s21 s26 s27:=by
 intro n;induction n with
 | zero=>intros; rfl
 | succ n IH =>
 intro s0 l3 n4 p6 s19 s20 s21 s26 s27;have ih:(fun s0 l3 n4 p6 s19 s20 s21 s26 s27=>evLP E_z4 n (sub C_z4 [1,1,1,1,0,1,0,0,1,1,0,0,1,0,1,0,0]) K (qAb s0 l3 n4 p6 s19 s20 s21 s26 s27))=z4_l9 (qgy K) (qrX K) n:=by
  funext s0 l3 n4 p6 s19 s20 s21 s26 s27;exact IH s0 l3 n4 p6 s19 s20 s21 s26 s27
 show _=qhO (qgy K) (qrX K) (z4_l9 (qgy K) (qrX K) n) n s0 l3 n4 p6 s19 s20 s21 s26 s27;rw [← ih];kernel_rfl
theorem qvU (K:Ex→Fr→Option AV):∀ (n:Nat) (s0:List UInt8) (l3:List ((List UInt8)×((List Int)×Unit))) (n4:Int) (p6:(List UInt8)×((List Int)×Unit)) (big8:List UInt8) (s19:List ((List UInt8)×((List Int)×Unit))) (s20:Int) (s21:Int) (s40:List UInt8) (s41:Int) (s42:Int),evLP E_z4 n (sub C_z4 [1,1,1,1,0,1,0,0,1,1,0,0,1,1,1,0,1,0,0]) K (qAa s0 l3 n4 p6 big8 s19 s20 s21 s40 s41 s42)=qmw (qrY K) n s0 l3 n4 p6 big8 s19 s20 s21 s40 s41 s42:=by
 intro n;induction n with
 | zero=>intros; rfl
 | succ n IH =>
 intro s0 l3 n4 p6 big8 s19 s20 s21 s40 s41 s42;have ih:(fun s0 l3 n4 p6 big8 s19 s20 s21 s40 s41 s42=>evLP E_z4 n (sub C_z4 [1,1,1,1,0,1,0,0,1,1,0,0,1,1,1,0,1,0,0]) K (qAa s0 l3 n4 p6 big8 s19 s20 s21 s40 s41 s42))=qmw (qrY K) n:=by
  funext s0 l3 n4 p6 big8 s19 s20 s21 s40 s41 s42;exact IH s0 l3 n4 p6 big8 s19 s20 s21 s40 s41 s42
 show _=qeO (qrY K) (qmw (qrY K) n) n s0 l3 n4 p6 big8 s19 s20 s21 s40 s41 s42;rw [← ih];kernel_rfl
theorem qpH (K:Ex→Fr→Option AV) (n:Nat) (s0:List UInt8) (l3:List ((List UInt8)×((List Int)×Unit))) (n4:Int) (p6:(List UInt8)×((List Int)×Unit)) (big8:List UInt8) (s19:List ((List UInt8)×((List Int)×Unit))) (s20:Int) (s21:Int):(qvR n K) (.exit 4) (frOf [(0,da s0),(3,(.dat (.sl (.pair (.sl .byte) (.pair (.sl (.int .i32)) .unit))) l3 (some (3,31)))),(4,dc n4),(6,(.box (.pair (.sl .byte) (.pair (.sl (.int .i32)) .unit)) p6)),(8,(db big8 (some (8,5)))),(19,(.dat (.sl (.pair (.sl .byte) (.pair (.sl (.int .i32)) .unit))) s19 (some (3,31)))),(20,dc s20),(21,dc s21)])=qeP (fun s2=>K .ret (frOf [(2,dg s2)])) (fun s0 n4=>K (.exit 0) (qhz s0 n4)) (fun s0 l3 n4 s19 s20 s21=>evLP E_z4 n (sub C_z4 [1,1,1,1,0,1,0,0]) K (qdM s0 l3 n4 s19 s20 s21)) n s0 l3 n4 p6 big8 s19 s20 s21:=by
 kernel_rfl
theorem qrZ (K:Ex→Fr→Option AV) (n:Nat) (s0:List UInt8) (l3:List ((List UInt8)×((List Int)×Unit))) (n4:Int) (p6:(List UInt8)×((List Int)×Unit)) (s19:List ((List UInt8)×((List Int)×Unit))) (s20:Int) (s21:Int):(qvS n K) (.exit 2) (frOf [(0,da s0),(3,(.dat (.sl (.pair (.sl .byte) (.pair (.sl (.int .i32)) .unit))) l3 (some (3,31)))),(4,dc n4),(6,(.box (.pair (.sl .byte) (.pair (.sl (.int .i32)) .unit)) p6)),(19,(.dat (.sl (.pair (.sl .byte) (.pair (.sl (.int .i32)) .unit))) s19 (some (3,31)))),(20,dc s20),(21,dc s21)])=qhe (fun s2=>K .ret (frOf [(2,dg s2)])) (fun s0 n4=>K (.exit 0) (qhz s0 n4)) (fun s0 l3 n4 s19 s20 s21=>evLP E_z4 n (sub C_z4 [1,1,1,1,0,1,0,0]) K (qdM s0 l3 n4 s19 s20 s21)) n s0 l3 n4 p6 s19 s20 s21:=by
 unfold qhe;rw [show qmw (qeP (fun s2=>K .ret (frOf [(2,dg s2)])) (fun s0 n4=>K (.exit 0) (qhz s0 n4)) (fun s0 l3 n4 s19 s20 s21=>evLP E_z4 n (sub C_z4 [1,1,1,1,0,1,0,0]) K (qdM s0 l3 n4 s19 s20 s21)) n) n=(fun s0 l3 n4 p6 big8 s19 s20 s21 s40 s41 s42=>evLP E_z4 n (sub C_z4 [1,1,1,1,0,1,0,0,1,1,0,0,1,1,1,0,1,0,0]) (qvR n K) (qAa s0 l3 n4 p6 big8 s19 s20 s21 s40 s41 s42)) from by
  funext s0 l3 n4 p6 big8 s19 s20 s21 s40 s41 s42;refine Eq.trans ?_ (qvU (qvR n K) n s0 l3 n4 p6 big8 s19 s20 s21 s40 s41 s42).symm;rw [show (qrY (qvR n K))=(qeP (fun s2=>K .ret (frOf [(2,dg s2)])) (fun s0 n4=>K (.exit 0) (qhz s0 n4)) (fun s0 l3 n4 s19 s20 s21=>evLP E_z4 n (sub C_z4 [1,1,1,1,0,1,0,0]) K (qdM s0 l3 n4 s19 s20 s21)) n) from by
   funext s0 l3 n4 p6 big8 s19 s20 s21;exact qpH K n s0 l3 n4 p6 big8 s19 s20 s21]
  all_goals kernel_rfl]
 kernel_rfl
theorem qAd (K:Ex→Fr→Option AV):∀ (n:Nat) (s0:List UInt8) (l3:List ((List UInt8)×((List Int)×Unit))) (n4:Int) (s19:List ((List UInt8)×((List Int)×Unit))) (s20:Int) (s21:Int),evLP E_z4 n (sub C_z4 [1,1,1,1,0,1,0,0]) K (qdM s0 l3 n4 s19 s20 s21)=z4_l6 (qgy K) (qlD K) n s0 l3 n4 s19 s20 s21:=by
 intro n;induction n with
 | zero=>intros; rfl
 | succ n IH =>
 intro s0 l3 n4 s19 s20 s21;have ih:(fun s0 l3 n4 s19 s20 s21=>evLP E_z4 n (sub C_z4 [1,1,1,1,0,1,0,0]) K (qdM s0 l3 n4 s19 s20 s21))=z4_l6 (qgy K) (qlD K) n:=by
  funext s0 l3 n4 s19 s20 s21;exact IH s0 l3 n4 s19 s20 s21
 show _=qhf (qgy K) (qlD K) (z4_l6 (qgy K) (qlD K) n) n s0 l3 n4 s19 s20 s21;rw [← ih];unfold qhf;rw [show z4_l9 (qgy K) (qhe (qgy K) (qlD K) (fun s0 l3 n4 s19 s20 s21=>evLP E_z4 n (sub C_z4 [1,1,1,1,0,1,0,0]) K (qdM s0 l3 n4 s19 s20 s21)) n) n=(fun s0 l3 n4 p6 s19 s20 s21 s26 s27=>evLP E_z4 n (sub C_z4 [1,1,1,1,0,1,0,0,1,1,0,0,1,0,1,0,0]) (qvS n K) (qAb s0 l3 n4 p6 s19 s20 s21 s26 s27)) from by
  funext s0 l3 n4 p6 s19 s20 s21 s26 s27;refine Eq.trans ?_ (qAc (qvS n K) n s0 l3 n4 p6 s19 s20 s21 s26 s27).symm;rw [show (qrX (qvS n K))=(qhe (qgy K) (qlD K) (fun s0 l3 n4 s19 s20 s21=>evLP E_z4 n (sub C_z4 [1,1,1,1,0,1,0,0]) K (qdM s0 l3 n4 s19 s20 s21)) n) from by
   funext s0 l3 n4 p6 s19 s20 s21;exact qrZ K n s0 l3 n4 p6 s19 s20 s21]
  all_goals kernel_rfl]
 kernel_rfl
theorem qsa (n:Nat) (s0:List UInt8) (n4:Int):(qvT n) (.exit 0) (qhz s0 n4)=qcU n s0 n4:=by
 kernel_rfl
theorem z4_ev (n:Nat) (s0:List UInt8) (o0:Lab):evFnP E_z4 n C_z4 R_z4 [db s0 o0]=z4_sh n s0:=by
 unfold z4_sh;rw [show z4_l6 qeN (qcU n) n=(fun s0 l3 n4 s19 s20 s21=>evLP E_z4 n (sub C_z4 [1,1,1,1,0,1,0,0]) (qvT n) (qdM s0 l3 n4 s19 s20 s21)) from by
  funext s0 l3 n4 s19 s20 s21;refine Eq.trans ?_ (qAd (qvT n) n s0 l3 n4 s19 s20 s21).symm;rw [show (qlD (qvT n))=(qcU n) from by
   funext s0 n4;exact qsa n s0 n4]
  all_goals kernel_rfl]
 kernel_rfl
theorem qAe:ql G Tryz.prog 4 s_z4:=by
 refine sQ (E:=E_z4) (c:=C_z4) rfl (fun w S hg=>(qb (qAf w S hg) (qb (qtc w S hg) (qb (qAi w S hg) (qb (qoh w S hg) (qb (qok w S hg) (qb (qvQ w S hg) qf))))))) Tryz.func4 ?_;intro avs r h;unfold s_z4 at h;split at h <;> cases h
 obtain ⟨n,hn⟩:=qEK _;exact ⟨n,_,(z4_ev n _ _).trans hn,.inl rfl⟩
end
end Go.Av
