import Derived.Test.YtopepdfipgfakaaGreatDoorCuEvH
import Derived.Test.YtopepdfipgfakaaGreatDoorCuC
import Derived.Test.YtopepdfipgfakaaGreatDoorProg
import Derived.KernelRfl
namespace Go.Av
set_option linter.unusedSimpArgs false
noncomputable section
open Go.Proofs
set_option maxRecDepth 100000
set_option linter.unusedVariables false
def qhT:EnvP:=eQ [(167,s_z167)] 20 (some [4]) (fun x=>if x=2 then some [0,1,5] else none) (fun x=>if x=0 then some [] else if x=1 then some [0,1,5] else none) nP
def qqe:Code:=cO Tryz.f160
def qEB:Array ResultVar:=Tryz.f160.results
noncomputable def qhU (K:Ex→Fr→Option AV):=fun s4=>K .ret (frOf [(4,(.dat (.int .i64) s4 none))])
def qhV (n:Nat):Ex→Fr→Option AV:=qm 0 (qhT.cutb 0) (kSeq (evCP qhT (evLP qhT n) (sub qqe [1,1])) (kFnP qhT qEB))
def qlw (charset0:Int) (t1:List Int) (i5:Int):Fr:=frOf [(0,(.dat (.int .i64) charset0 none)),(1,(.dat (.sl (.int .i32)) t1 none)),(5,(.dat (.int .i64) i5 none))]
theorem qss (K:Ex→Fr→Option AV):∀ (n:Nat) (charset0:Int) (t1:List Int) (i5:Int),evLP qhT n (sub qqe [1,0,1,0,0]) K (qlw charset0 t1 i5)=qgE (qhU K) (K (.exit 0) (frOf [])) n charset0 t1 i5:=by
 intro n
 induction n with
 | zero=>intros; rfl
 | succ n IH =>
 intro charset0 t1 i5
 have ih:(fun charset0 t1 i5=>evLP qhT n (sub qqe [1,0,1,0,0]) K (qlw charset0 t1 i5))=qgE (qhU K) (K (.exit 0) (frOf [])) n:=by
  funext charset0 t1 i5
  exact IH charset0 t1 i5
 show _=qce (qhU K) (K (.exit 0) (frOf [])) (qgE (qhU K) (K (.exit 0) (frOf [])) n) n charset0 t1 i5
 rw [← ih]
 kernel_rfl
theorem qlx (n:Nat)  : (qhV n) (.exit 0) (frOf [])=qdz n  := by
 kernel_rfl
theorem qEC (n:Nat) (charset0:Int) (o0:Lab) (t1:List Int) (o1:Lab):evFnP qhT n qqe qEB [.dat (.int .i64) charset0 o0,.dat (.sl (.int .i32)) t1 o1]=qpa n charset0 t1:=by
 unfold qpa
 rw [show qgE qgD (qdz n) n=(fun charset0 t1 i5=>evLP qhT n (sub qqe [1,0,1,0,0]) (qhV n) (qlw charset0 t1 i5)) from by
  funext charset0 t1 i5
  refine Eq.trans ?_ (qss (qhV n) n charset0 t1 i5).symm
  rw [show ((qhV n) (.exit 0) (frOf []))=(qdz n) from by
   exact qlx n ]
  all_goals kernel_rfl]
 kernel_rfl
theorem qst:qe Gc Tryz.prog 160 s_z160:=by
 refine sQ (E:=qhT) (c:=qqe) rfl (fun w S hg=>(qb (qks w S hg) qc)) Tryz.func160 ?_
 intro avs r h
 unfold s_z160 at h
 split at h
 ·obtain ⟨hp,rfl⟩:=Prod.mk.inj h
  obtain ⟨n,hn⟩:=qyv _ _ hp
  exact ⟨n,_,(qEC n _ _ _ _).trans hn,.inl rfl⟩
 ·cases h
def qED:EnvP:=eQ [(160,s_z160)] 17 (some [4]) nC nC nP
def qEE:Code:=cO Tryz.f119
def qIZ:Array ResultVar:=Tryz.f119.results
theorem qEF (n:Nat) (charset0:Int) (o0:Lab) (t1:List Int) (o1:Lab):evFnP qED n qEE qIZ [.dat (.int .i64) charset0 o0,.dat (.sl (.int .i32)) t1 o1]=qvP n charset0 t1:=by
 kernel_rfl
theorem qsu:qe Gc Tryz.prog 119 s_z119:=by
 refine sQ (E:=qED) (c:=qEE) rfl (fun w S hg=>(qb (qst w S hg) qc)) Tryz.func119 ?_
 intro avs r h
 unfold s_z119 at h
 split at h
 ·obtain ⟨hp,rfl⟩:=Prod.mk.inj h
  obtain ⟨n,hn⟩:=qyw _ _ hp
  exact ⟨n,_,(qEF n _ _ _ _).trans hn,.inl rfl⟩
 ·cases h
def E_z73:EnvP:=eQ [(119,s_z119)] 13 (some [2,3]) (fun x=>if x=2 then some [0,4] else none) (fun x=>if x=0 then some [] else if x=1 then some [0,4] else none) nP
def C_z73:Code:=cO Tryz.f73
def R_z73:Array ResultVar:=Tryz.f73.results
noncomputable def qnD (K:Ex→Fr→Option AV):=fun s2 s3=>K .ret (frOf [(2,(.dat (.int .i64) s2 none)),(3,(.dat (.int .i64) s3 none))])
def qnE (n:Nat):Ex→Fr→Option AV:=qm 0 (E_z73.cutb 0) (kSeq (evCP E_z73 (evLP E_z73 n) (sub C_z73 [1,1])) (kFnP E_z73 R_z73))
def qsv (t0:List Int) (n4:Int):Fr:=frOf [(0,(.dat (.sl (.int .i32)) t0 none)),(4,(.dat (.int .i64) n4 none))]
theorem qxh (K:Ex→Fr→Option AV):∀ (n:Nat) (t0:List Int) (n4:Int),evLP E_z73 n (sub C_z73 [1,0,1,0,0]) K (qsv t0 n4)=qjf (qnD K) (K (.exit 0) (frOf [])) n t0 n4:=by
 intro n
 induction n with
 | zero=>intros; rfl
 | succ n IH =>
 intro t0 n4
 have ih:(fun t0 n4=>evLP E_z73 n (sub C_z73 [1,0,1,0,0]) K (qsv t0 n4))=qjf (qnD K) (K (.exit 0) (frOf [])) n:=by
  funext t0 n4
  exact IH t0 n4
 show _=qen (qnD K) (K (.exit 0) (frOf [])) (qjf (qnD K) (K (.exit 0) (frOf [])) n) n t0 n4
 rw [← ih]
 kernel_rfl
theorem qqf (n:Nat)  : (qnE n) (.exit 0) (frOf [])=qcE n  := by
 kernel_rfl
theorem qJa (n:Nat) (t0:List Int) (o0:Lab):evFnP E_z73 n C_z73 R_z73 [.dat (.sl (.int .i32)) t0 o0]=qyT n t0:=by
 unfold qyT
 rw [show qjf qdA (qcE n) n=(fun t0 n4=>evLP E_z73 n (sub C_z73 [1,0,1,0,0]) (qnE n) (qsv t0 n4)) from by
  funext t0 n4
  refine Eq.trans ?_ (qxh (qnE n) n t0 n4).symm
  rw [show ((qnE n) (.exit 0) (frOf []))=(qcE n) from by
   exact qqf n ]
  all_goals kernel_rfl]
 kernel_rfl
theorem qxi:qe Gc Tryz.prog 73 s_z73:=by
 refine sQ (E:=E_z73) (c:=C_z73) rfl (fun w S hg=>(qb (qsu w S hg) qc)) Tryz.func73 ?_
 intro avs r h
 unfold s_z73 at h
 split at h
 ·obtain ⟨hp,rfl⟩:=Prod.mk.inj h
  obtain ⟨n,hn⟩:=qCg _ hp
  exact ⟨n,_,(qJa n _ _).trans hn,.inl rfl⟩
 ·cases h
def E_z74:EnvP:=eQ [(69,s_z69)] 28 (some [4,5]) nC nC nP
def C_z74:Code:=cO Tryz.f74
def R_z74:Array ResultVar:=Tryz.f74.results
theorem qJb (n:Nat) (charset0:Int) (o0:Lab) (t1:List Int) (o1:Lab):evFnP E_z74 n C_z74 R_z74 [.dat (.int .i64) charset0 o0,.dat (.sl (.int .i32)) t1 o1]=qCT n charset0 t1:=by
 kernel_rfl
theorem qxj:qe Gc Tryz.prog 74 s_z74:=by
 refine sQ (E:=E_z74) (c:=C_z74) rfl (fun w S hg=>(qb (qiT w S hg) qc)) Tryz.func74 ?_
 intro avs r h
 unfold s_z74 at h
 split at h
 ·obtain ⟨hp,rfl⟩:=Prod.mk.inj h
  obtain ⟨n,hn⟩:=qDE _ _ hp
  exact ⟨n,_,(qJb n _ _ _ _).trans hn,.inl rfl⟩
 ·cases h
def E_z31:EnvP:=eQ [(73,s_z73),(74,s_z74)] 25 (some [2,3,4]) nC nC nP
def C_z31:Code:=cO Tryz.f31
def R_z31:Array ResultVar:=Tryz.f31.results
theorem qJc (n:Nat) (t0:List Int) (o0:Lab):evFnP E_z31 n C_z31 R_z31 [.dat (.sl (.int .i32)) t0 o0]=qCU n t0:=by
 kernel_rfl
theorem qxk:qe Gc Tryz.prog 31 s_z31:=by
 refine sQ (E:=E_z31) (c:=C_z31) rfl (fun w S hg=>(qb (qxi w S hg) (qb (qxj w S hg) qc))) Tryz.func31 ?_
 intro avs r h
 unfold s_z31 at h
 split at h
 ·obtain ⟨hp,rfl⟩:=Prod.mk.inj h
  obtain ⟨n,hn⟩:=qCn _ hp
  exact ⟨n,_,(qJc n _ _).trans hn,.inl rfl⟩
 ·cases h
def E_z7:EnvP:=eQ [(21,s_z21),(27,s_z27),(28,s_z28),(29,s_z29),(30,s_z30),(31,s_z31)] 96 (some [4]) (fun x=>if x=10 then some [5,7,80,81] else none) (fun x=>if x=0 then some [] else if x=1 then some [5,7,80,81] else none) nP
def C_z7:Code:=cO Tryz.f7
def R_z7:Array ResultVar:=Tryz.f7.results
noncomputable def qxl (K:Ex→Fr→Option AV):=fun s4=>K .ret (frOf [(4,(.dat .bool s4 none))])
def qxm (n:Nat):Ex→Fr→Option AV:=qm 0 (E_z7.cutb 0) (kSeq (evCP E_z7 (evLP E_z7 n) (sub C_z7 [1,1,1,1,1,1,1,1])) (kFnP E_z7 R_z7))
def qBY (a5:List (List Int)) (b7:List (List Int)) (s80:Int) (s81:Int):Fr:=frOf [(5,(.dat (.sl (.sl (.int .i32))) a5 none)),(7,(.dat (.sl (.sl (.int .i32))) b7 none)),(80,(.dat (.int .i64) s80 none)),(81,(.dat (.int .i64) s81 none))]
theorem qxn (K:Ex→Fr→Option AV):∀ (n:Nat) (a5:List (List Int)) (b7:List (List Int)) (s80:Int) (s81:Int),evLP E_z7 n (sub C_z7 [1,1,1,1,1,1,1,0,1,0,0]) K (qBY a5 b7 s80 s81)=qmJ (qxl K) (K (.exit 0) (frOf [])) n a5 b7 s80 s81:=by
 intro n
 induction n with
 | zero=>intros; rfl
 | succ n IH =>
 intro a5 b7 s80 s81
 have ih:(fun a5 b7 s80 s81=>evLP E_z7 n (sub C_z7 [1,1,1,1,1,1,1,0,1,0,0]) K (qBY a5 b7 s80 s81))=qmJ (qxl K) (K (.exit 0) (frOf [])) n:=by
  funext a5 b7 s80 s81
  exact IH a5 b7 s80 s81
 show _=qeo (qxl K) (K (.exit 0) (frOf [])) (qmJ (qxl K) (K (.exit 0) (frOf [])) n) n a5 b7 s80 s81
 rw [← ih]
 kernel_rfl
theorem qqg (n:Nat)  : (qxm n) (.exit 0) (frOf [])=qgF n  := by
 kernel_rfl
theorem z7_ev (n:Nat) (how0:List Int) (o0:Lab) (t1:List Int) (o1:Lab):evFnP E_z7 n C_z7 R_z7 [.dat (.arr 3 (.int .i64)) how0 o0,.dat (.sl (.int .i32)) t1 o1]=z7_sh n how0 t1:=by
 unfold z7_sh
 rw [show qmJ qeM (qgF n) n=(fun a5 b7 s80 s81=>evLP E_z7 n (sub C_z7 [1,1,1,1,1,1,1,0,1,0,0]) (qxm n) (qBY a5 b7 s80 s81)) from by
  funext a5 b7 s80 s81
  refine Eq.trans ?_ (qxn (qxm n) n a5 b7 s80 s81).symm
  rw [show ((qxm n) (.exit 0) (frOf []))=(qgF n) from by
   exact qqg n ]
  all_goals kernel_rfl]
 kernel_rfl
theorem qBZ:qe Gc Tryz.prog 7 s_z7:=by
 refine sQ (E:=E_z7) (c:=C_z7) rfl (fun w S hg=>(qb (qxr w S hg) (qb (qxP w S hg) (qb (qnV w S hg) (qb (qyj w S hg) (qb (qnX w S hg) (qb (qxk w S hg) qc))))))) Tryz.func7 ?_
 intro avs r h
 unfold s_z7 at h
 split at h
 ·obtain ⟨hp,rfl⟩:=Prod.mk.inj h
  obtain ⟨n,hn⟩:=qIs _ _ hp
  exact ⟨n,_,(z7_ev n _ _ _ _).trans hn,.inl rfl⟩
 ·cases h
end
end Go.Av
