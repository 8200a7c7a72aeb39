import Derived.Test.YtopepdfipgfakaaGreatDoorEfEvG
import Derived.Test.YtopepdfipgfakaaGreatDoorEfLayX
import Derived.Test.YtopepdfipgfakaaGreatDoorProg
import Derived.KernelRfl
namespace Go.Av
noncomputable section
open Go.Proofs
set_option maxRecDepth 100000
def qbz:EnvP:=eQ [(145,s_z145)] 42 (some [2,3]) (fun x=>if x=4 then some [0,4,5,6] else none) (fun x=>if x=0 then some [4,5] else if x=1 then some [0,4,5,6] else none) nP
def qjT:Code:=cO Tryz.f100
def quA:Array ResultVar:=Tryz.f100.results
theorem quB (K:Ex→Fr→OA):∀ (n:Nat) (s0:LU) (out4:LU) (strange5:Int) (i6:Int),evLP qbz n (sub qjT [1,1,1,0,1,0,0]) K (frOf [(0,(.dat (.sl .byte) s0 none)),(4,(.dat (.sl .byte) out4 (some (4,5)))),(5,(.dat (.int .i64) strange5 none)),(6,(.dat (.int .i64) i6 none))])=qhM (fun out4 strange5=>K (.exit 0) (frOf [(4,(.dat (.sl .byte) out4 (some (4,5)))),(5,(.dat (.int .i64) strange5 none))])) n s0 out4 strange5 i6:=by
 intro n
 induction n with
 | zero=>intros; rfl
 | succ n IH =>
 intro s0 out4 strange5 i6
 have ih:(fun s0 out4 strange5 i6=>evLP qbz n (sub qjT [1,1,1,0,1,0,0]) K (frOf [(0,(.dat (.sl .byte) s0 none)),(4,(.dat (.sl .byte) out4 (some (4,5)))),(5,(.dat (.int .i64) strange5 none)),(6,(.dat (.int .i64) i6 none))]))=qhM (fun out4 strange5=>K (.exit 0) (frOf [(4,(.dat (.sl .byte) out4 (some (4,5)))),(5,(.dat (.int .i64) strange5 none))])) n:=by
  funext s0 out4 strange5 i6
  exact IH s0 out4 strange5 i6
 show _=qda (fun out4 strange5=>K (.exit 0) (frOf [(4,(.dat (.sl .byte) out4 (some (4,5)))),(5,(.dat (.int .i64) strange5 none))])) (qhM (fun out4 strange5=>K (.exit 0) (frOf [(4,(.dat (.sl .byte) out4 (some (4,5)))),(5,(.dat (.int .i64) strange5 none))])) n) n s0 out4 strange5 i6
 rw [← ih]
 kernel_rfl
theorem qmU (n:Nat) (out4:LU) (strange5:Int):(qb 0 (qbz.cutb 0) (kSeq (evCP qbz (evLP qbz n) (sub qjT [1,1,1,1])) (kFnP qbz quA))) (.exit 0) (frOf [(4,(.dat (.sl .byte) out4 (some (4,5)))),(5,(.dat (.int .i64) strange5 none))])=qeC n out4 strange5:=by
 kernel_rfl
theorem qIT (n:Nat) (s0:LU) (o0:Lab):evFnP qbz n qjT quA [.dat (.sl .byte) s0 o0]=qwC n s0:=by
 unfold qwC
 rw [show qhM (qeC n) n=(fun s0 out4 strange5 i6=>evLP qbz n (sub qjT [1,1,1,0,1,0,0]) (qb 0 (qbz.cutb 0) (kSeq (evCP qbz (evLP qbz n) (sub qjT [1,1,1,1])) (kFnP qbz quA))) (frOf [(0,(.dat (.sl .byte) s0 none)),(4,(.dat (.sl .byte) out4 (some (4,5)))),(5,(.dat (.int .i64) strange5 none)),(6,(.dat (.int .i64) i6 none))])) from by
  funext s0 out4 strange5 i6
  refine Eq.trans ?_ (quB (qb 0 (qbz.cutb 0) (kSeq (evCP qbz (evLP qbz n) (sub qjT [1,1,1,1])) (kFnP qbz quA))) n s0 out4 strange5 i6).symm
  rw [show (fun out4 strange5=>(qb 0 (qbz.cutb 0) (kSeq (evCP qbz (evLP qbz n) (sub qjT [1,1,1,1])) (kFnP qbz quA))) (.exit 0) (frOf [(4,(.dat (.sl .byte) out4 (some (4,5)))),(5,(.dat (.int .i64) strange5 none))]))=(qeC n) from by
   funext out4 strange5
   exact qmU n out4 strange5]
  all_goals kernel_rfl]
 kernel_rfl
theorem quC:qe G Tryz.prog 100 s_z100:=by
 refine sQ (E:=qbz) (c:=qjT) rfl (fun w S hg=>(qa (qlh w S hg) qd)) Tryz.func100 ?_
 intro avs r h
 unfold s_z100 at h
 split at h
 ·obtain ⟨hp,rfl⟩:=Prod.mk.inj h
  obtain ⟨n,hn⟩:=qzD _ hp
  exact ⟨n,_,(qIT n _ _).trans hn,.inl rfl⟩
 ·cases h
def qx:EnvP:=eQ [(145,s_z145)] 37 (some [2,3]) (fun x=>if x=3 then some [0,4,5] else if x=9 then some [0,4,5,6,8] else none) (fun x=>if x=0 then some [4] else if x=1 then some [0,4,5] else if x=2 then some [0,4,5] else if x=3 then some [0,4,5,6,8] else none) nP
def qaQ:Code:=cO Tryz.f101
def quD:Array ResultVar:=Tryz.f101.results
theorem quE (K:Ex→Fr→OA):∀ (n:Nat) (s0:LU) (out4:LI) (i5:Int) (n6:Int) (k8:Int),evLP qx n (sub qaQ [1,1,0,1,0,0,1,0,0,1,1,1,0,0]) K (frOf [(0,(.dat (.sl .byte) s0 none)),(4,(.dat (.sl (.int .i64)) out4 (some (4,3)))),(5,(.dat (.int .i64) i5 none)),(6,(.dat (.int .i64) n6 none)),(8,(.dat (.int .i64) k8 none))])=qdt (fun s0 out4 i5=>K (.exit 2) (frOf [(0,(.dat (.sl .byte) s0 none)),(4,(.dat (.sl (.int .i64)) out4 (some (4,3)))),(5,(.dat (.int .i64) i5 none))])) n s0 out4 i5 n6 k8:=by
 intro n
 induction n with
 | zero=>intros; rfl
 | succ n IH =>
 intro s0 out4 i5 n6 k8
 have ih:(fun s0 out4 i5 n6 k8=>evLP qx n (sub qaQ [1,1,0,1,0,0,1,0,0,1,1,1,0,0]) K (frOf [(0,(.dat (.sl .byte) s0 none)),(4,(.dat (.sl (.int .i64)) out4 (some (4,3)))),(5,(.dat (.int .i64) i5 none)),(6,(.dat (.int .i64) n6 none)),(8,(.dat (.int .i64) k8 none))]))=qdt (fun s0 out4 i5=>K (.exit 2) (frOf [(0,(.dat (.sl .byte) s0 none)),(4,(.dat (.sl (.int .i64)) out4 (some (4,3)))),(5,(.dat (.int .i64) i5 none))])) n:=by
  funext s0 out4 i5 n6 k8
  exact IH s0 out4 i5 n6 k8
 show _=qgx (fun s0 out4 i5=>K (.exit 2) (frOf [(0,(.dat (.sl .byte) s0 none)),(4,(.dat (.sl (.int .i64)) out4 (some (4,3)))),(5,(.dat (.int .i64) i5 none))])) (qdt (fun s0 out4 i5=>K (.exit 2) (frOf [(0,(.dat (.sl .byte) s0 none)),(4,(.dat (.sl (.int .i64)) out4 (some (4,3)))),(5,(.dat (.int .i64) i5 none))])) n) n s0 out4 i5 n6 k8
 rw [← ih]
 kernel_rfl
theorem qmV (K:Ex→Fr→OA) (n:Nat) (s0:LU) (out4:LI) (i5:Int):(qb 2 (qx.cutb 2) (qb 1 (qx.cutb 1) (kSeq (evCP qx (evLP qx n) (sub qaQ [1,1,0,1,0,0,1,1])) (kSeq (fun K fr=>evLP qx n (sub qaQ [1,1,0,1,0,0]) K (cutFP (qx.cuts 3) fr)) K)))) (.exit 2) (frOf [(0,(.dat (.sl .byte) s0 none)),(4,(.dat (.sl (.int .i64)) out4 (some (4,3)))),(5,(.dat (.int .i64) i5 none))])=qgy (fun s2 s3=>K .ret (frOf [(2,(.dat (.sl (.int .i64)) s2 (some (2,3)))),(3,(.dat .bool s3 none))])) (fun out4=>K (.exit 0) (frOf [(4,(.dat (.sl (.int .i64)) out4 (some (4,3))))])) (fun s0 out4 i5=>evLP qx n (sub qaQ [1,1,0,1,0,0]) K (frOf [(0,(.dat (.sl .byte) s0 none)),(4,(.dat (.sl (.int .i64)) out4 (some (4,3)))),(5,(.dat (.int .i64) i5 none))])) n s0 out4 i5:=by
 kernel_rfl
theorem quF (K:Ex→Fr→OA):∀ (n:Nat) (s0:LU) (out4:LI) (i5:Int),evLP qx n (sub qaQ [1,1,0,1,0,0]) K (frOf [(0,(.dat (.sl .byte) s0 none)),(4,(.dat (.sl (.int .i64)) out4 (some (4,3)))),(5,(.dat (.int .i64) i5 none))])=qeD (fun s2 s3=>K .ret (frOf [(2,(.dat (.sl (.int .i64)) s2 (some (2,3)))),(3,(.dat .bool s3 none))])) (fun out4=>K (.exit 0) (frOf [(4,(.dat (.sl (.int .i64)) out4 (some (4,3))))])) n s0 out4 i5:=by
 intro n
 induction n with
 | zero=>intros; rfl
 | succ n IH =>
 intro s0 out4 i5
 have ih:(fun s0 out4 i5=>evLP qx n (sub qaQ [1,1,0,1,0,0]) K (frOf [(0,(.dat (.sl .byte) s0 none)),(4,(.dat (.sl (.int .i64)) out4 (some (4,3)))),(5,(.dat (.int .i64) i5 none))]))=qeD (fun s2 s3=>K .ret (frOf [(2,(.dat (.sl (.int .i64)) s2 (some (2,3)))),(3,(.dat .bool s3 none))])) (fun out4=>K (.exit 0) (frOf [(4,(.dat (.sl (.int .i64)) out4 (some (4,3))))])) n:=by
  funext s0 out4 i5
  exact IH s0 out4 i5
 show _=qce (fun s2 s3=>K .ret (frOf [(2,(.dat (.sl (.int .i64)) s2 (some (2,3)))),(3,(.dat .bool s3 none))])) (fun out4=>K (.exit 0) (frOf [(4,(.dat (.sl (.int .i64)) out4 (some (4,3))))])) (qeD (fun s2 s3=>K .ret (frOf [(2,(.dat (.sl (.int .i64)) s2 (some (2,3)))),(3,(.dat .bool s3 none))])) (fun out4=>K (.exit 0) (frOf [(4,(.dat (.sl (.int .i64)) out4 (some (4,3))))])) n) n s0 out4 i5
 rw [← ih]
 unfold qce
 rw [show qdt (qgy (fun s2 s3=>K .ret (frOf [(2,(.dat (.sl (.int .i64)) s2 (some (2,3)))),(3,(.dat .bool s3 none))])) (fun out4=>K (.exit 0) (frOf [(4,(.dat (.sl (.int .i64)) out4 (some (4,3))))])) (fun s0 out4 i5=>evLP qx n (sub qaQ [1,1,0,1,0,0]) K (frOf [(0,(.dat (.sl .byte) s0 none)),(4,(.dat (.sl (.int .i64)) out4 (some (4,3)))),(5,(.dat (.int .i64) i5 none))])) n) n=(fun s0 out4 i5 n6 k8=>evLP qx n (sub qaQ [1,1,0,1,0,0,1,0,0,1,1,1,0,0]) (qb 2 (qx.cutb 2) (qb 1 (qx.cutb 1) (kSeq (evCP qx (evLP qx n) (sub qaQ [1,1,0,1,0,0,1,1])) (kSeq (fun K fr=>evLP qx n (sub qaQ [1,1,0,1,0,0]) K (cutFP (qx.cuts 3) fr)) K)))) (frOf [(0,(.dat (.sl .byte) s0 none)),(4,(.dat (.sl (.int .i64)) out4 (some (4,3)))),(5,(.dat (.int .i64) i5 none)),(6,(.dat (.int .i64) n6 none)),(8,(.dat (.int .i64) k8 none))])) from by
  funext s0 out4 i5 n6 k8
  refine Eq.trans ?_ (quE (qb 2 (qx.cutb 2) (qb 1 (qx.cutb 1) (kSeq (evCP qx (evLP qx n) (sub qaQ [1,1,0,1,0,0,1,1])) (kSeq (fun K fr=>evLP qx n (sub qaQ [1,1,0,1,0,0]) K (cutFP (qx.cuts 3) fr)) K)))) n s0 out4 i5 n6 k8).symm
  rw [show (fun s0 out4 i5=>(qb 2 (qx.cutb 2) (qb 1 (qx.cutb 1) (kSeq (evCP qx (evLP qx n) (sub qaQ [1,1,0,1,0,0,1,1])) (kSeq (fun K fr=>evLP qx n (sub qaQ [1,1,0,1,0,0]) K (cutFP (qx.cuts 3) fr)) K)))) (.exit 2) (frOf [(0,(.dat (.sl .byte) s0 none)),(4,(.dat (.sl (.int .i64)) out4 (some (4,3)))),(5,(.dat (.int .i64) i5 none))]))=(qgy (fun s2 s3=>K .ret (frOf [(2,(.dat (.sl (.int .i64)) s2 (some (2,3)))),(3,(.dat .bool s3 none))])) (fun out4=>K (.exit 0) (frOf [(4,(.dat (.sl (.int .i64)) out4 (some (4,3))))])) (fun s0 out4 i5=>evLP qx n (sub qaQ [1,1,0,1,0,0]) K (frOf [(0,(.dat (.sl .byte) s0 none)),(4,(.dat (.sl (.int .i64)) out4 (some (4,3)))),(5,(.dat (.int .i64) i5 none))])) n) from by
   funext s0 out4 i5
   exact qmV K n s0 out4 i5]
  all_goals kernel_rfl]
 kernel_rfl
theorem qmW (n:Nat) (out4:LI):(qb 0 (qx.cutb 0) (kSeq (evCP qx (evLP qx n) (sub qaQ [1,1,1])) (kFnP qx quD))) (.exit 0) (frOf [(4,(.dat (.sl (.int .i64)) out4 (some (4,3))))])=qcf n out4:=by
 kernel_rfl
theorem qIU (n:Nat) (s0:LU) (o0:Lab):evFnP qx n qaQ quD [.dat (.sl .byte) s0 o0]=qwD n s0:=by
 unfold qwD
 rw [show qeD qaT (qcf n) n=(fun s0 out4 i5=>evLP qx n (sub qaQ [1,1,0,1,0,0]) (qb 0 (qx.cutb 0) (kSeq (evCP qx (evLP qx n) (sub qaQ [1,1,1])) (kFnP qx quD))) (frOf [(0,(.dat (.sl .byte) s0 none)),(4,(.dat (.sl (.int .i64)) out4 (some (4,3)))),(5,(.dat (.int .i64) i5 none))])) from by
  funext s0 out4 i5
  refine Eq.trans ?_ (quF (qb 0 (qx.cutb 0) (kSeq (evCP qx (evLP qx n) (sub qaQ [1,1,1])) (kFnP qx quD))) n s0 out4 i5).symm
  rw [show (fun out4=>(qb 0 (qx.cutb 0) (kSeq (evCP qx (evLP qx n) (sub qaQ [1,1,1])) (kFnP qx quD))) (.exit 0) (frOf [(4,(.dat (.sl (.int .i64)) out4 (some (4,3))))]))=(qcf n) from by
   funext out4
   exact qmW n out4]
  all_goals kernel_rfl]
 kernel_rfl
theorem qli:qe G Tryz.prog 101 s_z101:=by
 refine sQ (E:=qx) (c:=qaQ) rfl (fun w S hg=>(qa (qlh w S hg) qd)) Tryz.func101 ?_
 intro avs r h
 unfold s_z101 at h
 split at h
 ·obtain ⟨hp,rfl⟩:=Prod.mk.inj h
  obtain ⟨n,hn⟩:=qzF _ hp
  exact ⟨n,_,(qIU n _ _).trans hn,.inl rfl⟩
 ·cases h
def qbA:EnvP:=eQ [] 19 (some [2]) (fun x=>if x=3 then some [0,3,4] else none) (fun x=>if x=0 then some [3] else if x=1 then some [0,3,4] else none) nP
def qjU:Code:=cO Tryz.f136
def quG:Array ResultVar:=Tryz.f136.results
theorem quH (K:Ex→Fr→OA):∀ (n:Nat) (l0:LI) (n3:Int) (i4:Int),evLP qbA n (sub qjU [1,1,0,1,0,0]) K (frOf [(0,(.dat (.sl (.int .i64)) l0 none)),(3,(.dat (.int .i64) n3 none)),(4,(.dat (.int .i64) i4 none))])=qhN (fun n3=>K (.exit 0) (frOf [(3,(.dat (.int .i64) n3 none))])) n l0 n3 i4:=by
 intro n
 induction n with
 | zero=>intros; rfl
 | succ n IH =>
 intro l0 n3 i4
 have ih:(fun l0 n3 i4=>evLP qbA n (sub qjU [1,1,0,1,0,0]) K (frOf [(0,(.dat (.sl (.int .i64)) l0 none)),(3,(.dat (.int .i64) n3 none)),(4,(.dat (.int .i64) i4 none))]))=qhN (fun n3=>K (.exit 0) (frOf [(3,(.dat (.int .i64) n3 none))])) n:=by
  funext l0 n3 i4
  exact IH l0 n3 i4
 show _=qdb (fun n3=>K (.exit 0) (frOf [(3,(.dat (.int .i64) n3 none))])) (qhN (fun n3=>K (.exit 0) (frOf [(3,(.dat (.int .i64) n3 none))])) n) n l0 n3 i4
 rw [← ih]
 kernel_rfl
theorem qmX (n:Nat) (n3:Int):(qb 0 (qbA.cutb 0) (kSeq (evCP qbA (evLP qbA n) (sub qjU [1,1,1])) (kFnP qbA quG))) (.exit 0) (frOf [(3,(.dat (.int .i64) n3 none))])=qeE n n3:=by
 kernel_rfl
theorem qIV (n:Nat) (l0:LI) (o0:Lab):evFnP qbA n qjU quG [.dat (.sl (.int .i64)) l0 o0]=qpB n l0:=by
 unfold qpB
 rw [show qhN (qeE n) n=(fun l0 n3 i4=>evLP qbA n (sub qjU [1,1,0,1,0,0]) (qb 0 (qbA.cutb 0) (kSeq (evCP qbA (evLP qbA n) (sub qjU [1,1,1])) (kFnP qbA quG))) (frOf [(0,(.dat (.sl (.int .i64)) l0 none)),(3,(.dat (.int .i64) n3 none)),(4,(.dat (.int .i64) i4 none))])) from by
  funext l0 n3 i4
  refine Eq.trans ?_ (quH (qb 0 (qbA.cutb 0) (kSeq (evCP qbA (evLP qbA n) (sub qjU [1,1,1])) (kFnP qbA quG))) n l0 n3 i4).symm
  rw [show (fun n3=>(qb 0 (qbA.cutb 0) (kSeq (evCP qbA (evLP qbA n) (sub qjU [1,1,1])) (kFnP qbA quG))) (.exit 0) (frOf [(3,(.dat (.int .i64) n3 none))]))=(qeE n) from by
   funext n3
   exact qmX n n3]
  all_goals kernel_rfl]
 kernel_rfl
theorem quI:qe G Tryz.prog 136 s_z136:=by
 refine sQ (E:=qbA) (c:=qjU) rfl (fun w S hg=>qd) Tryz.func136 ?_
 intro avs r h
 unfold s_z136 at h
 split at h
 ·obtain ⟨hp,rfl⟩:=Prod.mk.inj h
  obtain ⟨n,hn⟩:=qBn _ hp
  exact ⟨n,_,(qIV n _ _).trans hn,.inl rfl⟩
 ·cases h
def qbB:EnvP:=eQ [(136,s_z136)] 29 (some [2,3]) (fun x=>if x=3 then some [0,4,5] else none) (fun x=>if x=0 then some [0,4,5] else if x=1 then some [0,4,5] else none) nP
def qjV:Code:=cO Tryz.f102
def quJ:Array ResultVar:=Tryz.f102.results
theorem quK (K:Ex→Fr→OA):∀ (n:Nat) (l0:LI) (out4:LU) (i5:Int),evLP qbB n (sub qjV [1,1,1,0,0,0]) K (frOf [(0,(.dat (.sl (.int .i64)) l0 none)),(4,(.dat (.sl .byte) out4 (some (4,5)))),(5,(.dat (.int .i64) i5 none))])=qhO (fun l0 out4 i5=>K (.exit 0) (frOf [(0,(.dat (.sl (.int .i64)) l0 none)),(4,(.dat (.sl .byte) out4 (some (4,5)))),(5,(.dat (.int .i64) i5 none))])) n l0 out4 i5:=by
 intro n
 induction n with
 | zero=>intros; rfl
 | succ n IH =>
 intro l0 out4 i5
 have ih:(fun l0 out4 i5=>evLP qbB n (sub qjV [1,1,1,0,0,0]) K (frOf [(0,(.dat (.sl (.int .i64)) l0 none)),(4,(.dat (.sl .byte) out4 (some (4,5)))),(5,(.dat (.int .i64) i5 none))]))=qhO (fun l0 out4 i5=>K (.exit 0) (frOf [(0,(.dat (.sl (.int .i64)) l0 none)),(4,(.dat (.sl .byte) out4 (some (4,5)))),(5,(.dat (.int .i64) i5 none))])) n:=by
  funext l0 out4 i5
  exact IH l0 out4 i5
 show _=qdc (fun l0 out4 i5=>K (.exit 0) (frOf [(0,(.dat (.sl (.int .i64)) l0 none)),(4,(.dat (.sl .byte) out4 (some (4,5)))),(5,(.dat (.int .i64) i5 none))])) (qhO (fun l0 out4 i5=>K (.exit 0) (frOf [(0,(.dat (.sl (.int .i64)) l0 none)),(4,(.dat (.sl .byte) out4 (some (4,5)))),(5,(.dat (.int .i64) i5 none))])) n) n l0 out4 i5
 rw [← ih]
 kernel_rfl
theorem qmY (n:Nat) (l0:LI) (out4:LU) (i5:Int):(qb 0 (qbB.cutb 0) (kSeq (evCP qbB (evLP qbB n) (sub qjV [1,1,1,1])) (kFnP qbB quJ))) (.exit 0) (frOf [(0,(.dat (.sl (.int .i64)) l0 none)),(4,(.dat (.sl .byte) out4 (some (4,5)))),(5,(.dat (.int .i64) i5 none))])=qdd n l0 out4 i5:=by
 kernel_rfl
theorem qIW (n:Nat) (l0:LI) (o0:Lab):evFnP qbB n qjV quJ [.dat (.sl (.int .i64)) l0 o0]=qwF n l0:=by
 unfold qwF
 rw [show qhO (qdd n) n=(fun l0 out4 i5=>evLP qbB n (sub qjV [1,1,1,0,0,0]) (qb 0 (qbB.cutb 0) (kSeq (evCP qbB (evLP qbB n) (sub qjV [1,1,1,1])) (kFnP qbB quJ))) (frOf [(0,(.dat (.sl (.int .i64)) l0 none)),(4,(.dat (.sl .byte) out4 (some (4,5)))),(5,(.dat (.int .i64) i5 none))])) from by
  funext l0 out4 i5
  refine Eq.trans ?_ (quK (qb 0 (qbB.cutb 0) (kSeq (evCP qbB (evLP qbB n) (sub qjV [1,1,1,1])) (kFnP qbB quJ))) n l0 out4 i5).symm
  rw [show (fun l0 out4 i5=>(qb 0 (qbB.cutb 0) (kSeq (evCP qbB (evLP qbB n) (sub qjV [1,1,1,1])) (kFnP qbB quJ))) (.exit 0) (frOf [(0,(.dat (.sl (.int .i64)) l0 none)),(4,(.dat (.sl .byte) out4 (some (4,5)))),(5,(.dat (.int .i64) i5 none))]))=(qdd n) from by
   funext l0 out4 i5
   exact qmY n l0 out4 i5]
  all_goals kernel_rfl]
 kernel_rfl
theorem qlj:qe G Tryz.prog 102 s_z102:=by
 refine sQ (E:=qbB) (c:=qjV) rfl (fun w S hg=>(qa (quI w S hg) qd)) Tryz.func102 ?_
 intro avs r h
 unfold s_z102 at h
 split at h
 ·obtain ⟨hp,rfl⟩:=Prod.mk.inj h
  obtain ⟨n,hn⟩:=qzG _ hp
  exact ⟨n,_,(qIW n _ _).trans hn,.inl rfl⟩
 ·cases h
def E_z55:EnvP:=eQ [(100,s_z100),(101,s_z101),(102,s_z102)] 29 (some [2,3]) nC nC nP
def C_z55:Code:=cO Tryz.f55
def R_z55:Array ResultVar:=Tryz.f55.results
theorem qLG (n:Nat) (s0:LU) (o0:Lab):evFnP E_z55 n C_z55 R_z55 [.dat (.sl .byte) s0 o0]=qEH n s0:=by
 kernel_rfl
theorem qyW:qe G Tryz.prog 55 s_z55:=by
 refine sQ (E:=E_z55) (c:=C_z55) rfl (fun w S hg=>(qa (quC w S hg) (qa (qli w S hg) (qa (qlj w S hg) qd)))) Tryz.func55 ?_
 intro avs r h
 unfold s_z55 at h
 split at h
 ·obtain ⟨hp,rfl⟩:=Prod.mk.inj h
  obtain ⟨n,hn⟩:=qDu _ hp
  exact ⟨n,_,(qLG n _ _).trans hn,.inl rfl⟩
 ·cases h
def qIX:EnvP:=eQ [] 17 (some [2]) nC nC nP
def qIY:Code:=cO Tryz.f184
def qLH:Array ResultVar:=Tryz.f184.results
theorem qIZ (n:Nat) (n0:Int) (o0:Lab):evFnP qIX n qIY qLH [.dat (.int .i64) n0 o0]=qwG n n0:=by
 kernel_rfl
theorem quL:qe G Tryz.prog 184 s_z184:=by
 refine sQ (E:=qIX) (c:=qIY) rfl (fun w S hg=>qd) Tryz.func184 ?_
 intro avs r h
 unfold s_z184 at h
 split at h
 ·obtain ⟨hp,rfl⟩:=Prod.mk.inj h
  obtain ⟨n,hn⟩:=qAX _ hp
  exact ⟨n,_,(qIZ n _ _).trans hn,.inl rfl⟩
 ·cases h
def qbC:EnvP:=eQ [(184,s_z184)] 25 (some [2,3]) (fun x=>if x=2 then some [0,4] else none) (fun x=>if x=0 then some [] else if x=1 then some [0,4] else none) nP
def qjW:Code:=cO Tryz.f146
def quM:Array ResultVar:=Tryz.f146.results
theorem quN (K:Ex→Fr→OA):∀ (n:Nat) (c0:UInt8) (n4:Int),evLP qbC n (sub qjW [1,0,1,0,0]) K (frOf [(0,(.dat .byte c0 none)),(4,(.dat (.int .i64) n4 none))])=qeF (fun s2 s3=>K .ret (frOf [(2,(.dat (.int .i64) s2 none)),(3,(.dat .bool s3 none))])) (K (.exit 0) (frOf [])) n c0 n4:=by
 intro n
 induction n with
 | zero=>intros; rfl
 | succ n IH =>
 intro c0 n4
 have ih:(fun c0 n4=>evLP qbC n (sub qjW [1,0,1,0,0]) K (frOf [(0,(.dat .byte c0 none)),(4,(.dat (.int .i64) n4 none))]))=qeF (fun s2 s3=>K .ret (frOf [(2,(.dat (.int .i64) s2 none)),(3,(.dat .bool s3 none))])) (K (.exit 0) (frOf [])) n:=by
  funext c0 n4
  exact IH c0 n4
 show _=qde (fun s2 s3=>K .ret (frOf [(2,(.dat (.int .i64) s2 none)),(3,(.dat .bool s3 none))])) (K (.exit 0) (frOf [])) (qeF (fun s2 s3=>K .ret (frOf [(2,(.dat (.int .i64) s2 none)),(3,(.dat .bool s3 none))])) (K (.exit 0) (frOf [])) n) n c0 n4
 rw [← ih]
 kernel_rfl
theorem qmZ (n:Nat)  : (qb 0 (qbC.cutb 0) (kSeq (evCP qbC (evLP qbC n) (sub qjW [1,1])) (kFnP qbC quM))) (.exit 0) (frOf [])=qeG n  := by
 kernel_rfl
theorem qJa (n:Nat) (c0:UInt8) (o0:Lab):evFnP qbC n qjW quM [.dat .byte c0 o0]=qwH n c0:=by
 unfold qwH
 rw [show qeF qhP (qeG n) n=(fun c0 n4=>evLP qbC n (sub qjW [1,0,1,0,0]) (qb 0 (qbC.cutb 0) (kSeq (evCP qbC (evLP qbC n) (sub qjW [1,1])) (kFnP qbC quM))) (frOf [(0,(.dat .byte c0 none)),(4,(.dat (.int .i64) n4 none))])) from by
  funext c0 n4
  refine Eq.trans ?_ (quN (qb 0 (qbC.cutb 0) (kSeq (evCP qbC (evLP qbC n) (sub qjW [1,1])) (kFnP qbC quM))) n c0 n4).symm
  rw [show ((qb 0 (qbC.cutb 0) (kSeq (evCP qbC (evLP qbC n) (sub qjW [1,1])) (kFnP qbC quM))) (.exit 0) (frOf []))=(qeG n) from by
   exact qmZ n ]
  all_goals kernel_rfl]
 kernel_rfl
theorem quO:qe G Tryz.prog 146 s_z146:=by
 refine sQ (E:=qbC) (c:=qjW) rfl (fun w S hg=>(qa (quL w S hg) qd)) Tryz.func146 ?_
 intro avs r h
 unfold s_z146 at h
 split at h <;> cases h
 obtain ⟨n,hn⟩:=qAZ _
 exact ⟨n,_,(qJa n _ _).trans hn,.inl rfl⟩
def qJb:EnvP:=eQ [(146,s_z146)] 58 (some [6,7]) nC nC nP
def qJc:Code:=cO Tryz.f103
def qLI:Array ResultVar:=Tryz.f103.results
theorem qJd (n:Nat) (s0:LU) (o0:Lab) (at1:Int) (o1:Lab) (sign2:UInt8) (o2:Lab):evFnP qJb n qJc qLI [.dat (.sl .byte) s0 o0,.dat (.int .i64) at1 o1,.dat .byte sign2 o2]=qwI n s0 at1 sign2:=by
 kernel_rfl
theorem quP:qe G Tryz.prog 103 s_z103:=by
 refine sQ (E:=qJb) (c:=qJc) rfl (fun w S hg=>(qa (quO w S hg) qd)) Tryz.func103 ?_
 intro avs r h
 unfold s_z103 at h
 split at h
 ·obtain ⟨hp,rfl⟩:=Prod.mk.inj h
  obtain ⟨n,hn⟩:=qBe _ _ _ hp
  exact ⟨n,_,(qJd n _ _ _ _ _ _).trans hn,.inl rfl⟩
 ·cases h
def E_z56:EnvP:=eQ [(103,s_z103)] 58 (some [2,3]) (fun x=>if x=4 then some [0,4,5,6] else none) (fun x=>if x=0 then some [4,5] else if x=1 then some [0,4,5,6] else if x=2 then some [0,4,5,6] else none) nP
def C_z56:Code:=cO Tryz.f56
def R_z56:Array ResultVar:=Tryz.f56.results
theorem qyX (K:Ex→Fr→OA):∀ (n:Nat) (s0:LU) (out4:LU) (strange5:Int) (i6:Int),evLP E_z56 n (sub C_z56 [1,1,1,0,1,0,0]) K (frOf [(0,(.dat (.sl .byte) s0 none)),(4,(.dat (.sl .byte) out4 (some (4,5)))),(5,(.dat (.int .i64) strange5 none)),(6,(.dat (.int .i64) i6 none))])=qny (fun out4 strange5=>K (.exit 0) (frOf [(4,(.dat (.sl .byte) out4 (some (4,5)))),(5,(.dat (.int .i64) strange5 none))])) n s0 out4 strange5 i6:=by
 intro n
 induction n with
 | zero=>intros; rfl
 | succ n IH =>
 intro s0 out4 strange5 i6
 have ih:(fun s0 out4 strange5 i6=>evLP E_z56 n (sub C_z56 [1,1,1,0,1,0,0]) K (frOf [(0,(.dat (.sl .byte) s0 none)),(4,(.dat (.sl .byte) out4 (some (4,5)))),(5,(.dat (.int .i64) strange5 none)),(6,(.dat (.int .i64) i6 none))]))=qny (fun out4 strange5=>K (.exit 0) (frOf [(4,(.dat (.sl .byte) out4 (some (4,5)))),(5,(.dat (.int .i64) strange5 none))])) n:=by
  funext s0 out4 strange5 i6
  exact IH s0 out4 strange5 i6
 show _=qki (fun out4 strange5=>K (.exit 0) (frOf [(4,(.dat (.sl .byte) out4 (some (4,5)))),(5,(.dat (.int .i64) strange5 none))])) (qny (fun out4 strange5=>K (.exit 0) (frOf [(4,(.dat (.sl .byte) out4 (some (4,5)))),(5,(.dat (.int .i64) strange5 none))])) n) n s0 out4 strange5 i6
 rw [← ih]
 kernel_rfl
theorem qqI (n:Nat) (out4:LU) (strange5:Int):(qb 0 (E_z56.cutb 0) (kSeq (evCP E_z56 (evLP E_z56 n) (sub C_z56 [1,1,1,1])) (kFnP E_z56 R_z56))) (.exit 0) (frOf [(4,(.dat (.sl .byte) out4 (some (4,5)))),(5,(.dat (.int .i64) strange5 none))])=qhQ n out4 strange5:=by
 kernel_rfl
theorem qLJ (n:Nat) (s0:LU) (o0:Lab):evFnP E_z56 n C_z56 R_z56 [.dat (.sl .byte) s0 o0]=qEI n s0:=by
 unfold qEI
 rw [show qny (qhQ n) n=(fun s0 out4 strange5 i6=>evLP E_z56 n (sub C_z56 [1,1,1,0,1,0,0]) (qb 0 (E_z56.cutb 0) (kSeq (evCP E_z56 (evLP E_z56 n) (sub C_z56 [1,1,1,1])) (kFnP E_z56 R_z56))) (frOf [(0,(.dat (.sl .byte) s0 none)),(4,(.dat (.sl .byte) out4 (some (4,5)))),(5,(.dat (.int .i64) strange5 none)),(6,(.dat (.int .i64) i6 none))])) from by
  funext s0 out4 strange5 i6
  refine Eq.trans ?_ (qyX (qb 0 (E_z56.cutb 0) (kSeq (evCP E_z56 (evLP E_z56 n) (sub C_z56 [1,1,1,1])) (kFnP E_z56 R_z56))) n s0 out4 strange5 i6).symm
  rw [show (fun out4 strange5=>(qb 0 (E_z56.cutb 0) (kSeq (evCP E_z56 (evLP E_z56 n) (sub C_z56 [1,1,1,1])) (kFnP E_z56 R_z56))) (.exit 0) (frOf [(4,(.dat (.sl .byte) out4 (some (4,5)))),(5,(.dat (.int .i64) strange5 none))]))=(qhQ n) from by
   funext out4 strange5
   exact qqI n out4 strange5]
  all_goals kernel_rfl]
 kernel_rfl
theorem qoD:qe G Tryz.prog 56 s_z56:=by
 refine sQ (E:=E_z56) (c:=C_z56) rfl (fun w S hg=>(qa (quP w S hg) qd)) Tryz.func56 ?_
 intro avs r h
 unfold s_z56 at h
 split at h
 ·obtain ⟨hp,rfl⟩:=Prod.mk.inj h
  obtain ⟨n,hn⟩:=qDv _ hp
  exact ⟨n,_,(qLJ n _ _).trans hn,.inl rfl⟩
 ·cases h
def E_z20:EnvP:=eQ [(12,s_z12),(23,s_z23),(26,s_z26),(55,s_z55),(56,s_z56)] 33 (some [1000002,3]) nC nC nP
def C_z20:Code:=cO Tryz.f20
def R_z20:Array ResultVar:=Tryz.f20.results
theorem qLK (n:Nat) (s0:LU) (o0:Lab):evFnP E_z20 n C_z20 R_z20 [.dat (.sl .byte) s0 o0]=qEJ n s0:=by
 kernel_rfl
theorem qyY:qe G Tryz.prog 20 s_z20:=by
 refine sQ (E:=E_z20) (c:=C_z20) rfl (fun w S hg=>(qa (qjN w S hg) (qa (qoC w S hg) (qa (qyV w S hg) (qa (qyW w S hg) (qa (qoD w S hg) qd)))))) Tryz.func20 ?_
 intro avs r h
 unfold s_z20 at h
 split at h
 ·obtain ⟨hp,rfl⟩:=Prod.mk.inj h
  obtain ⟨n,hn⟩:=qDF _ hp
  exact ⟨n,_,(qLK n _ _).trans hn,.inl rfl⟩
 ·cases h
def E_z21:EnvP:=eQ [] 26 (some [4]) (fun x=>if x=4 then some [0,1,5] else none) (fun x=>if x=0 then some [] else if x=1 then some [0,1,5] else none) nP
def C_z21:Code:=cO Tryz.f21
def R_z21:Array ResultVar:=Tryz.f21.results
theorem qyZ (K:Ex→Fr→OA):∀ (n:Nat) (a0:LI) (b1:LI) (i5:Int),evLP E_z21 n (sub C_z21 [1,1,0,1,0,0]) K (frOf [(0,(.dat (.sl (.int .i32)) a0 none)),(1,(.dat (.sl (.int .i32)) b1 none)),(5,(.dat (.int .i64) i5 none))])=qkj (fun s4=>K .ret (frOf [(4,(.dat .bool s4 none))])) (K (.exit 0) (frOf [])) n a0 b1 i5:=by
 intro n
 induction n with
 | zero=>intros; rfl
 | succ n IH =>
 intro a0 b1 i5
 have ih:(fun a0 b1 i5=>evLP E_z21 n (sub C_z21 [1,1,0,1,0,0]) K (frOf [(0,(.dat (.sl (.int .i32)) a0 none)),(1,(.dat (.sl (.int .i32)) b1 none)),(5,(.dat (.int .i64) i5 none))]))=qkj (fun s4=>K .ret (frOf [(4,(.dat .bool s4 none))])) (K (.exit 0) (frOf [])) n:=by
  funext a0 b1 i5
  exact IH a0 b1 i5
 show _=qfA (fun s4=>K .ret (frOf [(4,(.dat .bool s4 none))])) (K (.exit 0) (frOf [])) (qkj (fun s4=>K .ret (frOf [(4,(.dat .bool s4 none))])) (K (.exit 0) (frOf [])) n) n a0 b1 i5
 rw [← ih]
 kernel_rfl
theorem qqJ (n:Nat)  : (qb 0 (E_z21.cutb 0) (kSeq (evCP E_z21 (evLP E_z21 n) (sub C_z21 [1,1,1])) (kFnP E_z21 R_z21))) (.exit 0) (frOf [])=qkk n  := by
 kernel_rfl
theorem qLL (n:Nat) (a0:LI) (o0:Lab) (b1:LI) (o1:Lab):evFnP E_z21 n C_z21 R_z21 [.dat (.sl (.int .i32)) a0 o0,.dat (.sl (.int .i32)) b1 o1]=qAy n a0 b1:=by
 unfold qAy
 rw [show qkj qiE (qkk n) n=(fun a0 b1 i5=>evLP E_z21 n (sub C_z21 [1,1,0,1,0,0]) (qb 0 (E_z21.cutb 0) (kSeq (evCP E_z21 (evLP E_z21 n) (sub C_z21 [1,1,1])) (kFnP E_z21 R_z21))) (frOf [(0,(.dat (.sl (.int .i32)) a0 none)),(1,(.dat (.sl (.int .i32)) b1 none)),(5,(.dat (.int .i64) i5 none))])) from by
  funext a0 b1 i5
  refine Eq.trans ?_ (qyZ (qb 0 (E_z21.cutb 0) (kSeq (evCP E_z21 (evLP E_z21 n) (sub C_z21 [1,1,1])) (kFnP E_z21 R_z21))) n a0 b1 i5).symm
  rw [show ((qb 0 (E_z21.cutb 0) (kSeq (evCP E_z21 (evLP E_z21 n) (sub C_z21 [1,1,1])) (kFnP E_z21 R_z21))) (.exit 0) (frOf []))=(qkk n) from by
   exact qqJ n ]
  all_goals kernel_rfl]
 kernel_rfl
theorem qza:qe G Tryz.prog 21 s_z21:=by
 refine sQ (E:=E_z21) (c:=C_z21) rfl (fun w S hg=>qd) Tryz.func21 ?_
 intro avs r h
 unfold s_z21 at h
 split at h
 ·obtain ⟨hp,rfl⟩:=Prod.mk.inj h
  obtain ⟨n,hn⟩:=qDr _ _ hp
  exact ⟨n,_,(qLL n _ _ _ _).trans hn,.inl rfl⟩
 ·cases h
def E_z22:EnvP:=eQ [(11,s_z11),(53,s_z53)] 14 (some [2]) nC nC nP
def C_z22:Code:=cO Tryz.f22
def R_z22:Array ResultVar:=Tryz.f22.results
theorem qLM (n:Nat) (s0:LU) (o0:Lab):evFnP E_z22 n C_z22 R_z22 [.dat (.sl .byte) s0 o0]=qEK n s0:=by
 kernel_rfl
theorem qzb:qe G Tryz.prog 22 s_z22:=by
 refine sQ (E:=E_z22) (c:=C_z22) rfl (fun w S hg=>(qa (qgk w S hg) (qa (qoy w S hg) qd))) Tryz.func22 ?_
 intro avs r h
 unfold s_z22 at h
 split at h
 ·obtain ⟨hp,rfl⟩:=Prod.mk.inj h
  obtain ⟨n,hn⟩:=qDC _ hp
  exact ⟨n,_,(qLM n _ _).trans hn,.inl rfl⟩
 ·cases h
def qJe:EnvP:=eQ [(175,s_z175)] 21 (some [4]) nC nC nP
def qJf:Code:=cO Tryz.f228
def qLN:Array ResultVar:=Tryz.f228.results
theorem qJg (n:Nat) (s0:LU) (o0:Lab) (suffix1:LU) (o1:Lab):evFnP qJe n qJf qLN [.dat (.sl .byte) s0 o0,.dat (.sl .byte) suffix1 o1]=qwK n s0 suffix1:=by
 kernel_rfl
theorem quQ:qe G Tryz.prog 228 s_z228:=by
 refine sQ (E:=qJe) (c:=qJf) rfl (fun w S hg=>(qa (qsN w S hg) qd)) Tryz.func228 ?_
 intro avs r h
 unfold s_z228 at h
 split at h
 ·obtain ⟨hp,rfl⟩:=Prod.mk.inj h
  obtain ⟨n,hn⟩:=qBg _ _ hp
  exact ⟨n,_,(qJg n _ _ _ _).trans hn,.inl rfl⟩
 ·cases h
end
end Go.Av
