import Derived.Test.YtopepdfipgfakaaGreatDoorCuEvB
import Derived.Test.YtopepdfipgfakaaGreatDoorCuC
import Derived.Test.YtopepdfipgfakaaGreatDoorProg
import Derived.KernelRfl
namespace Go.Av
set_option linter.unusedSimpArgs false
noncomputable section
open Go.Proofs
set_option maxRecDepth 100000
set_option linter.unusedVariables false
def E_z64:EnvP:=eQ [] 22 (some [2]) nC (fun x=>if x=0 then some [0] else none) nP
def C_z64:Code:=cO Tryz.f64
def R_z64:Array ResultVar:=Tryz.f64.results
theorem qNy (n:Nat) (x0:UInt8) (o0:Lab):evFnP E_z64 n C_z64 R_z64 [.dat .byte x0 o0]=qGf n x0:=by
 kernel_rfl
theorem qAB:qe Gc Tryz.prog 64 s_z64:=by
 refine sQ (E:=E_z64) (c:=C_z64) rfl (fun w S hg=>qc) Tryz.func64 ?_
 intro avs r h
 unfold s_z64 at h
 split at h <;> cases h
 obtain ⟨n,hn⟩:=qGP _
 exact ⟨n,_,(qNy n _ _).trans hn,.inl rfl⟩
def E_z65:EnvP:=eQ [] 18 (some [2]) nC nC nP
def C_z65:Code:=cO Tryz.f65
def R_z65:Array ResultVar:=Tryz.f65.results
theorem qNz (n:Nat) (x0:UInt8) (o0:Lab):evFnP E_z65 n C_z65 R_z65 [.dat .byte x0 o0]=qGg n x0:=by
 kernel_rfl
theorem qAC:qe Gc Tryz.prog 65 s_z65:=by
 refine sQ (E:=E_z65) (c:=C_z65) rfl (fun w S hg=>qc) Tryz.func65 ?_
 intro avs r h
 unfold s_z65 at h
 split at h <;> cases h
 obtain ⟨n,hn⟩:=qGQ _
 exact ⟨n,_,(qNz n _ _).trans hn,.inl rfl⟩
def E_z26:EnvP:=eQ [(63,s_z63),(64,s_z64),(65,s_z65)] 69 (some [1000004]) (fun x=>if x=6 then some [0,1,8,9] else none) (fun x=>if x=0 then some [8] else if x=1 then some [0,1,8,9] else if x=2 then some [0,1,8,9] else none) nP
def C_z26:Code:=cO Tryz.f26
def R_z26:Array ResultVar:=Tryz.f26.results
noncomputable def qlC (K:Ex→Fr→Option AV):=fun out8=>K (.exit 0) (frOf [(8,(.dat (.sl (.int .i32)) out8 (some (8,21))))])
def qpM (n:Nat):Ex→Fr→Option AV:=qo 0 (E_z26.cutb 0) (kSeq (evCP E_z26 (evLP E_z26 n) (sub C_z26 [1,1,1,1])) (kFnP E_z26 R_z26))
def qvl (charset0:Int) (s1:List UInt8) (out8:List Int) (i9:Int):Fr:=frOf [(0,(.dat (.int .i64) charset0 none)),(1,(.dat (.sl .byte) s1 none)),(8,(.dat (.sl (.int .i32)) out8 (some (8,21)))),(9,(.dat (.int .i64) i9 none))]
theorem qAD (K:Ex→Fr→Option AV):∀ (n:Nat) (charset0:Int) (s1:List UInt8) (out8:List Int) (i9:Int),evLP E_z26 n (sub C_z26 [1,1,1,0,1,0,0]) K (qvl charset0 s1 out8 i9)=qoe (qlC K) n charset0 s1 out8 i9:=by
 intro n
 induction n with
 | zero=>intros; rfl
 | succ n IH =>
 intro charset0 s1 out8 i9
 have ih:(fun charset0 s1 out8 i9=>evLP E_z26 n (sub C_z26 [1,1,1,0,1,0,0]) K (qvl charset0 s1 out8 i9))=qoe (qlC K) n:=by
  funext charset0 s1 out8 i9
  exact IH charset0 s1 out8 i9
 show _=qeM (qlC K) (qoe (qlC K) n) n charset0 s1 out8 i9
 rw [← ih]
 kernel_rfl
theorem qsw (n:Nat) (out8:List Int):(qpM n) (.exit 0) (frOf [(8,(.dat (.sl (.int .i32)) out8 (some (8,21))))])=qeN n out8:=by
 kernel_rfl
theorem qNA (n:Nat) (charset0:Int) (o0:Lab) (s1:List UInt8) (o1:Lab):evFnP E_z26 n C_z26 R_z26 [.dat (.int .i64) charset0 o0,.dat (.sl .byte) s1 o1]=qBM n charset0 s1:=by
 unfold qBM
 rw [show qoe (qeN n) n=(fun charset0 s1 out8 i9=>evLP E_z26 n (sub C_z26 [1,1,1,0,1,0,0]) (qpM n) (qvl charset0 s1 out8 i9)) from by
  funext charset0 s1 out8 i9
  refine Eq.trans ?_ (qAD (qpM n) n charset0 s1 out8 i9).symm
  rw [show (qlC (qpM n))=(qeN n) from by
   funext out8
   exact qsw n out8]
  all_goals kernel_rfl]
 kernel_rfl
theorem qAE:qe Gc Tryz.prog 26 s_z26:=by
 refine sQ (E:=E_z26) (c:=C_z26) rfl (fun w S hg=>(qb (qAA w S hg) (qb (qAB w S hg) (qb (qAC w S hg) qc)))) Tryz.func26 ?_
 intro avs r h
 unfold s_z26 at h
 split at h
 ·obtain ⟨hp,rfl⟩:=Prod.mk.inj h
  obtain ⟨n,hn⟩:=qHi _ _ hp
  exact ⟨n,_,(qNA n _ _ _ _).trans hn,.inl rfl⟩
 ·cases h
def qIY:EnvP:=eQ [] 31 (some [2]) nC (fun x=>if x=0 then some [] else none) nP
def qIZ:Code:=cO Tryz.f135
def qNB:Array ResultVar:=Tryz.f135.results
theorem qJa (n:Nat) (n0:Int) (o0:Lab):evFnP qIY n qIZ qNB [.dat (.int .i64) n0 o0]=qxo n n0:=by
 kernel_rfl
theorem qvm:qe Gc Tryz.prog 135 s_z135:=by
 refine sQ (E:=qIY) (c:=qIZ) rfl (fun w S hg=>qc) Tryz.func135 ?_
 intro avs r h
 unfold s_z135 at h
 split at h <;> cases h
 obtain ⟨n,hn⟩:=qCq _
 exact ⟨n,_,(qJa n _ _).trans hn,.inl rfl⟩
def qjz:EnvP:=eQ [(135,s_z135)] 14 (some [2,3]) (fun x=>if x=2 then some [0,4] else none) (fun x=>if x=0 then some [] else if x=1 then some [0,4] else none) nP
def qsx:Code:=cO Tryz.f145
def qJb:Array ResultVar:=Tryz.f145.results
noncomputable def qjA (K:Ex→Fr→Option AV):=fun s2 s3=>K .ret (frOf [(2,(.dat (.int .i64) s2 none)),(3,(.dat .bool s3 none))])
def qjB (n:Nat):Ex→Fr→Option AV:=qo 0 (qjz.cutb 0) (kSeq (evCP qjz (evLP qjz n) (sub qsx [1,1])) (kFnP qjz qJb))
def qno (c0:UInt8) (n4:Int):Fr:=frOf [(0,(.dat .byte c0 none)),(4,(.dat (.int .i64) n4 none))]
theorem qvn (K:Ex→Fr→Option AV):∀ (n:Nat) (c0:UInt8) (n4:Int),evLP qjz n (sub qsx [1,0,1,0,0]) K (qno c0 n4)=qhg (qjA K) (K (.exit 0) (frOf [])) n c0 n4:=by
 intro n
 induction n with
 | zero=>intros; rfl
 | succ n IH =>
 intro c0 n4
 have ih:(fun c0 n4=>evLP qjz n (sub qsx [1,0,1,0,0]) K (qno c0 n4))=qhg (qjA K) (K (.exit 0) (frOf [])) n:=by
  funext c0 n4
  exact IH c0 n4
 show _=qcp (qjA K) (K (.exit 0) (frOf [])) (qhg (qjA K) (K (.exit 0) (frOf [])) n) n c0 n4
 rw [← ih]
 kernel_rfl
theorem qnp (n:Nat)  : (qjB n) (.exit 0) (frOf [])=qdU n  := by
 kernel_rfl
theorem qJc (n:Nat) (c0:UInt8) (o0:Lab):evFnP qjz n qsx qJb [.dat .byte c0 o0]=qqH n c0:=by
 unfold qqH
 rw [show qhg qdf (qdU n) n=(fun c0 n4=>evLP qjz n (sub qsx [1,0,1,0,0]) (qjB n) (qno c0 n4)) from by
  funext c0 n4
  refine Eq.trans ?_ (qvn (qjB n) n c0 n4).symm
  rw [show ((qjB n) (.exit 0) (frOf []))=(qdU n) from by
   exact qnp n ]
  all_goals kernel_rfl]
 kernel_rfl
theorem qlD:qe Gc Tryz.prog 145 s_z145:=by
 refine sQ (E:=qjz) (c:=qsx) rfl (fun w S hg=>(qb (qvm w S hg) qc)) Tryz.func145 ?_
 intro avs r h
 unfold s_z145 at h
 split at h <;> cases h
 obtain ⟨n,hn⟩:=qCF _
 exact ⟨n,_,(qJc n _ _).trans hn,.inl rfl⟩
def qjC:EnvP:=eQ [(145,s_z145)] 42 (some [2,3]) (fun x=>if x=4 then some [0,4,5,6] else none) (fun x=>if x=0 then some [4,5] else if x=1 then some [0,4,5,6] else none) nP
def qsy:Code:=cO Tryz.f100
def qJd:Array ResultVar:=Tryz.f100.results
noncomputable def qgH (K:Ex→Fr→Option AV):=fun out4 strange5=>K (.exit 0) (frOf [(4,(.dat (.sl .byte) out4 (some (4,5)))),(5,(.dat (.int .i64) strange5 none))])
def qjD (n:Nat):Ex→Fr→Option AV:=qo 0 (qjC.cutb 0) (kSeq (evCP qjC (evLP qjC n) (sub qsy [1,1,1,1])) (kFnP qjC qJd))
def qnq (s0:List UInt8) (out4:List UInt8) (strange5:Int) (i6:Int):Fr:=frOf [(0,(.dat (.sl .byte) s0 none)),(4,(.dat (.sl .byte) out4 (some (4,5)))),(5,(.dat (.int .i64) strange5 none)),(6,(.dat (.int .i64) i6 none))]
theorem qvo (K:Ex→Fr→Option AV):∀ (n:Nat) (s0:List UInt8) (out4:List UInt8) (strange5:Int) (i6:Int),evLP qjC n (sub qsy [1,1,1,0,1,0,0]) K (qnq s0 out4 strange5 i6)=qhh (qgH K) n s0 out4 strange5 i6:=by
 intro n
 induction n with
 | zero=>intros; rfl
 | succ n IH =>
 intro s0 out4 strange5 i6
 have ih:(fun s0 out4 strange5 i6=>evLP qjC n (sub qsy [1,1,1,0,1,0,0]) K (qnq s0 out4 strange5 i6))=qhh (qgH K) n:=by
  funext s0 out4 strange5 i6
  exact IH s0 out4 strange5 i6
 show _=qcq (qgH K) (qhh (qgH K) n) n s0 out4 strange5 i6
 rw [← ih]
 kernel_rfl
theorem qnr (n:Nat) (out4:List UInt8) (strange5:Int):(qjD n) (.exit 0) (frOf [(4,(.dat (.sl .byte) out4 (some (4,5)))),(5,(.dat (.int .i64) strange5 none))])=qdV n out4 strange5:=by
 kernel_rfl
theorem qJe (n:Nat) (s0:List UInt8) (o0:Lab):evFnP qjC n qsy qJd [.dat (.sl .byte) s0 o0]=qxp n s0:=by
 unfold qxp
 rw [show qhh (qdV n) n=(fun s0 out4 strange5 i6=>evLP qjC n (sub qsy [1,1,1,0,1,0,0]) (qjD n) (qnq s0 out4 strange5 i6)) from by
  funext s0 out4 strange5 i6
  refine Eq.trans ?_ (qvo (qjD n) n s0 out4 strange5 i6).symm
  rw [show (qgH (qjD n))=(qdV n) from by
   funext out4 strange5
   exact qnr n out4 strange5]
  all_goals kernel_rfl]
 kernel_rfl
theorem qvp:qe Gc Tryz.prog 100 s_z100:=by
 refine sQ (E:=qjC) (c:=qsy) rfl (fun w S hg=>(qb (qlD w S hg) qc)) Tryz.func100 ?_
 intro avs r h
 unfold s_z100 at h
 split at h
 ·obtain ⟨hp,rfl⟩:=Prod.mk.inj h
  obtain ⟨n,hn⟩:=qCG _ hp
  exact ⟨n,_,(qJe n _ _).trans hn,.inl rfl⟩
 ·cases h
def qba:EnvP:=eQ [(145,s_z145)] 37 (some [2,3]) (fun x=>if x=3 then some [0,4,5] else if x=9 then some [0,4,5,6,8] else none) (fun x=>if x=0 then some [4] else if x=1 then some [0,4,5] else if x=2 then some [0,4,5] else if x=3 then some [0,4,5,6,8] else none) nP
def qdN:Code:=cO Tryz.f101
def qJf:Array ResultVar:=Tryz.f101.results
def qbQ (s0:List UInt8) (out4:List Int) (i5:Int):Fr:=frOf [(0,(.dat (.sl .byte) s0 none)),(4,(.dat (.sl (.int .i64)) out4 (some (4,3)))),(5,(.dat (.int .i64) i5 none))]
noncomputable def qgI (K:Ex→Fr→Option AV):=fun s0 out4 i5=>K (.exit 2) (qbQ s0 out4 i5)
noncomputable def qeF (K:Ex→Fr→Option AV):=fun s2 s3=>K .ret (frOf [(2,(.dat (.sl (.int .i64)) s2 (some (2,3)))),(3,(.dat .bool s3 none))])
noncomputable def qdd (K:Ex→Fr→Option AV):=fun out4=>K (.exit 0) (frOf [(4,(.dat (.sl (.int .i64)) out4 (some (4,3))))])
def qjE (n:Nat) (K:Ex→Fr→Option AV):Ex→Fr→Option AV:=qo 2 (qba.cutb 2) (qo 1 (qba.cutb 1) (kSeq (evCP qba (evLP qba n) (sub qdN [1,1,0,1,0,0,1,1])) (kSeq (fun K fr=>evLP qba n (sub qdN [1,1,0,1,0,0]) K (cutFP (qba.cuts 3) fr)) K)))
def qjF (n:Nat):Ex→Fr→Option AV:=qo 0 (qba.cutb 0) (kSeq (evCP qba (evLP qba n) (sub qdN [1,1,1])) (kFnP qba qJf))
def qns (s0:List UInt8) (out4:List Int) (i5:Int) (n6:Int) (k8:Int):Fr:=frOf [(0,(.dat (.sl .byte) s0 none)),(4,(.dat (.sl (.int .i64)) out4 (some (4,3)))),(5,(.dat (.int .i64) i5 none)),(6,(.dat (.int .i64) n6 none)),(8,(.dat (.int .i64) k8 none))]
theorem qvq (K:Ex→Fr→Option AV):∀ (n:Nat) (s0:List UInt8) (out4:List Int) (i5:Int) (n6:Int) (k8:Int),evLP qba n (sub qdN [1,1,0,1,0,0,1,0,0,1,1,1,0,0]) K (qns s0 out4 i5 n6 k8)=qcU (qgI K) n s0 out4 i5 n6 k8:=by
 intro n
 induction n with
 | zero=>intros; rfl
 | succ n IH =>
 intro s0 out4 i5 n6 k8
 have ih:(fun s0 out4 i5 n6 k8=>evLP qba n (sub qdN [1,1,0,1,0,0,1,0,0,1,1,1,0,0]) K (qns s0 out4 i5 n6 k8))=qcU (qgI K) n:=by
  funext s0 out4 i5 n6 k8
  exact IH s0 out4 i5 n6 k8
 show _=qfM (qgI K) (qcU (qgI K) n) n s0 out4 i5 n6 k8
 rw [← ih]
 kernel_rfl
theorem qnt (K:Ex→Fr→Option AV) (n:Nat) (s0:List UInt8) (out4:List Int) (i5:Int):(qjE n K) (.exit 2) (qbQ s0 out4 i5)=qfN (fun s2 s3=>K .ret (frOf [(2,(.dat (.sl (.int .i64)) s2 (some (2,3)))),(3,(.dat .bool s3 none))])) (fun out4=>K (.exit 0) (frOf [(4,(.dat (.sl (.int .i64)) out4 (some (4,3))))])) (fun s0 out4 i5=>evLP qba n (sub qdN [1,1,0,1,0,0]) K (qbQ s0 out4 i5)) n s0 out4 i5:=by
 kernel_rfl
theorem qvr (K:Ex→Fr→Option AV):∀ (n:Nat) (s0:List UInt8) (out4:List Int) (i5:Int),evLP qba n (sub qdN [1,1,0,1,0,0]) K (qbQ s0 out4 i5)=qdW (qeF K) (qdd K) n s0 out4 i5:=by
 intro n
 induction n with
 | zero=>intros; rfl
 | succ n IH =>
 intro s0 out4 i5
 have ih:(fun s0 out4 i5=>evLP qba n (sub qdN [1,1,0,1,0,0]) K (qbQ s0 out4 i5))=qdW (qeF K) (qdd K) n:=by
  funext s0 out4 i5
  exact IH s0 out4 i5
 show _=qbv (qeF K) (qdd K) (qdW (qeF K) (qdd K) n) n s0 out4 i5
 rw [← ih]
 unfold qbv
 rw [show qcU (qfN (qeF K) (qdd K) (fun s0 out4 i5=>evLP qba n (sub qdN [1,1,0,1,0,0]) K (qbQ s0 out4 i5)) n) n=(fun s0 out4 i5 n6 k8=>evLP qba n (sub qdN [1,1,0,1,0,0,1,0,0,1,1,1,0,0]) (qjE n K) (qns s0 out4 i5 n6 k8)) from by
  funext s0 out4 i5 n6 k8
  refine Eq.trans ?_ (qvq (qjE n K) n s0 out4 i5 n6 k8).symm
  rw [show (qgI (qjE n K))=(qfN (qeF K) (qdd K) (fun s0 out4 i5=>evLP qba n (sub qdN [1,1,0,1,0,0]) K (qbQ s0 out4 i5)) n) from by
   funext s0 out4 i5
   exact qnt K n s0 out4 i5]
  all_goals kernel_rfl]
 kernel_rfl
theorem qnu (n:Nat) (out4:List Int):(qjF n) (.exit 0) (frOf [(4,(.dat (.sl (.int .i64)) out4 (some (4,3))))])=qbw n out4:=by
 kernel_rfl
theorem qJg (n:Nat) (s0:List UInt8) (o0:Lab):evFnP qba n qdN qJf [.dat (.sl .byte) s0 o0]=qxq n s0:=by
 unfold qxq
 rw [show qdW qaI (qbw n) n=(fun s0 out4 i5=>evLP qba n (sub qdN [1,1,0,1,0,0]) (qjF n) (qbQ s0 out4 i5)) from by
  funext s0 out4 i5
  refine Eq.trans ?_ (qvr (qjF n) n s0 out4 i5).symm
  rw [show (qdd (qjF n))=(qbw n) from by
   funext out4
   exact qnu n out4]
  all_goals kernel_rfl]
 kernel_rfl
theorem qlE:qe Gc Tryz.prog 101 s_z101:=by
 refine sQ (E:=qba) (c:=qdN) rfl (fun w S hg=>(qb (qlD w S hg) qc)) Tryz.func101 ?_
 intro avs r h
 unfold s_z101 at h
 split at h
 ·obtain ⟨hp,rfl⟩:=Prod.mk.inj h
  obtain ⟨n,hn⟩:=qCI _ hp
  exact ⟨n,_,(qJg n _ _).trans hn,.inl rfl⟩
 ·cases h
def qjG:EnvP:=eQ [] 19 (some [2]) (fun x=>if x=3 then some [0,3,4] else none) (fun x=>if x=0 then some [3] else if x=1 then some [0,3,4] else none) nP
def qsz:Code:=cO Tryz.f136
def qJh:Array ResultVar:=Tryz.f136.results
noncomputable def qgJ (K:Ex→Fr→Option AV):=fun n3=>K (.exit 0) (frOf [(3,(.dat (.int .i64) n3 none))])
def qjH (n:Nat):Ex→Fr→Option AV:=qo 0 (qjG.cutb 0) (kSeq (evCP qjG (evLP qjG n) (sub qsz [1,1,1])) (kFnP qjG qJh))
def qnv (l0:List Int) (n3:Int) (i4:Int):Fr:=frOf [(0,(.dat (.sl (.int .i64)) l0 none)),(3,(.dat (.int .i64) n3 none)),(4,(.dat (.int .i64) i4 none))]
theorem qvs (K:Ex→Fr→Option AV):∀ (n:Nat) (l0:List Int) (n3:Int) (i4:Int),evLP qjG n (sub qsz [1,1,0,1,0,0]) K (qnv l0 n3 i4)=qhi (qgJ K) n l0 n3 i4:=by
 intro n
 induction n with
 | zero=>intros; rfl
 | succ n IH =>
 intro l0 n3 i4
 have ih:(fun l0 n3 i4=>evLP qjG n (sub qsz [1,1,0,1,0,0]) K (qnv l0 n3 i4))=qhi (qgJ K) n:=by
  funext l0 n3 i4
  exact IH l0 n3 i4
 show _=qcr (qgJ K) (qhi (qgJ K) n) n l0 n3 i4
 rw [← ih]
 kernel_rfl
theorem qnw (n:Nat) (n3:Int):(qjH n) (.exit 0) (frOf [(3,(.dat (.int .i64) n3 none))])=qdX n n3:=by
 kernel_rfl
theorem qJi (n:Nat) (l0:List Int) (o0:Lab):evFnP qjG n qsz qJh [.dat (.sl (.int .i64)) l0 o0]=qqI n l0:=by
 unfold qqI
 rw [show qhi (qdX n) n=(fun l0 n3 i4=>evLP qjG n (sub qsz [1,1,0,1,0,0]) (qjH n) (qnv l0 n3 i4)) from by
  funext l0 n3 i4
  refine Eq.trans ?_ (qvs (qjH n) n l0 n3 i4).symm
  rw [show (qgJ (qjH n))=(qdX n) from by
   funext n3
   exact qnw n n3]
  all_goals kernel_rfl]
 kernel_rfl
theorem qvt:qe Gc Tryz.prog 136 s_z136:=by
 refine sQ (E:=qjG) (c:=qsz) rfl (fun w S hg=>qc) Tryz.func136 ?_
 intro avs r h
 unfold s_z136 at h
 split at h
 ·obtain ⟨hp,rfl⟩:=Prod.mk.inj h
  obtain ⟨n,hn⟩:=qCr _ hp
  exact ⟨n,_,(qJi n _ _).trans hn,.inl rfl⟩
 ·cases h
def qjI:EnvP:=eQ [(136,s_z136)] 29 (some [2,3]) (fun x=>if x=3 then some [0,4,5] else none) (fun x=>if x=0 then some [0,4,5] else if x=1 then some [0,4,5] else none) nP
def qsA:Code:=cO Tryz.f102
def qJj:Array ResultVar:=Tryz.f102.results
def qgK (l0:List Int) (out4:List UInt8) (i5:Int):Fr:=frOf [(0,(.dat (.sl (.int .i64)) l0 none)),(4,(.dat (.sl .byte) out4 (some (4,5)))),(5,(.dat (.int .i64) i5 none))]
noncomputable def qgL (K:Ex→Fr→Option AV):=fun l0 out4 i5=>K (.exit 0) (qgK l0 out4 i5)
def qjJ (n:Nat):Ex→Fr→Option AV:=qo 0 (qjI.cutb 0) (kSeq (evCP qjI (evLP qjI n) (sub qsA [1,1,1,1])) (kFnP qjI qJj))
theorem qvu (K:Ex→Fr→Option AV):∀ (n:Nat) (l0:List Int) (out4:List UInt8) (i5:Int),evLP qjI n (sub qsA [1,1,1,0,0,0]) K (qgK l0 out4 i5)=qhj (qgL K) n l0 out4 i5:=by
 intro n
 induction n with
 | zero=>intros; rfl
 | succ n IH =>
 intro l0 out4 i5
 have ih:(fun l0 out4 i5=>evLP qjI n (sub qsA [1,1,1,0,0,0]) K (qgK l0 out4 i5))=qhj (qgL K) n:=by
  funext l0 out4 i5
  exact IH l0 out4 i5
 show _=qcs (qgL K) (qhj (qgL K) n) n l0 out4 i5
 rw [← ih]
 kernel_rfl
theorem qnx (n:Nat) (l0:List Int) (out4:List UInt8) (i5:Int):(qjJ n) (.exit 0) (qgK l0 out4 i5)=qct n l0 out4 i5:=by
 kernel_rfl
theorem qJk (n:Nat) (l0:List Int) (o0:Lab):evFnP qjI n qsA qJj [.dat (.sl (.int .i64)) l0 o0]=qxs n l0:=by
 unfold qxs
 rw [show qhj (qct n) n=(fun l0 out4 i5=>evLP qjI n (sub qsA [1,1,1,0,0,0]) (qjJ n) (qgK l0 out4 i5)) from by
  funext l0 out4 i5
  refine Eq.trans ?_ (qvu (qjJ n) n l0 out4 i5).symm
  rw [show (qgL (qjJ n))=(qct n) from by
   funext l0 out4 i5
   exact qnx n l0 out4 i5]
  all_goals kernel_rfl]
 kernel_rfl
theorem qlF:qe Gc Tryz.prog 102 s_z102:=by
 refine sQ (E:=qjI) (c:=qsA) rfl (fun w S hg=>(qb (qvt w S hg) qc)) Tryz.func102 ?_
 intro avs r h
 unfold s_z102 at h
 split at h
 ·obtain ⟨hp,rfl⟩:=Prod.mk.inj h
  obtain ⟨n,hn⟩:=qCJ _ hp
  exact ⟨n,_,(qJk n _ _).trans hn,.inl rfl⟩
 ·cases h
def E_z55:EnvP:=eQ [(100,s_z100),(101,s_z101),(102,s_z102)] 29 (some [2,3]) nC nC nP
def C_z55:Code:=cO Tryz.f55
def R_z55:Array ResultVar:=Tryz.f55.results
theorem qNC (n:Nat) (s0:List UInt8) (o0:Lab):evFnP E_z55 n C_z55 R_z55 [.dat (.sl .byte) s0 o0]=qGh n s0:=by
 kernel_rfl
theorem qAF:qe Gc Tryz.prog 55 s_z55:=by
 refine sQ (E:=E_z55) (c:=C_z55) rfl (fun w S hg=>(qb (qvp w S hg) (qb (qlE w S hg) (qb (qlF w S hg) qc)))) Tryz.func55 ?_
 intro avs r h
 unfold s_z55 at h
 split at h
 ·obtain ⟨hp,rfl⟩:=Prod.mk.inj h
  obtain ⟨n,hn⟩:=qHm _ hp
  exact ⟨n,_,(qNC n _ _).trans hn,.inl rfl⟩
 ·cases h
def qJl:EnvP:=eQ [] 17 (some [2]) nC nC nP
def qJm:Code:=cO Tryz.f184
def qND:Array ResultVar:=Tryz.f184.results
theorem qJn (n:Nat) (n0:Int) (o0:Lab):evFnP qJl n qJm qND [.dat (.int .i64) n0 o0]=qxt n n0:=by
 kernel_rfl
theorem qvv:qe Gc Tryz.prog 184 s_z184:=by
 refine sQ (E:=qJl) (c:=qJm) rfl (fun w S hg=>qc) Tryz.func184 ?_
 intro avs r h
 unfold s_z184 at h
 split at h
 ·obtain ⟨hp,rfl⟩:=Prod.mk.inj h
  obtain ⟨n,hn⟩:=qCf _ hp
  exact ⟨n,_,(qJn n _ _).trans hn,.inl rfl⟩
 ·cases h
end
end Go.Av
