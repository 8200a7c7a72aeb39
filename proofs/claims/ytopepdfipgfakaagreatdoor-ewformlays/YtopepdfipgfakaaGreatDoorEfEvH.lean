import Derived.Test.YtopepdfipgfakaaGreatDoorEfEvG
import Derived.Test.YtopepdfipgfakaaGreatDoorEfLayX
import Derived.Test.YtopepdfipgfakaaGreatDoorProg
import Derived.KernelRfl
namespace Go.Av
set_option linter.unusedSimpArgs false
open Go.Proofs
set_option maxRecDepth 100000
set_option linter.unusedVariables false
noncomputable def qCw:EnvP:=eQ [] 31 (some [2]) nC (fun x=>if x=0 then some [] else none) nP
noncomputable def qCx:Code:=cO Tryz.f135
noncomputable def qEL:Array ResultVar:=Tryz.f135.results
theorem qCy (n:Nat) (n0:Int) (o0:Lab):evFnP qCw n qCx qEL [.dat (.int .i64) n0 o0]=qsd n n0:=by
 kernel_rfl
theorem qqy:qg G Tryz.prog 135 s_z135:=by
 refine sQ (E:=qCw) (c:=qCx) rfl (fun w S hg=>qd) Tryz.func135 (by kernel_rfl) (by kernel_rfl) (by kernel_rfl) ?_
 intro avs r h
 unfold s_z135 at h
 split at h
 ·simp only [Prod.mk.injEq,true_and] at h
  subst h
  obtain ⟨n,hn⟩:=qvT _
  exact ⟨n,_,(qCy n _ _).trans hn,.inl rfl⟩
 ·cases h
noncomputable def qbe:EnvP:=eQ [] 19 (some [2]) (fun x=>if x=3 then some [0,3,4] else none) (fun x=>if x=0 then some [3] else if x=1 then some [0,3,4] else none) nP
noncomputable def qhK:Code:=cO Tryz.f136
noncomputable def qqz:Array ResultVar:=Tryz.f136.results
theorem qqA (K:Ex→Fr→Option AV):∀ (n:Nat) (l0:List Int) (n3:Int) (i4:Int),evLP qbe n (sub qhK [1,1,0,1,0,0]) K (frOf [(0,(.dat (.sl (.int .i64)) l0 none)),(3,(.dat (.int .i64) n3 none)),(4,(.dat (.int .i64) i4 none))])=qgh (fun n3=>K (.exit 0) (frOf [(3,(.dat (.int .i64) n3 none))])) n l0 n3 i4:=by
 intro n
 induction n with
 | zero=>intros; rfl
 | succ n IH =>
 intro l0 n3 i4
 have ih:(fun l0 n3 i4=>evLP qbe n (sub qhK [1,1,0,1,0,0]) K (frOf [(0,(.dat (.sl (.int .i64)) l0 none)),(3,(.dat (.int .i64) n3 none)),(4,(.dat (.int .i64) i4 none))]))=qgh (fun n3=>K (.exit 0) (frOf [(3,(.dat (.int .i64) n3 none))])) n:=by
  funext l0 n3 i4
  exact IH l0 n3 i4
 show _=qcq (fun n3=>K (.exit 0) (frOf [(3,(.dat (.int .i64) n3 none))])) (qgh (fun n3=>K (.exit 0) (frOf [(3,(.dat (.int .i64) n3 none))])) n) n l0 n3 i4
 rw [← ih]
 kernel_rfl
theorem qkf (n:Nat) (n3:Int):(qc 0 (qbe.cutb 0) (kSeq (evCP qbe (evLP qbe n) (sub qhK [1,1,1])) (kFnP qbe qqz))) (.exit 0) (frOf [(3,(.dat (.int .i64) n3 none))])=qdG n n3:=by
 kernel_rfl
theorem qCz (n:Nat) (l0:List Int) (o0:Lab):evFnP qbe n qhK qqz [.dat (.sl (.int .i64)) l0 o0]=qmg n l0:=by
 unfold qmg
 rw [show qgh (qdG n) n=(fun l0 n3 i4=>evLP qbe n (sub qhK [1,1,0,1,0,0]) (qc 0 (qbe.cutb 0) (kSeq (evCP qbe (evLP qbe n) (sub qhK [1,1,1])) (kFnP qbe qqz))) (frOf [(0,(.dat (.sl (.int .i64)) l0 none)),(3,(.dat (.int .i64) n3 none)),(4,(.dat (.int .i64) i4 none))])) from by
  funext l0 n3 i4
  refine Eq.trans ?_ (qqA (qc 0 (qbe.cutb 0) (kSeq (evCP qbe (evLP qbe n) (sub qhK [1,1,1])) (kFnP qbe qqz))) n l0 n3 i4).symm
  rw [show (fun n3=>(qc 0 (qbe.cutb 0) (kSeq (evCP qbe (evLP qbe n) (sub qhK [1,1,1])) (kFnP qbe qqz))) (.exit 0) (frOf [(3,(.dat (.int .i64) n3 none))]))=(qdG n) from by
   funext n3
   exact qkf n n3]
  all_goals kernel_rfl]
 kernel_rfl
theorem qqB:qg G Tryz.prog 136 s_z136:=by
 refine sQ (E:=qbe) (c:=qhK) rfl (fun w S hg=>qd) Tryz.func136 (by kernel_rfl) (by kernel_rfl) (by kernel_rfl) ?_
 intro avs r h
 unfold s_z136 at h
 split at h
 ·simp only [Prod.mk.injEq] at h
  obtain ⟨hp,rfl⟩:=h
  obtain ⟨n,hn⟩:=qvU _ hp
  exact ⟨n,_,(qCz n _ _).trans hn,.inl rfl⟩
 ·cases h
noncomputable def E_z90:EnvP:=eQ [(134,s_z134),(135,s_z135),(136,s_z136)] 32 (some [2]) (fun x=>if x=2 then some [3] else if x=6 then some [3,4,5] else none) (fun x=>if x=0 then some [3] else if x=1 then some [3] else if x=2 then some [4] else if x=3 then some [3,4,5] else none) nP
noncomputable def C_z90:Code:=cO Tryz.f90
noncomputable def R_z90:Array ResultVar:=Tryz.f90.results
theorem qui (K:Ex→Fr→Option AV):∀ (n:Nat) (l3:List Int),evLP E_z90 n (sub C_z90 [1,1,0,0,0]) K (frOf [(3,(.dat (.sl (.int .i64)) l3 (some (3,3))))])=qkA (fun l3=>K (.exit 0) (frOf [(3,(.dat (.sl (.int .i64)) l3 (some (3,3))))])) n l3:=by
 intro n
 induction n with
 | zero=>intros; rfl
 | succ n IH =>
 intro l3
 have ih:(fun l3=>evLP E_z90 n (sub C_z90 [1,1,0,0,0]) K (frOf [(3,(.dat (.sl (.int .i64)) l3 (some (3,3))))]))=qkA (fun l3=>K (.exit 0) (frOf [(3,(.dat (.sl (.int .i64)) l3 (some (3,3))))])) n:=by
  funext l3
  exact IH l3
 show _=qhW (fun l3=>K (.exit 0) (frOf [(3,(.dat (.sl (.int .i64)) l3 (some (3,3))))])) (qkA (fun l3=>K (.exit 0) (frOf [(3,(.dat (.sl (.int .i64)) l3 (some (3,3))))])) n) n l3
 rw [← ih]
 kernel_rfl
theorem quj (K:Ex→Fr→Option AV):∀ (n:Nat) (l3:List Int) (out4:List UInt8) (i5:Int),evLP E_z90 n (sub C_z90 [1,1,1,1,0,1,0,0]) K (frOf [(3,(.dat (.sl (.int .i64)) l3 (some (3,3)))),(4,(.dat (.sl .byte) out4 (some (4,5)))),(5,(.dat (.int .i64) i5 none))])=qkB (fun out4=>K (.exit 2) (frOf [(4,(.dat (.sl .byte) out4 (some (4,5))))])) n l3 out4 i5:=by
 intro n
 induction n with
 | zero=>intros; rfl
 | succ n IH =>
 intro l3 out4 i5
 have ih:(fun l3 out4 i5=>evLP E_z90 n (sub C_z90 [1,1,1,1,0,1,0,0]) K (frOf [(3,(.dat (.sl (.int .i64)) l3 (some (3,3)))),(4,(.dat (.sl .byte) out4 (some (4,5)))),(5,(.dat (.int .i64) i5 none))]))=qkB (fun out4=>K (.exit 2) (frOf [(4,(.dat (.sl .byte) out4 (some (4,5))))])) n:=by
  funext l3 out4 i5
  exact IH l3 out4 i5
 show _=qep (fun out4=>K (.exit 2) (frOf [(4,(.dat (.sl .byte) out4 (some (4,5))))])) (qkB (fun out4=>K (.exit 2) (frOf [(4,(.dat (.sl .byte) out4 (some (4,5))))])) n) n l3 out4 i5
 rw [← ih]
 kernel_rfl
theorem qng (n:Nat) (out4:List UInt8):(qc 2 (E_z90.cutb 2) (kSeq (evCP E_z90 (evLP E_z90 n) (sub C_z90 [1,1,1,1,1])) (kFnP E_z90 R_z90))) (.exit 2) (frOf [(4,(.dat (.sl .byte) out4 (some (4,5))))])=qgi n out4:=by
 kernel_rfl
theorem qnh (n:Nat) (l3:List Int):(qc 0 (E_z90.cutb 0) (kSeq (evCP E_z90 (evLP E_z90 n) (sub C_z90 [1,1,1])) (kFnP E_z90 R_z90))) (.exit 0) (frOf [(3,(.dat (.sl (.int .i64)) l3 (some (3,3))))])=qbA n l3:=by
 unfold qbA
 rw [show qkB (qgi n) n=(fun l3 out4 i5=>evLP E_z90 n (sub C_z90 [1,1,1,1,0,1,0,0]) (qc 2 (E_z90.cutb 2) (kSeq (evCP E_z90 (evLP E_z90 n) (sub C_z90 [1,1,1,1,1])) (kFnP E_z90 R_z90))) (frOf [(3,(.dat (.sl (.int .i64)) l3 (some (3,3)))),(4,(.dat (.sl .byte) out4 (some (4,5)))),(5,(.dat (.int .i64) i5 none))])) from by
  funext l3 out4 i5
  refine Eq.trans ?_ (quj (qc 2 (E_z90.cutb 2) (kSeq (evCP E_z90 (evLP E_z90 n) (sub C_z90 [1,1,1,1,1])) (kFnP E_z90 R_z90))) n l3 out4 i5).symm
  rw [show (fun out4=>(qc 2 (E_z90.cutb 2) (kSeq (evCP E_z90 (evLP E_z90 n) (sub C_z90 [1,1,1,1,1])) (kFnP E_z90 R_z90))) (.exit 2) (frOf [(4,(.dat (.sl .byte) out4 (some (4,5))))]))=(qgi n) from by
   funext out4
   exact qng n out4]
  all_goals kernel_rfl]
 kernel_rfl
theorem qEM (n:Nat) (s0:List UInt8) (o0:Lab):evFnP E_z90 n C_z90 R_z90 [.dat (.sl .byte) s0 o0]=qvj n s0:=by
 unfold qvj
 rw [show qkA (qbA n) n=(fun l3=>evLP E_z90 n (sub C_z90 [1,1,0,0,0]) (qc 0 (E_z90.cutb 0) (kSeq (evCP E_z90 (evLP E_z90 n) (sub C_z90 [1,1,1])) (kFnP E_z90 R_z90))) (frOf [(3,(.dat (.sl (.int .i64)) l3 (some (3,3))))])) from by
  funext l3
  refine Eq.trans ?_ (qui (qc 0 (E_z90.cutb 0) (kSeq (evCP E_z90 (evLP E_z90 n) (sub C_z90 [1,1,1])) (kFnP E_z90 R_z90))) n l3).symm
  rw [show (fun l3=>(qc 0 (E_z90.cutb 0) (kSeq (evCP E_z90 (evLP E_z90 n) (sub C_z90 [1,1,1])) (kFnP E_z90 R_z90))) (.exit 0) (frOf [(3,(.dat (.sl (.int .i64)) l3 (some (3,3))))]))=(qbA n) from by
   funext l3
   exact qnh n l3]
  all_goals kernel_rfl]
 kernel_rfl
theorem quk:qg G Tryz.prog 90 s_z90:=by
 refine sQ (E:=E_z90) (c:=C_z90) rfl (fun w S hg=>(qb (qqx w S hg) (qb (qqy w S hg) (qb (qqB w S hg) qd)))) Tryz.func90 (by kernel_rfl) (by kernel_rfl) (by kernel_rfl) ?_
 intro avs r h
 unfold s_z90 at h
 split at h
 ·simp only [Prod.mk.injEq] at h
  obtain ⟨hp,rfl⟩:=h
  obtain ⟨n,hn⟩:=qzx _ hp
  exact ⟨n,_,(qEM n _ _).trans hn,.inl rfl⟩
 ·cases h
noncomputable def E_z49:EnvP:=eQ [(90,s_z90)] 14 (some [2]) (fun x=>if x=2 then some [3] else none) (fun x=>if x=0 then some [3] else if x=1 then some [3] else none) nP
noncomputable def C_z49:Code:=cO Tryz.f49
noncomputable def R_z49:Array ResultVar:=Tryz.f49.results
theorem qul (K:Ex→Fr→Option AV):∀ (n:Nat) (out3:List UInt8),evLP E_z49 n (sub C_z49 [1,1,0,0,0]) K (frOf [(3,(.dat (.sl .byte) out3 (some (3,5))))])=qkC (fun out3=>K (.exit 0) (frOf [(3,(.dat (.sl .byte) out3 (some (3,5))))])) n out3:=by
 intro n
 induction n with
 | zero=>intros; rfl
 | succ n IH =>
 intro out3
 have ih:(fun out3=>evLP E_z49 n (sub C_z49 [1,1,0,0,0]) K (frOf [(3,(.dat (.sl .byte) out3 (some (3,5))))]))=qkC (fun out3=>K (.exit 0) (frOf [(3,(.dat (.sl .byte) out3 (some (3,5))))])) n:=by
  funext out3
  exact IH out3
 show _=qhX (fun out3=>K (.exit 0) (frOf [(3,(.dat (.sl .byte) out3 (some (3,5))))])) (qkC (fun out3=>K (.exit 0) (frOf [(3,(.dat (.sl .byte) out3 (some (3,5))))])) n) n out3
 rw [← ih]
 kernel_rfl
theorem qni (n:Nat) (out3:List UInt8):(qc 0 (E_z49.cutb 0) (kSeq (evCP E_z49 (evLP E_z49 n) (sub C_z49 [1,1,1])) (kFnP E_z49 R_z49))) (.exit 0) (frOf [(3,(.dat (.sl .byte) out3 (some (3,5))))])=qeq n out3:=by
 kernel_rfl
theorem qEN (n:Nat) (s0:List UInt8) (o0:Lab):evFnP E_z49 n C_z49 R_z49 [.dat (.sl .byte) s0 o0]=qvk n s0:=by
 unfold qvk
 rw [show qkC (qeq n) n=(fun out3=>evLP E_z49 n (sub C_z49 [1,1,0,0,0]) (qc 0 (E_z49.cutb 0) (kSeq (evCP E_z49 (evLP E_z49 n) (sub C_z49 [1,1,1])) (kFnP E_z49 R_z49))) (frOf [(3,(.dat (.sl .byte) out3 (some (3,5))))])) from by
  funext out3
  refine Eq.trans ?_ (qul (qc 0 (E_z49.cutb 0) (kSeq (evCP E_z49 (evLP E_z49 n) (sub C_z49 [1,1,1])) (kFnP E_z49 R_z49))) n out3).symm
  rw [show (fun out3=>(qc 0 (E_z49.cutb 0) (kSeq (evCP E_z49 (evLP E_z49 n) (sub C_z49 [1,1,1])) (kFnP E_z49 R_z49))) (.exit 0) (frOf [(3,(.dat (.sl .byte) out3 (some (3,5))))]))=(qeq n) from by
   funext out3
   exact qni n out3]
  all_goals kernel_rfl]
 kernel_rfl
theorem qum:qg G Tryz.prog 49 s_z49:=by
 refine sQ (E:=E_z49) (c:=C_z49) rfl (fun w S hg=>(qb (quk w S hg) qd)) Tryz.func49 (by kernel_rfl) (by kernel_rfl) (by kernel_rfl) ?_
 intro avs r h
 unfold s_z49 at h
 split at h
 ·simp only [Prod.mk.injEq] at h
  obtain ⟨hp,rfl⟩:=h
  obtain ⟨n,hn⟩:=qzz _ hp
  exact ⟨n,_,(qEN n _ _).trans hn,.inl rfl⟩
 ·cases h
noncomputable def qbf:EnvP:=eQ [] 17 (some [4]) (fun x=>if x=2 then some [0,1,5] else none) (fun x=>if x=0 then some [] else if x=1 then some [0,1,5] else none) nP
noncomputable def qhL:Code:=cO Tryz.f179
noncomputable def qqC:Array ResultVar:=Tryz.f179.results
theorem qqD (K:Ex→Fr→Option AV):∀ (n:Nat) (s0:List UInt8) (c1:UInt8) (i5:Int),evLP qbf n (sub qhL [1,0,1,0,0]) K (frOf [(0,(.dat .str s0 none)),(1,(.dat .byte c1 none)),(5,(.dat (.int .i64) i5 none))])=qdH (fun s4=>K .ret (frOf [(4,(.dat .bool s4 none))])) (K (.exit 0) (frOf [])) n s0 c1 i5:=by
 intro n
 induction n with
 | zero=>intros; rfl
 | succ n IH =>
 intro s0 c1 i5
 have ih:(fun s0 c1 i5=>evLP qbf n (sub qhL [1,0,1,0,0]) K (frOf [(0,(.dat .str s0 none)),(1,(.dat .byte c1 none)),(5,(.dat (.int .i64) i5 none))]))=qdH (fun s4=>K .ret (frOf [(4,(.dat .bool s4 none))])) (K (.exit 0) (frOf [])) n:=by
  funext s0 c1 i5
  exact IH s0 c1 i5
 show _=qcr (fun s4=>K .ret (frOf [(4,(.dat .bool s4 none))])) (K (.exit 0) (frOf [])) (qdH (fun s4=>K .ret (frOf [(4,(.dat .bool s4 none))])) (K (.exit 0) (frOf [])) n) n s0 c1 i5
 rw [← ih]
 kernel_rfl
theorem qkg (n:Nat)  : (qc 0 (qbf.cutb 0) (kSeq (evCP qbf (evLP qbf n) (sub qhL [1,1])) (kFnP qbf qqC))) (.exit 0) (frOf [])=qdI n  := by
 kernel_rfl
theorem qCA (n:Nat) (s0:List UInt8) (o0:Lab) (c1:UInt8) (o1:Lab):evFnP qbf n qhL qqC [.dat .str s0 o0,.dat .byte c1 o1]=qje n s0 c1:=by
 unfold qje
 rw [show qdH qer (qdI n) n=(fun s0 c1 i5=>evLP qbf n (sub qhL [1,0,1,0,0]) (qc 0 (qbf.cutb 0) (kSeq (evCP qbf (evLP qbf n) (sub qhL [1,1])) (kFnP qbf qqC))) (frOf [(0,(.dat .str s0 none)),(1,(.dat .byte c1 none)),(5,(.dat (.int .i64) i5 none))])) from by
  funext s0 c1 i5
  refine Eq.trans ?_ (qqD (qc 0 (qbf.cutb 0) (kSeq (evCP qbf (evLP qbf n) (sub qhL [1,1])) (kFnP qbf qqC))) n s0 c1 i5).symm
  rw [show ((qc 0 (qbf.cutb 0) (kSeq (evCP qbf (evLP qbf n) (sub qhL [1,1])) (kFnP qbf qqC))) (.exit 0) (frOf []))=(qdI n) from by
   exact qkg n ]
  all_goals kernel_rfl]
 kernel_rfl
theorem qqE:qg G Tryz.prog 179 s_z179:=by
 refine sQ (E:=qbf) (c:=qhL) rfl (fun w S hg=>qd) Tryz.func179 (by kernel_rfl) (by kernel_rfl) (by kernel_rfl) ?_
 intro avs r h
 unfold s_z179 at h
 split at h
 ·simp only [Prod.mk.injEq] at h
  obtain ⟨hp,rfl⟩:=h
  obtain ⟨n,hn⟩:=qvE _ _ hp
  exact ⟨n,_,(qCA n _ _ _ _).trans hn,.inl rfl⟩
 ·cases h
noncomputable def qaG:EnvP:=eQ [(179,s_z179)] 104 (some [2]) nC nC nP
noncomputable def qaH:Code:=cO Tryz.f128
noncomputable def qaM:Array ResultVar:=Tryz.f128.results
def resI:Option AV→Int→Bool
 | some (.dat (.int .i64) x none),v=>x==v
 | _,_=>false
theorem qCB {o:Option AV} {v:Int} (h:resI o v=true):o=some (.dat (.int .i64) v none):=by
 unfold resI at h
 split at h
 ·simp only [beq_iff_eq] at h
  subst h
  rfl
 ·cases h
theorem qEO:∀ i:Fin 16,resI (evFnP qaG 1 qaH qaM [.dat .byte (UInt8.ofNat (0+i.val)) none]) (z128 (UInt8.ofNat (0+i.val)))=true:=by decide +kernel
theorem qEP:∀ i:Fin 16,resI (evFnP qaG 1 qaH qaM [.dat .byte (UInt8.ofNat (16+i.val)) none]) (z128 (UInt8.ofNat (16+i.val)))=true:=by decide +kernel
theorem qEQ:∀ i:Fin 16,resI (evFnP qaG 1 qaH qaM [.dat .byte (UInt8.ofNat (32+i.val)) none]) (z128 (UInt8.ofNat (32+i.val)))=true:=by decide +kernel
theorem qER:∀ i:Fin 16,resI (evFnP qaG 1 qaH qaM [.dat .byte (UInt8.ofNat (48+i.val)) none]) (z128 (UInt8.ofNat (48+i.val)))=true:=by decide +kernel
theorem qES:∀ i:Fin 16,resI (evFnP qaG 1 qaH qaM [.dat .byte (UInt8.ofNat (64+i.val)) none]) (z128 (UInt8.ofNat (64+i.val)))=true:=by decide +kernel
theorem qET:∀ i:Fin 16,resI (evFnP qaG 1 qaH qaM [.dat .byte (UInt8.ofNat (80+i.val)) none]) (z128 (UInt8.ofNat (80+i.val)))=true:=by decide +kernel
theorem qEU:∀ i:Fin 16,resI (evFnP qaG 1 qaH qaM [.dat .byte (UInt8.ofNat (96+i.val)) none]) (z128 (UInt8.ofNat (96+i.val)))=true:=by decide +kernel
theorem qEV:∀ i:Fin 16,resI (evFnP qaG 1 qaH qaM [.dat .byte (UInt8.ofNat (112+i.val)) none]) (z128 (UInt8.ofNat (112+i.val)))=true:=by decide +kernel
theorem qEW:∀ i:Fin 16,resI (evFnP qaG 1 qaH qaM [.dat .byte (UInt8.ofNat (128+i.val)) none]) (z128 (UInt8.ofNat (128+i.val)))=true:=by decide +kernel
theorem qEX:∀ i:Fin 16,resI (evFnP qaG 1 qaH qaM [.dat .byte (UInt8.ofNat (144+i.val)) none]) (z128 (UInt8.ofNat (144+i.val)))=true:=by decide +kernel
theorem qCC:∀ i:Fin 16,resI (evFnP qaG 1 qaH qaM [.dat .byte (UInt8.ofNat (160+i.val)) none]) (z128 (UInt8.ofNat (160+i.val)))=true:=by decide +kernel
theorem qCD:∀ i:Fin 16,resI (evFnP qaG 1 qaH qaM [.dat .byte (UInt8.ofNat (176+i.val)) none]) (z128 (UInt8.ofNat (176+i.val)))=true:=by decide +kernel
theorem qCE:∀ i:Fin 16,resI (evFnP qaG 1 qaH qaM [.dat .byte (UInt8.ofNat (192+i.val)) none]) (z128 (UInt8.ofNat (192+i.val)))=true:=by decide +kernel
theorem qCF:∀ i:Fin 16,resI (evFnP qaG 1 qaH qaM [.dat .byte (UInt8.ofNat (208+i.val)) none]) (z128 (UInt8.ofNat (208+i.val)))=true:=by decide +kernel
theorem qCG:∀ i:Fin 16,resI (evFnP qaG 1 qaH qaM [.dat .byte (UInt8.ofNat (224+i.val)) none]) (z128 (UInt8.ofNat (224+i.val)))=true:=by decide +kernel
theorem qCH:∀ i:Fin 16,resI (evFnP qaG 1 qaH qaM [.dat .byte (UInt8.ofNat (240+i.val)) none]) (z128 (UInt8.ofNat (240+i.val)))=true:=by decide +kernel
theorem qxM:∀ i:Fin 256,resI (evFnP qaG 1 qaH qaM [.dat .byte (UInt8.ofNat (i.val)) none]) (z128 (UInt8.ofNat (i.val)))=true:=fun ⟨i,hi⟩=>by
 rcases (show i / 16=0∨i / 16=1∨i / 16=2∨i / 16=3∨i / 16=4∨i / 16=5∨i / 16=6∨i / 16=7∨i / 16=8∨i / 16=9∨i / 16=10∨i / 16=11∨i / 16=12∨i / 16=13∨i / 16=14∨i / 16=15 by omega) with e | e | e | e | e | e | e | e | e | e | e | e | e | e | e | e
 ·have h:=qEO ⟨i - 0,by omega⟩
  have e2:0+(i - 0)=i:=by omega
  simp only [e2] at h
  exact h
 ·have h:=qEP ⟨i - 16,by omega⟩
  have e2:16+(i - 16)=i:=by omega
  simp only [e2] at h
  exact h
 ·have h:=qEQ ⟨i - 32,by omega⟩
  have e2:32+(i - 32)=i:=by omega
  simp only [e2] at h
  exact h
 ·have h:=qER ⟨i - 48,by omega⟩
  have e2:48+(i - 48)=i:=by omega
  simp only [e2] at h
  exact h
 ·have h:=qES ⟨i - 64,by omega⟩
  have e2:64+(i - 64)=i:=by omega
  simp only [e2] at h
  exact h
 ·have h:=qET ⟨i - 80,by omega⟩
  have e2:80+(i - 80)=i:=by omega
  simp only [e2] at h
  exact h
 ·have h:=qEU ⟨i - 96,by omega⟩
  have e2:96+(i - 96)=i:=by omega
  simp only [e2] at h
  exact h
 ·have h:=qEV ⟨i - 112,by omega⟩
  have e2:112+(i - 112)=i:=by omega
  simp only [e2] at h
  exact h
 ·have h:=qEW ⟨i - 128,by omega⟩
  have e2:128+(i - 128)=i:=by omega
  simp only [e2] at h
  exact h
 ·have h:=qEX ⟨i - 144,by omega⟩
  have e2:144+(i - 144)=i:=by omega
  simp only [e2] at h
  exact h
 ·have h:=qCC ⟨i - 160,by omega⟩
  have e2:160+(i - 160)=i:=by omega
  simp only [e2] at h
  exact h
 ·have h:=qCD ⟨i - 176,by omega⟩
  have e2:176+(i - 176)=i:=by omega
  simp only [e2] at h
  exact h
 ·have h:=qCE ⟨i - 192,by omega⟩
  have e2:192+(i - 192)=i:=by omega
  simp only [e2] at h
  exact h
 ·have h:=qCF ⟨i - 208,by omega⟩
  have e2:208+(i - 208)=i:=by omega
  simp only [e2] at h
  exact h
 ·have h:=qCG ⟨i - 224,by omega⟩
  have e2:224+(i - 224)=i:=by omega
  simp only [e2] at h
  exact h
 ·have h:=qCH ⟨i - 240,by omega⟩
  have e2:240+(i - 240)=i:=by omega
  simp only [e2] at h
  exact h
theorem qCI (c:UInt8) (o:Lab):evFnP qaG 1 qaH qaM [.dat .byte c o]=some (.dat (.int .i64) (z128 c) none):=by
 have h:resI (evFnP qaG 1 qaH qaM [.dat .byte c none]) (z128 c)=true:=qEY (P:=fun c=>resI (evFnP qaG 1 qaH qaM [.dat .byte c none]) (z128 c)=true) qxM c
 have e:evFnP qaG 1 qaH qaM [.dat .byte c o]=evFnP qaG 1 qaH qaM [.dat .byte c none]:=by
  unfold evFnP
  have:(fun t=>(([.dat .byte c o]:List AV).getD t .bad).strip)=fun t=>(([.dat .byte c none]:List AV).getD t .bad).strip:=by
   funext t
   match t with
   | 0=>rfl
   | t+1=>rfl
  rw [this]
  rfl
 rw [e]
 exact qCB h
theorem qqF:qg G Tryz.prog 128 s_z128:=by
 refine qO G_stays (E:=qaG) (fn:=Tryz.f128) (c:=qaH) (qp rfl qea) (fun w S hg=>⟨⟨(qb (qqE w S hg) qd),fun f sp h=>qbB f sp h w S⟩,qbH w S hg,(fun _ _ h=>by cases h),(fun _ _ h=>by cases h),(fun _ _ h=>by cases h),(fun t kt vt h=>qbL t kt vt h)⟩) follows Tryz.func128 (by kernel_rfl) (by kernel_rfl) (by kernel_rfl) ?_
 intro avs r h
 unfold s_z128 at h
 split at h
 ·simp only [Prod.mk.injEq,true_and] at h
  subst h
  exact ⟨1,_,qCI _ _,.inl rfl⟩
 ·cases h
end Go.Av
