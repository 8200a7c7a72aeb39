import Derived.Test.YtopepdfipgfakaaGreatDoorEfEvB
import Derived.Test.YtopepdfipgfakaaGreatDoorEfLayX
import Derived.Test.YtopepdfipgfakaaGreatDoorProg
import Derived.KernelRfl
namespace Go.Av
set_option linter.unusedSimpArgs false
open Go.Proofs
set_option maxRecDepth 100000
set_option linter.unusedVariables false
noncomputable def E_z46:EnvP:=eQ [(83,s_z83),(84,s_z84),(85,s_z85)] 34 (some [2]) (fun x=>if x=3 then some [3,9,10,11] else none) (fun x=>if x=0 then some [3] else if x=1 then some [3,9,10,11] else if x=2 then some [3,9,10,11] else none) nP
noncomputable def C_z46:Code:=cO Tryz.f46
noncomputable def R_z46:Array ResultVar:=Tryz.f46.results
theorem qtJ (K:Ex→Fr→Option AV):∀ (n:Nat) (out3:List UInt8) (s9:List UInt8) (s10:Int) (s11:Int),evLP E_z46 n (sub C_z46 [1,1,0,1,0,0]) K (frOf [(3,(.dat (.sl .byte) out3 (some (3,5)))),(9,(.dat (.sl .byte) s9 none)),(10,(.dat (.int .i64) s10 none)),(11,(.dat (.int .i64) s11 none))])=qko (fun out3=>K (.exit 0) (frOf [(3,(.dat (.sl .byte) out3 (some (3,5))))])) n out3 s9 s10 s11:=by
 intro n
 induction n with
 | zero=>intros; rfl
 | succ n IH =>
 intro out3 s9 s10 s11
 have ih:(fun out3 s9 s10 s11=>evLP E_z46 n (sub C_z46 [1,1,0,1,0,0]) K (frOf [(3,(.dat (.sl .byte) out3 (some (3,5)))),(9,(.dat (.sl .byte) s9 none)),(10,(.dat (.int .i64) s10 none)),(11,(.dat (.int .i64) s11 none))]))=qko (fun out3=>K (.exit 0) (frOf [(3,(.dat (.sl .byte) out3 (some (3,5))))])) n:=by
  funext out3 s9 s10 s11
  exact IH out3 s9 s10 s11
 show _=qeg (fun out3=>K (.exit 0) (frOf [(3,(.dat (.sl .byte) out3 (some (3,5))))])) (qko (fun out3=>K (.exit 0) (frOf [(3,(.dat (.sl .byte) out3 (some (3,5))))])) n) n out3 s9 s10 s11
 rw [← ih]
 kernel_rfl
theorem qmW (n:Nat) (out3:List UInt8):(qc 0 (E_z46.cutb 0) (kSeq (evCP E_z46 (evLP E_z46 n) (sub C_z46 [1,1,1])) (kFnP E_z46 R_z46))) (.exit 0) (frOf [(3,(.dat (.sl .byte) out3 (some (3,5))))])=qfU n out3:=by
 kernel_rfl
theorem qDW (n:Nat) (s0:List UInt8) (o0:Lab):evFnP E_z46 n C_z46 R_z46 [.dat (.sl .byte) s0 o0]=qvc n s0:=by
 unfold qvc
 rw [show qko (qfU n) n=(fun out3 s9 s10 s11=>evLP E_z46 n (sub C_z46 [1,1,0,1,0,0]) (qc 0 (E_z46.cutb 0) (kSeq (evCP E_z46 (evLP E_z46 n) (sub C_z46 [1,1,1])) (kFnP E_z46 R_z46))) (frOf [(3,(.dat (.sl .byte) out3 (some (3,5)))),(9,(.dat (.sl .byte) s9 none)),(10,(.dat (.int .i64) s10 none)),(11,(.dat (.int .i64) s11 none))])) from by
  funext out3 s9 s10 s11
  refine Eq.trans ?_ (qtJ (qc 0 (E_z46.cutb 0) (kSeq (evCP E_z46 (evLP E_z46 n) (sub C_z46 [1,1,1])) (kFnP E_z46 R_z46))) n out3 s9 s10 s11).symm
  rw [show (fun out3=>(qc 0 (E_z46.cutb 0) (kSeq (evCP E_z46 (evLP E_z46 n) (sub C_z46 [1,1,1])) (kFnP E_z46 R_z46))) (.exit 0) (frOf [(3,(.dat (.sl .byte) out3 (some (3,5))))]))=(qfU n) from by
   funext out3
   exact qmW n out3]
  all_goals kernel_rfl]
 kernel_rfl
theorem qtK:qg G Tryz.prog 46 s_z46:=by
 refine sQ (E:=E_z46) (c:=C_z46) rfl (fun w S hg=>(qb (qtH w S hg) (qb (qlA w S hg) (qb (qtI w S hg) qd)))) Tryz.func46 (by kernel_rfl) (by kernel_rfl) (by kernel_rfl) ?_
 intro avs r h
 unfold s_z46 at h
 split at h
 ·simp only [Prod.mk.injEq] at h
  obtain ⟨hp,rfl⟩:=h
  obtain ⟨n,hn⟩:=qyp _ hp
  exact ⟨n,_,(qDW n _ _).trans hn,.inl rfl⟩
 ·cases h
noncomputable def qAZ:EnvP:=eQ [] 6 (some [2]) nC nC nP
noncomputable def qBa:Code:=cO Tryz.f132
noncomputable def qDX:Array ResultVar:=Tryz.f132.results
theorem qBb (n:Nat) (n0:Int) (o0:Lab):evFnP qAZ n qBa qDX [.dat (.int .i64) n0 o0]=qrr n n0:=by
 kernel_rfl
theorem qpr:qg G Tryz.prog 132 s_z132:=by
 refine sQ (E:=qAZ) (c:=qBa) rfl (fun w S hg=>qd) Tryz.func132 (by kernel_rfl) (by kernel_rfl) (by kernel_rfl) ?_
 intro avs r h
 unfold s_z132 at h
 split at h
 ·simp only [Prod.mk.injEq,true_and] at h
  subst h
  obtain ⟨n,hn⟩:=quD _
  exact ⟨n,_,(qBb n _ _).trans hn,.inl rfl⟩
 ·cases h
noncomputable def E_z88:EnvP:=eQ [(132,s_z132)] 49 (some [2]) (fun x=>if x=4 then some [3,4,5,8,9,10] else if x=8 then some [3,4,5,8,9,10] else none) (fun x=>if x=0 then some [3,4,5] else if x=1 then some [3,4,5,8,9,10] else if x=2 then some [3,4,5,8,9,10] else if x=3 then some [3,4,5,8,9,10] else none) nP
noncomputable def C_z88:Code:=cO Tryz.f88
noncomputable def R_z88:Array ResultVar:=Tryz.f88.results
theorem qtL (K:Ex→Fr→Option AV):∀ (n:Nat) (out3:List UInt8) (held4:Int) (many5:Int) (s8:List UInt8) (s9:Int) (s10:Int),evLP E_z88 n (sub C_z88 [1,1,1,0,1,0,0,1,1,0,0,1,1,1,0,0,0]) K (frOf [(3,(.dat (.sl .byte) out3 (some (3,5)))),(4,(.dat (.int .i64) held4 none)),(5,(.dat (.int .i64) many5 none)),(8,(.dat (.sl .byte) s8 none)),(9,(.dat (.int .i64) s9 none)),(10,(.dat (.int .i64) s10 none))])=qeh (fun out3 held4 many5 s8 s9 s10=>K (.exit 2) (frOf [(3,(.dat (.sl .byte) out3 (some (3,5)))),(4,(.dat (.int .i64) held4 none)),(5,(.dat (.int .i64) many5 none)),(8,(.dat (.sl .byte) s8 none)),(9,(.dat (.int .i64) s9 none)),(10,(.dat (.int .i64) s10 none))])) n out3 held4 many5 s8 s9 s10:=by
 intro n
 induction n with
 | zero=>intros; rfl
 | succ n IH =>
 intro out3 held4 many5 s8 s9 s10
 have ih:(fun out3 held4 many5 s8 s9 s10=>evLP E_z88 n (sub C_z88 [1,1,1,0,1,0,0,1,1,0,0,1,1,1,0,0,0]) K (frOf [(3,(.dat (.sl .byte) out3 (some (3,5)))),(4,(.dat (.int .i64) held4 none)),(5,(.dat (.int .i64) many5 none)),(8,(.dat (.sl .byte) s8 none)),(9,(.dat (.int .i64) s9 none)),(10,(.dat (.int .i64) s10 none))]))=qeh (fun out3 held4 many5 s8 s9 s10=>K (.exit 2) (frOf [(3,(.dat (.sl .byte) out3 (some (3,5)))),(4,(.dat (.int .i64) held4 none)),(5,(.dat (.int .i64) many5 none)),(8,(.dat (.sl .byte) s8 none)),(9,(.dat (.int .i64) s9 none)),(10,(.dat (.int .i64) s10 none))])) n:=by
  funext out3 held4 many5 s8 s9 s10
  exact IH out3 held4 many5 s8 s9 s10
 show _=qrs (fun out3 held4 many5 s8 s9 s10=>K (.exit 2) (frOf [(3,(.dat (.sl .byte) out3 (some (3,5)))),(4,(.dat (.int .i64) held4 none)),(5,(.dat (.int .i64) many5 none)),(8,(.dat (.sl .byte) s8 none)),(9,(.dat (.int .i64) s9 none)),(10,(.dat (.int .i64) s10 none))])) (qeh (fun out3 held4 many5 s8 s9 s10=>K (.exit 2) (frOf [(3,(.dat (.sl .byte) out3 (some (3,5)))),(4,(.dat (.int .i64) held4 none)),(5,(.dat (.int .i64) many5 none)),(8,(.dat (.sl .byte) s8 none)),(9,(.dat (.int .i64) s9 none)),(10,(.dat (.int .i64) s10 none))])) n) n out3 held4 many5 s8 s9 s10
 rw [← ih]
 kernel_rfl
theorem qmX (K:Ex→Fr→Option AV) (n:Nat) (out3:List UInt8) (held4:Int) (many5:Int) (s8:List UInt8) (s9:Int) (s10:Int):(qc 2 (E_z88.cutb 2) (kSeq (evCP E_z88 (evLP E_z88 n) (sub C_z88 [1,1,1,0,1,0,0,1,1,0,0,1,1,1,1])) (qc 1 (E_z88.cutb 1) (kSeq (evCP E_z88 (evLP E_z88 n) (sub C_z88 [1,1,1,0,1,0,0,1,1,1])) (kSeq (fun K fr=>evLP E_z88 n (sub C_z88 [1,1,1,0,1,0,0]) K (cutFP (E_z88.cuts 4) fr)) K))))) (.exit 2) (frOf [(3,(.dat (.sl .byte) out3 (some (3,5)))),(4,(.dat (.int .i64) held4 none)),(5,(.dat (.int .i64) many5 none)),(8,(.dat (.sl .byte) s8 none)),(9,(.dat (.int .i64) s9 none)),(10,(.dat (.int .i64) s10 none))])=qbY (fun out3 held4 many5=>K (.exit 0) (frOf [(3,(.dat (.sl .byte) out3 (some (3,5)))),(4,(.dat (.int .i64) held4 none)),(5,(.dat (.int .i64) many5 none))])) (fun out3 held4 many5 s8 s9 s10=>evLP E_z88 n (sub C_z88 [1,1,1,0,1,0,0]) K (frOf [(3,(.dat (.sl .byte) out3 (some (3,5)))),(4,(.dat (.int .i64) held4 none)),(5,(.dat (.int .i64) many5 none)),(8,(.dat (.sl .byte) s8 none)),(9,(.dat (.int .i64) s9 none)),(10,(.dat (.int .i64) s10 none))])) n out3 held4 many5 s8 s9 s10:=by
 kernel_rfl
theorem qtM (K:Ex→Fr→Option AV):∀ (n:Nat) (out3:List UInt8) (held4:Int) (many5:Int) (s8:List UInt8) (s9:Int) (s10:Int),evLP E_z88 n (sub C_z88 [1,1,1,0,1,0,0]) K (frOf [(3,(.dat (.sl .byte) out3 (some (3,5)))),(4,(.dat (.int .i64) held4 none)),(5,(.dat (.int .i64) many5 none)),(8,(.dat (.sl .byte) s8 none)),(9,(.dat (.int .i64) s9 none)),(10,(.dat (.int .i64) s10 none))])=qkp (fun out3 held4 many5=>K (.exit 0) (frOf [(3,(.dat (.sl .byte) out3 (some (3,5)))),(4,(.dat (.int .i64) held4 none)),(5,(.dat (.int .i64) many5 none))])) n out3 held4 many5 s8 s9 s10:=by
 intro n
 induction n with
 | zero=>intros; rfl
 | succ n IH =>
 intro out3 held4 many5 s8 s9 s10
 have ih:(fun out3 held4 many5 s8 s9 s10=>evLP E_z88 n (sub C_z88 [1,1,1,0,1,0,0]) K (frOf [(3,(.dat (.sl .byte) out3 (some (3,5)))),(4,(.dat (.int .i64) held4 none)),(5,(.dat (.int .i64) many5 none)),(8,(.dat (.sl .byte) s8 none)),(9,(.dat (.int .i64) s9 none)),(10,(.dat (.int .i64) s10 none))]))=qkp (fun out3 held4 many5=>K (.exit 0) (frOf [(3,(.dat (.sl .byte) out3 (some (3,5)))),(4,(.dat (.int .i64) held4 none)),(5,(.dat (.int .i64) many5 none))])) n:=by
  funext out3 held4 many5 s8 s9 s10
  exact IH out3 held4 many5 s8 s9 s10
 show _=qcN (fun out3 held4 many5=>K (.exit 0) (frOf [(3,(.dat (.sl .byte) out3 (some (3,5)))),(4,(.dat (.int .i64) held4 none)),(5,(.dat (.int .i64) many5 none))])) (qkp (fun out3 held4 many5=>K (.exit 0) (frOf [(3,(.dat (.sl .byte) out3 (some (3,5)))),(4,(.dat (.int .i64) held4 none)),(5,(.dat (.int .i64) many5 none))])) n) n out3 held4 many5 s8 s9 s10
 rw [← ih]
 unfold qcN
 rw [show qeh (qbY (fun out3 held4 many5=>K (.exit 0) (frOf [(3,(.dat (.sl .byte) out3 (some (3,5)))),(4,(.dat (.int .i64) held4 none)),(5,(.dat (.int .i64) many5 none))])) (fun out3 held4 many5 s8 s9 s10=>evLP E_z88 n (sub C_z88 [1,1,1,0,1,0,0]) K (frOf [(3,(.dat (.sl .byte) out3 (some (3,5)))),(4,(.dat (.int .i64) held4 none)),(5,(.dat (.int .i64) many5 none)),(8,(.dat (.sl .byte) s8 none)),(9,(.dat (.int .i64) s9 none)),(10,(.dat (.int .i64) s10 none))])) n) n=(fun out3 held4 many5 s8 s9 s10=>evLP E_z88 n (sub C_z88 [1,1,1,0,1,0,0,1,1,0,0,1,1,1,0,0,0]) (qc 2 (E_z88.cutb 2) (kSeq (evCP E_z88 (evLP E_z88 n) (sub C_z88 [1,1,1,0,1,0,0,1,1,0,0,1,1,1,1])) (qc 1 (E_z88.cutb 1) (kSeq (evCP E_z88 (evLP E_z88 n) (sub C_z88 [1,1,1,0,1,0,0,1,1,1])) (kSeq (fun K fr=>evLP E_z88 n (sub C_z88 [1,1,1,0,1,0,0]) K (cutFP (E_z88.cuts 4) fr)) K))))) (frOf [(3,(.dat (.sl .byte) out3 (some (3,5)))),(4,(.dat (.int .i64) held4 none)),(5,(.dat (.int .i64) many5 none)),(8,(.dat (.sl .byte) s8 none)),(9,(.dat (.int .i64) s9 none)),(10,(.dat (.int .i64) s10 none))])) from by
  funext out3 held4 many5 s8 s9 s10
  refine Eq.trans ?_ (qtL (qc 2 (E_z88.cutb 2) (kSeq (evCP E_z88 (evLP E_z88 n) (sub C_z88 [1,1,1,0,1,0,0,1,1,0,0,1,1,1,1])) (qc 1 (E_z88.cutb 1) (kSeq (evCP E_z88 (evLP E_z88 n) (sub C_z88 [1,1,1,0,1,0,0,1,1,1])) (kSeq (fun K fr=>evLP E_z88 n (sub C_z88 [1,1,1,0,1,0,0]) K (cutFP (E_z88.cuts 4) fr)) K))))) n out3 held4 many5 s8 s9 s10).symm
  rw [show (fun out3 held4 many5 s8 s9 s10=>(qc 2 (E_z88.cutb 2) (kSeq (evCP E_z88 (evLP E_z88 n) (sub C_z88 [1,1,1,0,1,0,0,1,1,0,0,1,1,1,1])) (qc 1 (E_z88.cutb 1) (kSeq (evCP E_z88 (evLP E_z88 n) (sub C_z88 [1,1,1,0,1,0,0,1,1,1])) (kSeq (fun K fr=>evLP E_z88 n (sub C_z88 [1,1,1,0,1,0,0]) K (cutFP (E_z88.cuts 4) fr)) K))))) (.exit 2) (frOf [(3,(.dat (.sl .byte) out3 (some (3,5)))),(4,(.dat (.int .i64) held4 none)),(5,(.dat (.int .i64) many5 none)),(8,(.dat (.sl .byte) s8 none)),(9,(.dat (.int .i64) s9 none)),(10,(.dat (.int .i64) s10 none))]))=(qbY (fun out3 held4 many5=>K (.exit 0) (frOf [(3,(.dat (.sl .byte) out3 (some (3,5)))),(4,(.dat (.int .i64) held4 none)),(5,(.dat (.int .i64) many5 none))])) (fun out3 held4 many5 s8 s9 s10=>evLP E_z88 n (sub C_z88 [1,1,1,0,1,0,0]) K (frOf [(3,(.dat (.sl .byte) out3 (some (3,5)))),(4,(.dat (.int .i64) held4 none)),(5,(.dat (.int .i64) many5 none)),(8,(.dat (.sl .byte) s8 none)),(9,(.dat (.int .i64) s9 none)),(10,(.dat (.int .i64) s10 none))])) n) from by
   funext out3 held4 many5 s8 s9 s10
   exact qmX K n out3 held4 many5 s8 s9 s10]
  all_goals kernel_rfl]
 kernel_rfl
theorem qmY (n:Nat) (out3:List UInt8) (held4:Int) (many5:Int):(qc 0 (E_z88.cutb 0) (kSeq (evCP E_z88 (evLP E_z88 n) (sub C_z88 [1,1,1,1])) (kFnP E_z88 R_z88))) (.exit 0) (frOf [(3,(.dat (.sl .byte) out3 (some (3,5)))),(4,(.dat (.int .i64) held4 none)),(5,(.dat (.int .i64) many5 none))])=qcO n out3 held4 many5:=by
 kernel_rfl
theorem qDY (n:Nat) (s0:List UInt8) (o0:Lab):evFnP E_z88 n C_z88 R_z88 [.dat (.sl .byte) s0 o0]=qvd n s0:=by
 unfold qvd
 rw [show qkp (qcO n) n=(fun out3 held4 many5 s8 s9 s10=>evLP E_z88 n (sub C_z88 [1,1,1,0,1,0,0]) (qc 0 (E_z88.cutb 0) (kSeq (evCP E_z88 (evLP E_z88 n) (sub C_z88 [1,1,1,1])) (kFnP E_z88 R_z88))) (frOf [(3,(.dat (.sl .byte) out3 (some (3,5)))),(4,(.dat (.int .i64) held4 none)),(5,(.dat (.int .i64) many5 none)),(8,(.dat (.sl .byte) s8 none)),(9,(.dat (.int .i64) s9 none)),(10,(.dat (.int .i64) s10 none))])) from by
  funext out3 held4 many5 s8 s9 s10
  refine Eq.trans ?_ (qtM (qc 0 (E_z88.cutb 0) (kSeq (evCP E_z88 (evLP E_z88 n) (sub C_z88 [1,1,1,1])) (kFnP E_z88 R_z88))) n out3 held4 many5 s8 s9 s10).symm
  rw [show (fun out3 held4 many5=>(qc 0 (E_z88.cutb 0) (kSeq (evCP E_z88 (evLP E_z88 n) (sub C_z88 [1,1,1,1])) (kFnP E_z88 R_z88))) (.exit 0) (frOf [(3,(.dat (.sl .byte) out3 (some (3,5)))),(4,(.dat (.int .i64) held4 none)),(5,(.dat (.int .i64) many5 none))]))=(qcO n) from by
   funext out3 held4 many5
   exact qmY n out3 held4 many5]
  all_goals kernel_rfl]
 kernel_rfl
theorem qtN:qg G Tryz.prog 88 s_z88:=by
 refine sQ (E:=E_z88) (c:=C_z88) rfl (fun w S hg=>(qb (qpr w S hg) qd)) Tryz.func88 (by kernel_rfl) (by kernel_rfl) (by kernel_rfl) ?_
 intro avs r h
 unfold s_z88 at h
 split at h
 ·simp only [Prod.mk.injEq] at h
  obtain ⟨hp,rfl⟩:=h
  obtain ⟨n,hn⟩:=qyh _ hp
  exact ⟨n,_,(qDY n _ _).trans hn,.inl rfl⟩
 ·cases h
theorem qtO:qg G Tryz.prog 47 s_z47:=fun w S hg vals avs r h hS ha=>by
 unfold s_z47 at h
 split at h
 ·rename_i s o
  simp only [Prod.mk.injEq] at h
  obtain ⟨hp,rfl⟩:=h
  obtain ⟨u,rfl,h1⟩:=args1 ha
  obtain ⟨A,cap,rfl,hcap,hA,hcA⟩:=qed h1
  have hent:(callFunc 47 #[.slice A (List.length s) cap]).run Tryz.prog w=.ok (.enter 47 #[.slice A (List.length s) cap]) w:=enters_of (c:=Tryz.f47.body.getD .skip) Tryz.func47 (by kernel_rfl) (by kernel_rfl) _ _
  refine .inl ⟨hent,(Go.Proofs.lay_walk (S:=S) (qo hp) ?_).mono ?_⟩
  ·intro w' hb
   have hk:Keeps w S w' S:=fun b o hs=>⟨hs,qh (hb.block b (hS b o hs)) o⟩
   have hS':∀ b o,S b o→b < w'.heap.size:=fun b o hs=>Nat.lt_of_lt_of_le (hS b o hs) hb.size
   rcases qtN w' S (G_stays w S w' S hk hg) [.slice A (List.length s) cap] [.dat (.sl .byte) s none] _ (show s_z88 _=(true,_) from Prod.ext hp rfl) hS' (qcb ((h1.keeps hk).relab none) (qib _ _)) with ⟨_,h2⟩ | ⟨v,w2,h2,_⟩
   ·refine h2.mono fun e w2 ⟨v,he,S2,g2,hr⟩=>?_
    obtain ⟨A',cap',rfl,_,hA',hc'⟩:=qed hr.rd
    refine ⟨A',cap',he,g2.below,hA',fun ad ha' i x hx=>?_⟩
    have hi:=(List.getElem?_eq_some_iff.1 hx).1
    have hx':(z88 s)[i]?=some x:=hx
    have:=hc' ad ha' i hi
    rw [List.getD_eq_getElem?_getD,List.getElem?_map,hx'] at this
    exact this
   ·exfalso
    have:(callFunc 88 #[.slice A (List.length s) cap]).run Tryz.prog w'=.ok (.enter 88 #[.slice A (List.length s) cap]) w':=enters_of (c:=Tryz.f88.body.getD .skip) Tryz.func88 (by kernel_rfl) (by kernel_rfl) _ _
    rw [this] at h2
    cases h2
  ·rintro e w' ⟨v,rfl,hf,hb⟩
   exact ⟨v,rfl,Go.Proofs.res_fresh hS hb hf⟩
 ·cases h
noncomputable def qBc:EnvP:=eQ [] 19 (some [2]) nC (fun x=>if x=0 then some [] else none) nP
noncomputable def qBd:Code:=cO Tryz.f133
noncomputable def qDZ:Array ResultVar:=Tryz.f133.results
theorem qBe (n:Nat) (charset0:Int) (o0:Lab):evFnP qBc n qBd qDZ [.dat (.int .i64) charset0 o0]=qrt n charset0:=by
 kernel_rfl
theorem qiJ:qg G Tryz.prog 133 s_z133:=by
 refine sQ (E:=qBc) (c:=qBd) rfl (fun w S hg=>qd) Tryz.func133 (by kernel_rfl) (by kernel_rfl) (by kernel_rfl) ?_
 intro avs r h
 unfold s_z133 at h
 split at h
 ·simp only [Prod.mk.injEq,true_and] at h
  subst h
  obtain ⟨n,hn⟩:=qvS _
  exact ⟨n,_,(qBe n _ _).trans hn,.inl rfl⟩
 ·cases h
noncomputable def E_z89:EnvP:=eQ [(133,s_z133)] 12 (some [2]) nC nC nP
noncomputable def C_z89:Code:=cO Tryz.f89
noncomputable def R_z89:Array ResultVar:=Tryz.f89.results
theorem qEa (n:Nat) (charset0:Int) (o0:Lab):evFnP E_z89 n C_z89 R_z89 [.dat (.int .i64) charset0 o0]=qyE n charset0:=by
 kernel_rfl
theorem qtP:qg G Tryz.prog 89 s_z89:=by
 refine sQ (E:=E_z89) (c:=C_z89) rfl (fun w S hg=>(qb (qiJ w S hg) qd)) Tryz.func89 (by kernel_rfl) (by kernel_rfl) (by kernel_rfl) ?_
 intro avs r h
 unfold s_z89 at h
 split at h
 ·simp only [Prod.mk.injEq,true_and] at h
  subst h
  obtain ⟨n,hn⟩:=qzm _
  exact ⟨n,_,(qEa n _ _).trans hn,.inl rfl⟩
 ·cases h
noncomputable def E_z48:EnvP:=eQ [(45,s_z45),(89,s_z89)] 13 (some [4]) nC nC nP
noncomputable def C_z48:Code:=cO Tryz.f48
noncomputable def R_z48:Array ResultVar:=Tryz.f48.results
theorem qEb (n:Nat) (charset0:Int) (o0:Lab) (code1:Int) (o1:Lab):evFnP E_z48 n C_z48 R_z48 [.dat (.int .i64) charset0 o0,.dat (.int .i64) code1 o1]=qyF n charset0 code1:=by
 kernel_rfl
theorem qlB:qg G Tryz.prog 48 s_z48:=by
 refine sQ (E:=E_z48) (c:=C_z48) rfl (fun w S hg=>(qb (qlz w S hg) (qb (qtP w S hg) qd))) Tryz.func48 (by kernel_rfl) (by kernel_rfl) (by kernel_rfl) ?_
 intro avs r h
 unfold s_z48 at h
 split at h
 ·simp only [Prod.mk.injEq,true_and] at h
  subst h
  obtain ⟨n,hn⟩:=qzq _ _
  exact ⟨n,_,(qEb n _ _ _ _).trans hn,.inl rfl⟩
 ·cases h
noncomputable def E_z15:EnvP:=eQ [(44,s_z44),(45,s_z45),(46,s_z46),(47,s_z47),(48,s_z48)] 41 (some [1000006,7]) nC (fun x=>if x=0 then some [0,1,2] else none) (fun x=>if x=32 then some (.osl 5 .byte) else if x=34 then some (.osl 5 .byte) else if x=36 then some (.osl 5 .byte) else none)
noncomputable def C_z15:Code:=cO Tryz.f15
noncomputable def R_z15:Array ResultVar:=Tryz.f15.results
theorem qEc (n:Nat) (charset0:Int) (o0:Lab) (code1:Int) (o1:Lab) (s2:List UInt8) (o2:Lab):evFnP E_z15 n C_z15 R_z15 [.dat (.int .i64) charset0 o0,.dat (.int .i64) code1 o1,.dat (.sl .byte) s2 o2]=qyG n charset0 code1 s2:=by
 kernel_rfl
theorem qlC:qg G Tryz.prog 15 s_z15:=by
 refine sQ (E:=E_z15) (c:=C_z15) rfl (fun w S hg=>(qb (qly w S hg) (qb (qlz w S hg) (qb (qtK w S hg) (qb (qtO w S hg) (qb (qlB w S hg) qd)))))) Tryz.func15 (by kernel_rfl) (by kernel_rfl) (by kernel_rfl) ?_
 intro avs r h
 unfold s_z15 at h
 split at h
 ·simp only [Prod.mk.injEq] at h
  obtain ⟨hp,rfl⟩:=h
  obtain ⟨n,hn⟩:=qyc _ _ _ hp
  exact ⟨n,_,(qEc n _ _ _ _ _ _).trans hn,.inl rfl⟩
 ·cases h
noncomputable def E_z17:EnvP:=eQ [(44,s_z44),(48,s_z48)] 11 (some [2]) nC nC nP
noncomputable def C_z17:Code:=cO Tryz.f17
noncomputable def R_z17:Array ResultVar:=Tryz.f17.results
theorem qEd (n:Nat) (charset0:Int) (o0:Lab):evFnP E_z17 n C_z17 R_z17 [.dat (.int .i64) charset0 o0]=qyH n charset0:=by
 kernel_rfl
theorem qlD:qg G Tryz.prog 17 s_z17:=by
 refine sQ (E:=E_z17) (c:=C_z17) rfl (fun w S hg=>(qb (qly w S hg) (qb (qlB w S hg) qd))) Tryz.func17 (by kernel_rfl) (by kernel_rfl) (by kernel_rfl) ?_
 intro avs r h
 unfold s_z17 at h
 split at h
 ·simp only [Prod.mk.injEq,true_and] at h
  subst h
  obtain ⟨n,hn⟩:=qzr _
  exact ⟨n,_,(qEd n _ _).trans hn,.inl rfl⟩
 ·cases h
noncomputable def E_z97:EnvP:=eQ [] 23 (some [2]) (fun x=>if x=3 then some [3,9,10,11] else none) (fun x=>if x=0 then some [3] else if x=1 then some [3,9,10,11] else none) (fun x=>if x=8 then some (.psl 21 (.leaf (.int .i32))) else none)
noncomputable def C_z97:Code:=cO Tryz.f97
noncomputable def R_z97:Array ResultVar:=Tryz.f97.results
theorem qtQ (K:Ex→Fr→Option AV):∀ (n:Nat) (t3:List Int) (s9:List UInt8) (s10:Int) (s11:Int),evLP E_z97 n (sub C_z97 [1,1,0,1,0,0]) K (frOf [(3,(.pv (.psl 21 (.leaf (.int .i32))) t3 none)),(9,(.dat (.sl .byte) s9 none)),(10,(.dat (.int .i64) s10 none)),(11,(.dat (.int .i64) s11 none))])=qkq (fun t3=>K (.exit 0) (frOf [(3,(.pv (.psl 21 (.leaf (.int .i32))) t3 none))])) n t3 s9 s10 s11:=by
 intro n
 induction n with
 | zero=>intros; rfl
 | succ n IH =>
 intro t3 s9 s10 s11
 have ih:(fun t3 s9 s10 s11=>evLP E_z97 n (sub C_z97 [1,1,0,1,0,0]) K (frOf [(3,(.pv (.psl 21 (.leaf (.int .i32))) t3 none)),(9,(.dat (.sl .byte) s9 none)),(10,(.dat (.int .i64) s10 none)),(11,(.dat (.int .i64) s11 none))]))=qkq (fun t3=>K (.exit 0) (frOf [(3,(.pv (.psl 21 (.leaf (.int .i32))) t3 none))])) n:=by
  funext t3 s9 s10 s11
  exact IH t3 s9 s10 s11
 show _=qei (fun t3=>K (.exit 0) (frOf [(3,(.pv (.psl 21 (.leaf (.int .i32))) t3 none))])) (qkq (fun t3=>K (.exit 0) (frOf [(3,(.pv (.psl 21 (.leaf (.int .i32))) t3 none))])) n) n t3 s9 s10 s11
 rw [← ih]
 kernel_rfl
theorem qmZ (n:Nat) (t3:List Int):(qc 0 (E_z97.cutb 0) (kSeq (evCP E_z97 (evLP E_z97 n) (sub C_z97 [1,1,1])) (kFnP E_z97 R_z97))) (.exit 0) (frOf [(3,(.pv (.psl 21 (.leaf (.int .i32))) t3 none))])=qfV n t3:=by
 kernel_rfl
theorem qEe (n:Nat) (s0:List UInt8) (o0:Lab):evFnP E_z97 n C_z97 R_z97 [.dat (.sl .byte) s0 o0]=qve n s0:=by
 unfold qve
 rw [show qkq (qfV n) n=(fun t3 s9 s10 s11=>evLP E_z97 n (sub C_z97 [1,1,0,1,0,0]) (qc 0 (E_z97.cutb 0) (kSeq (evCP E_z97 (evLP E_z97 n) (sub C_z97 [1,1,1])) (kFnP E_z97 R_z97))) (frOf [(3,(.pv (.psl 21 (.leaf (.int .i32))) t3 none)),(9,(.dat (.sl .byte) s9 none)),(10,(.dat (.int .i64) s10 none)),(11,(.dat (.int .i64) s11 none))])) from by
  funext t3 s9 s10 s11
  refine Eq.trans ?_ (qtQ (qc 0 (E_z97.cutb 0) (kSeq (evCP E_z97 (evLP E_z97 n) (sub C_z97 [1,1,1])) (kFnP E_z97 R_z97))) n t3 s9 s10 s11).symm
  rw [show (fun t3=>(qc 0 (E_z97.cutb 0) (kSeq (evCP E_z97 (evLP E_z97 n) (sub C_z97 [1,1,1])) (kFnP E_z97 R_z97))) (.exit 0) (frOf [(3,(.pv (.psl 21 (.leaf (.int .i32))) t3 none))]))=(qfV n) from by
   funext t3
   exact qmZ n t3]
  all_goals kernel_rfl]
 kernel_rfl
theorem qlE:qg G Tryz.prog 97 s_z97:=by
 refine sQ (E:=E_z97) (c:=C_z97) rfl (fun w S hg=>qd) Tryz.func97 (by kernel_rfl) (by kernel_rfl) (by kernel_rfl) ?_
 intro avs r h
 unfold s_z97 at h
 split at h
 ·simp only [Prod.mk.injEq] at h
  obtain ⟨hp,rfl⟩:=h
  obtain ⟨n,hn⟩:=qxV _ hp
  exact ⟨n,_,(qEe n _ _).trans hn,.inl rfl⟩
 ·cases h
end Go.Av
