import Derived.Test.YtopepdfipgfakaaGreatDoorEfEvG
import Derived.Test.YtopepdfipgfakaaGreatDoorEfLayX
import Derived.Test.YtopepdfipgfakaaGreatDoorProg
import Derived.KernelRfl
namespace Go.Av
set_option linter.unusedSimpArgs false
noncomputable section
open Go.Proofs
set_option maxRecDepth 100000
set_option linter.unusedVariables false
def E_z19:EnvP:=eQ [(11,s_z11),(52,s_z52),(53,s_z53),(54,s_z54)] 18 (some [1000002,3]) nC nC nP
def C_z19:Code:=cO Tryz.f19
def R_z19:Array ResultVar:=Tryz.f19.results
theorem qCU (n:Nat) (s0:List UInt8) (o0:Lab):evFnP E_z19 n C_z19 R_z19 [.dat (.sl .byte) s0 o0]=qxw n s0:=by
 kernel_rfl
theorem qsV:qg G Tryz.prog 19 s_z19:=by
 refine sQ (E:=E_z19) (c:=C_z19) rfl (fun w S hg=>(qb (qhk w S hg) (qb (qsP w S hg) (qb (qsR w S hg) (qb (qsU w S hg) qd))))) Tryz.func19 ?_
 intro avs r h
 unfold s_z19 at h
 split at h
 ·obtain ⟨hp,rfl⟩:=Prod.mk.inj h
  obtain ⟨n,hn⟩:=qwH _ hp
  exact ⟨n,_,(qCU n _ _).trans hn,.inl rfl⟩
 ·cases h
def E_z10:EnvP:=eQ [(14,s_z14),(15,s_z15),(17,s_z17),(19,s_z19)] 47 (some [0]) nC nC nP
def C_z10:Code:=cO Tryz.f10
def R_z10:Array ResultVar:=Tryz.f10.results
theorem qCV (n:Nat)  : evFnP E_z10 n C_z10 R_z10 []=qBn n  := by
 kernel_rfl
theorem qsW:qg G Tryz.prog 10 s_z10:=by
 refine sQ (E:=E_z10) (c:=C_z10) rfl (fun w S hg=>(qb (qkS w S hg) (qb (qsF w S hg) (qb (qsG w S hg) (qb (qsV w S hg) qd))))) Tryz.func10 ?_
 intro avs r h
 unfold s_z10 at h
 split at h <;> cases h
 obtain ⟨n,hn⟩:=qwK
 exact ⟨n,_,(qCV n ).trans hn,.inl rfl⟩
def E_z41:EnvP:=eQ [] 38 (some [2]) (fun x=>if x=3 then some [0,3,4] else none) (fun x=>if x=0 then some [3] else if x=1 then some [0,3,4] else none) (fun x=>if x=2 then some (.psl 22 (.osl 5 .byte)) else if x=6 then some (.psl 22 (.osl 5 .byte)) else if x=22 then some (.psl 22 (.osl 5 .byte)) else if x=23 then some (.psl 22 (.osl 5 .byte)) else if x=35 then some (.osl 5 .byte) else none)
def C_z41:Code:=cO Tryz.f41
def R_z41:Array ResultVar:=Tryz.f41.results
theorem qsX (K:Ex→Fr→Option AV):∀ (n:Nat) (s0:List UInt8) (out3:List (List UInt8)) (i4:Int),evLP E_z41 n (sub C_z41 [1,1,0,1,0,0]) K (frOf [(0,(.dat (.sl .byte) s0 none)),(3,(.pv (.psl 22 (.osl 5 .byte)) out3 none)),(4,(.dat (.int .i64) i4 none))])=qhC (fun out3=>K (.exit 0) (frOf [(3,(.pv (.psl 22 (.osl 5 .byte)) out3 none))])) n s0 out3 i4:=by
 intro n
 induction n with
 | zero=>intros; rfl
 | succ n IH =>
 intro s0 out3 i4
 have ih:(fun s0 out3 i4=>evLP E_z41 n (sub C_z41 [1,1,0,1,0,0]) K (frOf [(0,(.dat (.sl .byte) s0 none)),(3,(.pv (.psl 22 (.osl 5 .byte)) out3 none)),(4,(.dat (.int .i64) i4 none))]))=qhC (fun out3=>K (.exit 0) (frOf [(3,(.pv (.psl 22 (.osl 5 .byte)) out3 none))])) n:=by
  funext s0 out3 i4
  exact IH s0 out3 i4
 show _=qed (fun out3=>K (.exit 0) (frOf [(3,(.pv (.psl 22 (.osl 5 .byte)) out3 none))])) (qhC (fun out3=>K (.exit 0) (frOf [(3,(.pv (.psl 22 (.osl 5 .byte)) out3 none))])) n) n s0 out3 i4
 rw [← ih]
 kernel_rfl
theorem qmv (n:Nat) (out3:List (List UInt8)):(qc 0 (E_z41.cutb 0) (kSeq (evCP E_z41 (evLP E_z41 n) (sub C_z41 [1,1,1])) (kFnP E_z41 R_z41))) (.exit 0) (frOf [(3,(.pv (.psl 22 (.osl 5 .byte)) out3 none))])=qfQ n out3:=by
 kernel_rfl
theorem qCW (n:Nat) (s0:List UInt8) (o0:Lab):evFnP E_z41 n C_z41 R_z41 [.dat (.sl .byte) s0 o0]=qtS n s0:=by
 unfold qtS
 rw [show qhC (qfQ n) n=(fun s0 out3 i4=>evLP E_z41 n (sub C_z41 [1,1,0,1,0,0]) (qc 0 (E_z41.cutb 0) (kSeq (evCP E_z41 (evLP E_z41 n) (sub C_z41 [1,1,1])) (kFnP E_z41 R_z41))) (frOf [(0,(.dat (.sl .byte) s0 none)),(3,(.pv (.psl 22 (.osl 5 .byte)) out3 none)),(4,(.dat (.int .i64) i4 none))])) from by
  funext s0 out3 i4
  refine Eq.trans ?_ (qsX (qc 0 (E_z41.cutb 0) (kSeq (evCP E_z41 (evLP E_z41 n) (sub C_z41 [1,1,1])) (kFnP E_z41 R_z41))) n s0 out3 i4).symm
  rw [show (fun out3=>(qc 0 (E_z41.cutb 0) (kSeq (evCP E_z41 (evLP E_z41 n) (sub C_z41 [1,1,1])) (kFnP E_z41 R_z41))) (.exit 0) (frOf [(3,(.pv (.psl 22 (.osl 5 .byte)) out3 none))]))=(qfQ n) from by
   funext out3
   exact qmv n out3]
  all_goals kernel_rfl]
 kernel_rfl
theorem qsY:qg G Tryz.prog 41 s_z41:=by
 refine sQ (E:=E_z41) (c:=C_z41) rfl (fun w S hg=>qd) Tryz.func41 ?_
 intro avs r h
 unfold s_z41 at h
 split at h
 ·obtain ⟨hp,rfl⟩:=Prod.mk.inj h
  obtain ⟨n,hn⟩:=qxQ _ hp
  exact ⟨n,_,(qCW n _ _).trans hn,.inl rfl⟩
 ·cases h
def E_z81:EnvP:=eQ [] 12 (some [2]) nC nC nP
def C_z81:Code:=cO Tryz.f81
def R_z81:Array ResultVar:=Tryz.f81.results
theorem qCX (n:Nat) (c0:UInt8) (o0:Lab):evFnP E_z81 n C_z81 R_z81 [.dat .byte c0 o0]=qxx n c0:=by
 kernel_rfl
theorem qsZ:qg G Tryz.prog 81 s_z81:=by
 refine sQ (E:=E_z81) (c:=C_z81) rfl (fun w S hg=>qd) Tryz.func81 ?_
 intro avs r h
 unfold s_z81 at h
 split at h <;> cases h
 obtain ⟨n,hn⟩:=qxG _
 exact ⟨n,_,(qCX n _ _).trans hn,.inl rfl⟩
def E_z42:EnvP:=eQ [(81,s_z81)] 9 (some [2]) nC (fun x=>if x=0 then some [] else none) nP
def C_z42:Code:=cO Tryz.f42
def R_z42:Array ResultVar:=Tryz.f42.results
theorem qCY (n:Nat) (c0:UInt8) (o0:Lab):evFnP E_z42 n C_z42 R_z42 [.dat .byte c0 o0]=qxy n c0:=by
 kernel_rfl
theorem qta:qg G Tryz.prog 42 s_z42:=by
 refine sQ (E:=E_z42) (c:=C_z42) rfl (fun w S hg=>(qb (qsZ w S hg) qd)) Tryz.func42 ?_
 intro avs r h
 unfold s_z42 at h
 split at h <;> cases h
 obtain ⟨n,hn⟩:=qxL _
 exact ⟨n,_,(qCY n _ _).trans hn,.inl rfl⟩
def qbc:EnvP:=eQ [] 17 (some [4]) (fun x=>if x=2 then some [0,1,5] else none) (fun x=>if x=0 then some [] else if x=1 then some [0,1,5] else none) nP
def qhu:Code:=cO Tryz.f179
def qpE:Array ResultVar:=Tryz.f179.results
theorem qpF (K:Ex→Fr→Option AV):∀ (n:Nat) (s0:List UInt8) (c1:UInt8) (i5:Int),evLP qbc n (sub qhu [1,0,1,0,0]) K (frOf [(0,(.dat .str s0 none)),(1,(.dat .byte c1 none)),(5,(.dat (.int .i64) i5 none))])=qdu (fun s4=>K .ret (frOf [(4,(.dat .bool s4 none))])) (K (.exit 0) (frOf [])) n s0 c1 i5:=by
 intro n
 induction n with
 | zero=>intros; rfl
 | succ n IH =>
 intro s0 c1 i5
 have ih:(fun s0 c1 i5=>evLP qbc n (sub qhu [1,0,1,0,0]) K (frOf [(0,(.dat .str s0 none)),(1,(.dat .byte c1 none)),(5,(.dat (.int .i64) i5 none))]))=qdu (fun s4=>K .ret (frOf [(4,(.dat .bool s4 none))])) (K (.exit 0) (frOf [])) n:=by
  funext s0 c1 i5
  exact IH s0 c1 i5
 show _=qcj (fun s4=>K .ret (frOf [(4,(.dat .bool s4 none))])) (K (.exit 0) (frOf [])) (qdu (fun s4=>K .ret (frOf [(4,(.dat .bool s4 none))])) (K (.exit 0) (frOf [])) n) n s0 c1 i5
 rw [← ih]
 kernel_rfl
theorem qjM (n:Nat)  : (qc 0 (qbc.cutb 0) (kSeq (evCP qbc (evLP qbc n) (sub qhu [1,1])) (kFnP qbc qpE))) (.exit 0) (frOf [])=qdv n  := by
 kernel_rfl
theorem qAR (n:Nat) (s0:List UInt8) (o0:Lab) (c1:UInt8) (o1:Lab):evFnP qbc n qhu qpE [.dat .str s0 o0,.dat .byte c1 o1]=qiM n s0 c1:=by
 unfold qiM
 rw [show qdu qee (qdv n) n=(fun s0 c1 i5=>evLP qbc n (sub qhu [1,0,1,0,0]) (qc 0 (qbc.cutb 0) (kSeq (evCP qbc (evLP qbc n) (sub qhu [1,1])) (kFnP qbc qpE))) (frOf [(0,(.dat .str s0 none)),(1,(.dat .byte c1 none)),(5,(.dat (.int .i64) i5 none))])) from by
  funext s0 c1 i5
  refine Eq.trans ?_ (qpF (qc 0 (qbc.cutb 0) (kSeq (evCP qbc (evLP qbc n) (sub qhu [1,1])) (kFnP qbc qpE))) n s0 c1 i5).symm
  rw [show ((qc 0 (qbc.cutb 0) (kSeq (evCP qbc (evLP qbc n) (sub qhu [1,1])) (kFnP qbc qpE))) (.exit 0) (frOf []))=(qdv n) from by
   exact qjM n ]
  all_goals kernel_rfl]
 kernel_rfl
theorem qpG:qg G Tryz.prog 179 s_z179:=by
 refine sQ (E:=qbc) (c:=qhu) rfl (fun w S hg=>qd) Tryz.func179 ?_
 intro avs r h
 unfold s_z179 at h
 split at h
 ·obtain ⟨hp,rfl⟩:=Prod.mk.inj h
  obtain ⟨n,hn⟩:=qun _ _ hp
  exact ⟨n,_,(qAR n _ _ _ _).trans hn,.inl rfl⟩
 ·cases h
def qaC:EnvP:=eQ [(179,s_z179)] 104 (some [2]) nC nC nP
def qaD:Code:=cO Tryz.f128
def qaI:Array ResultVar:=Tryz.f128.results
def resI:Option AV→Int→Bool
 | some (.dat (.int .i64) x none),v=>x==v
 | _,_=>false
theorem qAS {o:Option AV} {v:Int} (h:resI o v=true):o=some (.dat (.int .i64) v none):=by
 unfold resI at h
 split at h
 ·simp only [beq_iff_eq] at h
  subst h
  rfl
 ·cases h
theorem qCZ:∀ i:Fin 16,resI (evFnP qaC 1 qaD qaI [.dat .byte (UInt8.ofNat (0+i.val)) none]) (z128 (UInt8.ofNat (0+i.val)))=true:=by decide +kernel
theorem qDa:∀ i:Fin 16,resI (evFnP qaC 1 qaD qaI [.dat .byte (UInt8.ofNat (16+i.val)) none]) (z128 (UInt8.ofNat (16+i.val)))=true:=by decide +kernel
theorem qDb:∀ i:Fin 16,resI (evFnP qaC 1 qaD qaI [.dat .byte (UInt8.ofNat (32+i.val)) none]) (z128 (UInt8.ofNat (32+i.val)))=true:=by decide +kernel
theorem qDc:∀ i:Fin 16,resI (evFnP qaC 1 qaD qaI [.dat .byte (UInt8.ofNat (48+i.val)) none]) (z128 (UInt8.ofNat (48+i.val)))=true:=by decide +kernel
theorem qDd:∀ i:Fin 16,resI (evFnP qaC 1 qaD qaI [.dat .byte (UInt8.ofNat (64+i.val)) none]) (z128 (UInt8.ofNat (64+i.val)))=true:=by decide +kernel
theorem qDe:∀ i:Fin 16,resI (evFnP qaC 1 qaD qaI [.dat .byte (UInt8.ofNat (80+i.val)) none]) (z128 (UInt8.ofNat (80+i.val)))=true:=by decide +kernel
theorem qDf:∀ i:Fin 16,resI (evFnP qaC 1 qaD qaI [.dat .byte (UInt8.ofNat (96+i.val)) none]) (z128 (UInt8.ofNat (96+i.val)))=true:=by decide +kernel
theorem qDg:∀ i:Fin 16,resI (evFnP qaC 1 qaD qaI [.dat .byte (UInt8.ofNat (112+i.val)) none]) (z128 (UInt8.ofNat (112+i.val)))=true:=by decide +kernel
theorem qDh:∀ i:Fin 16,resI (evFnP qaC 1 qaD qaI [.dat .byte (UInt8.ofNat (128+i.val)) none]) (z128 (UInt8.ofNat (128+i.val)))=true:=by decide +kernel
theorem qDi:∀ i:Fin 16,resI (evFnP qaC 1 qaD qaI [.dat .byte (UInt8.ofNat (144+i.val)) none]) (z128 (UInt8.ofNat (144+i.val)))=true:=by decide +kernel
theorem qAT:∀ i:Fin 16,resI (evFnP qaC 1 qaD qaI [.dat .byte (UInt8.ofNat (160+i.val)) none]) (z128 (UInt8.ofNat (160+i.val)))=true:=by decide +kernel
theorem qAU:∀ i:Fin 16,resI (evFnP qaC 1 qaD qaI [.dat .byte (UInt8.ofNat (176+i.val)) none]) (z128 (UInt8.ofNat (176+i.val)))=true:=by decide +kernel
theorem qAV:∀ i:Fin 16,resI (evFnP qaC 1 qaD qaI [.dat .byte (UInt8.ofNat (192+i.val)) none]) (z128 (UInt8.ofNat (192+i.val)))=true:=by decide +kernel
theorem qAW:∀ i:Fin 16,resI (evFnP qaC 1 qaD qaI [.dat .byte (UInt8.ofNat (208+i.val)) none]) (z128 (UInt8.ofNat (208+i.val)))=true:=by decide +kernel
theorem qAX:∀ i:Fin 16,resI (evFnP qaC 1 qaD qaI [.dat .byte (UInt8.ofNat (224+i.val)) none]) (z128 (UInt8.ofNat (224+i.val)))=true:=by decide +kernel
theorem qAY:∀ i:Fin 16,resI (evFnP qaC 1 qaD qaI [.dat .byte (UInt8.ofNat (240+i.val)) none]) (z128 (UInt8.ofNat (240+i.val)))=true:=by decide +kernel
theorem qwr:∀ i:Fin 256,resI (evFnP qaC 1 qaD qaI [.dat .byte (UInt8.ofNat (i.val)) none]) (z128 (UInt8.ofNat (i.val)))=true:=fun ⟨i,hi⟩=>by
 rcases (show i / 16=0∨i / 16=1∨i / 16=2∨i / 16=3∨i / 16=4∨i / 16=5∨i / 16=6∨i / 16=7∨i / 16=8∨i / 16=9∨i / 16=10∨i / 16=11∨i / 16=12∨i / 16=13∨i / 16=14∨i / 16=15 by omega) with e | e | e | e | e | e | e | e | e | e | e | e | e | e | e | e
 ·have h:=qCZ ⟨i - 0,by omega⟩
  have e2:0+(i - 0)=i:=by omega
  simp only [e2] at h
  exact h
 ·have h:=qDa ⟨i - 16,by omega⟩
  have e2:16+(i - 16)=i:=by omega
  simp only [e2] at h
  exact h
 ·have h:=qDb ⟨i - 32,by omega⟩
  have e2:32+(i - 32)=i:=by omega
  simp only [e2] at h
  exact h
 ·have h:=qDc ⟨i - 48,by omega⟩
  have e2:48+(i - 48)=i:=by omega
  simp only [e2] at h
  exact h
 ·have h:=qDd ⟨i - 64,by omega⟩
  have e2:64+(i - 64)=i:=by omega
  simp only [e2] at h
  exact h
 ·have h:=qDe ⟨i - 80,by omega⟩
  have e2:80+(i - 80)=i:=by omega
  simp only [e2] at h
  exact h
 ·have h:=qDf ⟨i - 96,by omega⟩
  have e2:96+(i - 96)=i:=by omega
  simp only [e2] at h
  exact h
 ·have h:=qDg ⟨i - 112,by omega⟩
  have e2:112+(i - 112)=i:=by omega
  simp only [e2] at h
  exact h
 ·have h:=qDh ⟨i - 128,by omega⟩
  have e2:128+(i - 128)=i:=by omega
  simp only [e2] at h
  exact h
 ·have h:=qDi ⟨i - 144,by omega⟩
  have e2:144+(i - 144)=i:=by omega
  simp only [e2] at h
  exact h
 ·have h:=qAT ⟨i - 160,by omega⟩
  have e2:160+(i - 160)=i:=by omega
  simp only [e2] at h
  exact h
 ·have h:=qAU ⟨i - 176,by omega⟩
  have e2:176+(i - 176)=i:=by omega
  simp only [e2] at h
  exact h
 ·have h:=qAV ⟨i - 192,by omega⟩
  have e2:192+(i - 192)=i:=by omega
  simp only [e2] at h
  exact h
 ·have h:=qAW ⟨i - 208,by omega⟩
  have e2:208+(i - 208)=i:=by omega
  simp only [e2] at h
  exact h
 ·have h:=qAX ⟨i - 224,by omega⟩
  have e2:224+(i - 224)=i:=by omega
  simp only [e2] at h
  exact h
 ·have h:=qAY ⟨i - 240,by omega⟩
  have e2:240+(i - 240)=i:=by omega
  simp only [e2] at h
  exact h
theorem qAZ (c:UInt8) (o:Lab):evFnP qaC 1 qaD qaI [.dat .byte c o]=some (.dat (.int .i64) (z128 c) none):=by
 have h:resI (evFnP qaC 1 qaD qaI [.dat .byte c none]) (z128 c)=true:=qBr (P:=fun c=>resI (evFnP qaC 1 qaD qaI [.dat .byte c none]) (z128 c)=true) qwr c
 have e:evFnP qaC 1 qaD qaI [.dat .byte c o]=evFnP qaC 1 qaD qaI [.dat .byte c none]:=by
  unfold evFnP
  have:(fun t=>(([.dat .byte c o]:List AV).getD t .bad).strip)=fun t=>(([.dat .byte c none]:List AV).getD t .bad).strip:=by
   funext t
   match t with
   | 0=>rfl
   | t+1=>rfl
  rw [this]
  rfl
 rw [e]
 exact qAS h
theorem qpH:qg G Tryz.prog 128 s_z128:=by
 refine qN G_stays (E:=qaC) (fn:=Tryz.f128) (c:=qaD) (qp rfl qdO) (fun w S hg=>⟨⟨(qb (qpG w S hg) qd),fun f sp h=>qbw f sp h w S⟩,qbC w S hg,(fun _ _ h=>by cases h),(fun _ _ h=>by cases h),(fun _ _ h=>by cases h),(fun t kt vt h=>qbG t kt vt h)⟩) follows Tryz.func128 (by kernel_rfl) (by kernel_rfl) (by kernel_rfl) ?_
 intro avs r h
 unfold s_z128 at h
 split at h
 ·simp only [Prod.mk.injEq,true_and] at h
  subst h
  exact ⟨1,_,qAZ _ _,.inl rfl⟩
 ·cases h
end
end Go.Av
