import Derived.Test.YtopepdfipgfakaaGreatDoorEfEvE
import Derived.Test.YtopepdfipgfakaaGreatDoorEfLayX
import Derived.Test.YtopepdfipgfakaaGreatDoorProg
import Derived.KernelRfl
namespace Go.Av
noncomputable section
open Go.Proofs
set_option maxRecDepth 100000
def E_z41:EnvP:=eQ [] 38 (some [2]) (fun x=>if x=3 then some [0,3,4] else none) (fun x=>if x=0 then some [3] else if x=1 then some [0,3,4] else none) (fun x=>if x=2 then some (.psl 22 (.osl 5 .byte)) else if x=6 then some (.psl 22 (.osl 5 .byte)) else if x=22 then some (.psl 22 (.osl 5 .byte)) else if x=23 then some (.psl 22 (.osl 5 .byte)) else if x=35 then some (.osl 5 .byte) else none)
def C_z41:Code:=cO Tryz.f41
def R_z41:Array ResultVar:=Tryz.f41.results
theorem qyI (K:Ex→Fr→OA):∀ (n:Nat) (s0:LU) (out3:List LU) (i4:Int),evLP E_z41 n (sub C_z41 [1,1,0,1,0,0]) K (frOf [(0,(.dat (.sl .byte) s0 none)),(3,(.pv (.psl 22 (.osl 5 .byte)) out3 none)),(4,(.dat (.int .i64) i4 none))])=qkf (fun out3=>K (.exit 0) (frOf [(3,(.pv (.psl 22 (.osl 5 .byte)) out3 none))])) n s0 out3 i4:=by
 intro n
 induction n with
 | zero=>intros; rfl
 | succ n IH =>
 intro s0 out3 i4
 have ih:(fun s0 out3 i4=>evLP E_z41 n (sub C_z41 [1,1,0,1,0,0]) K (frOf [(0,(.dat (.sl .byte) s0 none)),(3,(.pv (.psl 22 (.osl 5 .byte)) out3 none)),(4,(.dat (.int .i64) i4 none))]))=qkf (fun out3=>K (.exit 0) (frOf [(3,(.pv (.psl 22 (.osl 5 .byte)) out3 none))])) n:=by
  funext s0 out3 i4
  exact IH s0 out3 i4
 show _=qfs (fun out3=>K (.exit 0) (frOf [(3,(.pv (.psl 22 (.osl 5 .byte)) out3 none))])) (qkf (fun out3=>K (.exit 0) (frOf [(3,(.pv (.psl 22 (.osl 5 .byte)) out3 none))])) n) n s0 out3 i4
 rw [← ih]
 kernel_rfl
theorem qqC (n:Nat) (out3:List LU):(qb 0 (E_z41.cutb 0) (kSeq (evCP E_z41 (evLP E_z41 n) (sub C_z41 [1,1,1])) (kFnP E_z41 R_z41))) (.exit 0) (frOf [(3,(.pv (.psl 22 (.osl 5 .byte)) out3 none))])=qhC n out3:=by
 kernel_rfl
theorem qLg (n:Nat) (s0:LU) (o0:Lab):evFnP E_z41 n C_z41 R_z41 [.dat (.sl .byte) s0 o0]=qAu n s0:=by
 unfold qAu
 rw [show qkf (qhC n) n=(fun s0 out3 i4=>evLP E_z41 n (sub C_z41 [1,1,0,1,0,0]) (qb 0 (E_z41.cutb 0) (kSeq (evCP E_z41 (evLP E_z41 n) (sub C_z41 [1,1,1])) (kFnP E_z41 R_z41))) (frOf [(0,(.dat (.sl .byte) s0 none)),(3,(.pv (.psl 22 (.osl 5 .byte)) out3 none)),(4,(.dat (.int .i64) i4 none))])) from by
  funext s0 out3 i4
  refine Eq.trans ?_ (qyI (qb 0 (E_z41.cutb 0) (kSeq (evCP E_z41 (evLP E_z41 n) (sub C_z41 [1,1,1])) (kFnP E_z41 R_z41))) n s0 out3 i4).symm
  rw [show (fun out3=>(qb 0 (E_z41.cutb 0) (kSeq (evCP E_z41 (evLP E_z41 n) (sub C_z41 [1,1,1])) (kFnP E_z41 R_z41))) (.exit 0) (frOf [(3,(.pv (.psl 22 (.osl 5 .byte)) out3 none))]))=(qhC n) from by
   funext out3
   exact qqC n out3]
  all_goals kernel_rfl]
 kernel_rfl
theorem qyJ:qe G Tryz.prog 41 s_z41:=by
 refine sQ (E:=E_z41) (c:=C_z41) rfl (fun w S hg=>qd) Tryz.func41 ?_
 intro avs r h
 unfold s_z41 at h
 split at h
 ·obtain ⟨hp,rfl⟩:=Prod.mk.inj h
  obtain ⟨n,hn⟩:=qFh _ hp
  exact ⟨n,_,(qLg n _ _).trans hn,.inl rfl⟩
 ·cases h
def E_z81:EnvP:=eQ [] 12 (some [2]) nC nC nP
def C_z81:Code:=cO Tryz.f81
def R_z81:Array ResultVar:=Tryz.f81.results
theorem qLh (n:Nat) (c0:UInt8) (o0:Lab):evFnP E_z81 n C_z81 R_z81 [.dat .byte c0 o0]=qEz n c0:=by
 kernel_rfl
theorem qoA:qe G Tryz.prog 81 s_z81:=by
 refine sQ (E:=E_z81) (c:=C_z81) rfl (fun w S hg=>qd) Tryz.func81 ?_
 intro avs r h
 unfold s_z81 at h
 split at h <;> cases h
 obtain ⟨n,hn⟩:=qEX _
 exact ⟨n,_,(qLh n _ _).trans hn,.inl rfl⟩
def E_z42:EnvP:=eQ [(81,s_z81)] 9 (some [2]) nC (fun x=>if x=0 then some [] else none) nP
def C_z42:Code:=cO Tryz.f42
def R_z42:Array ResultVar:=Tryz.f42.results
theorem qLi (n:Nat) (c0:UInt8) (o0:Lab):evFnP E_z42 n C_z42 R_z42 [.dat .byte c0 o0]=qEA n c0:=by
 kernel_rfl
theorem qyK:qe G Tryz.prog 42 s_z42:=by
 refine sQ (E:=E_z42) (c:=C_z42) rfl (fun w S hg=>(qa (qoA w S hg) qd)) Tryz.func42 ?_
 intro avs r h
 unfold s_z42 at h
 split at h <;> cases h
 obtain ⟨n,hn⟩:=qFc _
 exact ⟨n,_,(qLi n _ _).trans hn,.inl rfl⟩
def qbu:EnvP:=eQ [] 17 (some [4]) (fun x=>if x=2 then some [0,1,5] else none) (fun x=>if x=0 then some [] else if x=1 then some [0,1,5] else none) nP
def qjL:Code:=cO Tryz.f179
def quc:Array ResultVar:=Tryz.f179.results
theorem qud (K:Ex→Fr→OA):∀ (n:Nat) (s0:LU) (c1:UInt8) (i5:Int),evLP qbu n (sub qjL [1,0,1,0,0]) K (frOf [(0,(.dat .str s0 none)),(1,(.dat .byte c1 none)),(5,(.dat (.int .i64) i5 none))])=qew (fun s4=>K .ret (frOf [(4,(.dat .bool s4 none))])) (K (.exit 0) (frOf [])) n s0 c1 i5:=by
 intro n
 induction n with
 | zero=>intros; rfl
 | succ n IH =>
 intro s0 c1 i5
 have ih:(fun s0 c1 i5=>evLP qbu n (sub qjL [1,0,1,0,0]) K (frOf [(0,(.dat .str s0 none)),(1,(.dat .byte c1 none)),(5,(.dat (.int .i64) i5 none))]))=qew (fun s4=>K .ret (frOf [(4,(.dat .bool s4 none))])) (K (.exit 0) (frOf [])) n:=by
  funext s0 c1 i5
  exact IH s0 c1 i5
 show _=qcP (fun s4=>K .ret (frOf [(4,(.dat .bool s4 none))])) (K (.exit 0) (frOf [])) (qew (fun s4=>K .ret (frOf [(4,(.dat .bool s4 none))])) (K (.exit 0) (frOf [])) n) n s0 c1 i5
 rw [← ih]
 kernel_rfl
theorem qmM (n:Nat)  : (qb 0 (qbu.cutb 0) (kSeq (evCP qbu (evLP qbu n) (sub qjL [1,1])) (kFnP qbu quc))) (.exit 0) (frOf [])=qex n  := by
 kernel_rfl
theorem qIv (n:Nat) (s0:LU) (o0:Lab) (c1:UInt8) (o1:Lab):evFnP qbu n qjL quc [.dat .str s0 o0,.dat .byte c1 o1]=qlE n s0 c1:=by
 unfold qlE
 rw [show qew qft (qex n) n=(fun s0 c1 i5=>evLP qbu n (sub qjL [1,0,1,0,0]) (qb 0 (qbu.cutb 0) (kSeq (evCP qbu (evLP qbu n) (sub qjL [1,1])) (kFnP qbu quc))) (frOf [(0,(.dat .str s0 none)),(1,(.dat .byte c1 none)),(5,(.dat (.int .i64) i5 none))])) from by
  funext s0 c1 i5
  refine Eq.trans ?_ (qud (qb 0 (qbu.cutb 0) (kSeq (evCP qbu (evLP qbu n) (sub qjL [1,1])) (kFnP qbu quc))) n s0 c1 i5).symm
  rw [show ((qb 0 (qbu.cutb 0) (kSeq (evCP qbu (evLP qbu n) (sub qjL [1,1])) (kFnP qbu quc))) (.exit 0) (frOf []))=(qex n) from by
   exact qmM n ]
  all_goals kernel_rfl]
 kernel_rfl
theorem que:qe G Tryz.prog 179 s_z179:=by
 refine sQ (E:=qbu) (c:=qjL) rfl (fun w S hg=>qd) Tryz.func179 ?_
 intro avs r h
 unfold s_z179 at h
 split at h
 ·obtain ⟨hp,rfl⟩:=Prod.mk.inj h
  obtain ⟨n,hn⟩:=qAR _ _ hp
  exact ⟨n,_,(qIv n _ _ _ _).trans hn,.inl rfl⟩
 ·cases h
def qaO:EnvP:=eQ [(179,s_z179)] 104 (some [2]) nC nC nP
def qaP:Code:=cO Tryz.f128
def qaW:Array ResultVar:=Tryz.f128.results
def resI:OA→Int→Bool
 | some (.dat (.int .i64) x none),v=>x==v
 | _,_=>false
theorem qIw {o:OA} {v:Int} (h:resI o v=true):o=some (.dat (.int .i64) v none):=by
 unfold resI at h
 split at h
 ·simp only [beq_iff_eq] at h
  subst h
  rfl
 ·cases h
theorem qLj:∀ i:Fin 16,resI (evFnP qaO 1 qaP qaW [.dat .byte (UInt8.ofNat (0+i.val)) none]) (z128 (UInt8.ofNat (0+i.val)))=true:=by decide +kernel
theorem qLk:∀ i:Fin 16,resI (evFnP qaO 1 qaP qaW [.dat .byte (UInt8.ofNat (16+i.val)) none]) (z128 (UInt8.ofNat (16+i.val)))=true:=by decide +kernel
theorem qLl:∀ i:Fin 16,resI (evFnP qaO 1 qaP qaW [.dat .byte (UInt8.ofNat (32+i.val)) none]) (z128 (UInt8.ofNat (32+i.val)))=true:=by decide +kernel
theorem qLm:∀ i:Fin 16,resI (evFnP qaO 1 qaP qaW [.dat .byte (UInt8.ofNat (48+i.val)) none]) (z128 (UInt8.ofNat (48+i.val)))=true:=by decide +kernel
theorem qLn:∀ i:Fin 16,resI (evFnP qaO 1 qaP qaW [.dat .byte (UInt8.ofNat (64+i.val)) none]) (z128 (UInt8.ofNat (64+i.val)))=true:=by decide +kernel
theorem qLo:∀ i:Fin 16,resI (evFnP qaO 1 qaP qaW [.dat .byte (UInt8.ofNat (80+i.val)) none]) (z128 (UInt8.ofNat (80+i.val)))=true:=by decide +kernel
theorem qLp:∀ i:Fin 16,resI (evFnP qaO 1 qaP qaW [.dat .byte (UInt8.ofNat (96+i.val)) none]) (z128 (UInt8.ofNat (96+i.val)))=true:=by decide +kernel
theorem qLq:∀ i:Fin 16,resI (evFnP qaO 1 qaP qaW [.dat .byte (UInt8.ofNat (112+i.val)) none]) (z128 (UInt8.ofNat (112+i.val)))=true:=by decide +kernel
theorem qLr:∀ i:Fin 16,resI (evFnP qaO 1 qaP qaW [.dat .byte (UInt8.ofNat (128+i.val)) none]) (z128 (UInt8.ofNat (128+i.val)))=true:=by decide +kernel
theorem qLs:∀ i:Fin 16,resI (evFnP qaO 1 qaP qaW [.dat .byte (UInt8.ofNat (144+i.val)) none]) (z128 (UInt8.ofNat (144+i.val)))=true:=by decide +kernel
theorem qIx:∀ i:Fin 16,resI (evFnP qaO 1 qaP qaW [.dat .byte (UInt8.ofNat (160+i.val)) none]) (z128 (UInt8.ofNat (160+i.val)))=true:=by decide +kernel
theorem qIy:∀ i:Fin 16,resI (evFnP qaO 1 qaP qaW [.dat .byte (UInt8.ofNat (176+i.val)) none]) (z128 (UInt8.ofNat (176+i.val)))=true:=by decide +kernel
theorem qIz:∀ i:Fin 16,resI (evFnP qaO 1 qaP qaW [.dat .byte (UInt8.ofNat (192+i.val)) none]) (z128 (UInt8.ofNat (192+i.val)))=true:=by decide +kernel
theorem qIA:∀ i:Fin 16,resI (evFnP qaO 1 qaP qaW [.dat .byte (UInt8.ofNat (208+i.val)) none]) (z128 (UInt8.ofNat (208+i.val)))=true:=by decide +kernel
theorem qIB:∀ i:Fin 16,resI (evFnP qaO 1 qaP qaW [.dat .byte (UInt8.ofNat (224+i.val)) none]) (z128 (UInt8.ofNat (224+i.val)))=true:=by decide +kernel
theorem qIC:∀ i:Fin 16,resI (evFnP qaO 1 qaP qaW [.dat .byte (UInt8.ofNat (240+i.val)) none]) (z128 (UInt8.ofNat (240+i.val)))=true:=by decide +kernel
theorem qDe:∀ i:Fin 256,resI (evFnP qaO 1 qaP qaW [.dat .byte (UInt8.ofNat (i.val)) none]) (z128 (UInt8.ofNat (i.val)))=true:=fun ⟨i,hi⟩=>by
 rcases (show i / 16=0∨i / 16=1∨i / 16=2∨i / 16=3∨i / 16=4∨i / 16=5∨i / 16=6∨i / 16=7∨i / 16=8∨i / 16=9∨i / 16=10∨i / 16=11∨i / 16=12∨i / 16=13∨i / 16=14∨i / 16=15 by omega) with e | e | e | e | e | e | e | e | e | e | e | e | e | e | e | e
 ·have h:=qLj ⟨i - 0,by omega⟩
  have e2:0+(i - 0)=i:=by omega
  simp only [e2] at h
  exact h
 ·have h:=qLk ⟨i - 16,by omega⟩
  have e2:16+(i - 16)=i:=by omega
  simp only [e2] at h
  exact h
 ·have h:=qLl ⟨i - 32,by omega⟩
  have e2:32+(i - 32)=i:=by omega
  simp only [e2] at h
  exact h
 ·have h:=qLm ⟨i - 48,by omega⟩
  have e2:48+(i - 48)=i:=by omega
  simp only [e2] at h
  exact h
 ·have h:=qLn ⟨i - 64,by omega⟩
  have e2:64+(i - 64)=i:=by omega
  simp only [e2] at h
  exact h
 ·have h:=qLo ⟨i - 80,by omega⟩
  have e2:80+(i - 80)=i:=by omega
  simp only [e2] at h
  exact h
 ·have h:=qLp ⟨i - 96,by omega⟩
  have e2:96+(i - 96)=i:=by omega
  simp only [e2] at h
  exact h
 ·have h:=qLq ⟨i - 112,by omega⟩
  have e2:112+(i - 112)=i:=by omega
  simp only [e2] at h
  exact h
 ·have h:=qLr ⟨i - 128,by omega⟩
  have e2:128+(i - 128)=i:=by omega
  simp only [e2] at h
  exact h
 ·have h:=qLs ⟨i - 144,by omega⟩
  have e2:144+(i - 144)=i:=by omega
  simp only [e2] at h
  exact h
 ·have h:=qIx ⟨i - 160,by omega⟩
  have e2:160+(i - 160)=i:=by omega
  simp only [e2] at h
  exact h
 ·have h:=qIy ⟨i - 176,by omega⟩
  have e2:176+(i - 176)=i:=by omega
  simp only [e2] at h
  exact h
 ·have h:=qIz ⟨i - 192,by omega⟩
  have e2:192+(i - 192)=i:=by omega
  simp only [e2] at h
  exact h
 ·have h:=qIA ⟨i - 208,by omega⟩
  have e2:208+(i - 208)=i:=by omega
  simp only [e2] at h
  exact h
 ·have h:=qIB ⟨i - 224,by omega⟩
  have e2:224+(i - 224)=i:=by omega
  simp only [e2] at h
  exact h
 ·have h:=qIC ⟨i - 240,by omega⟩
  have e2:240+(i - 240)=i:=by omega
  simp only [e2] at h
  exact h
theorem qID (c:UInt8) (o:Lab):evFnP qaO 1 qaP qaW [.dat .byte c o]=some (.dat (.int .i64) (z128 c) none):=by
 have h:resI (evFnP qaO 1 qaP qaW [.dat .byte c none]) (z128 c)=true:=qEW (P:=fun c=>resI (evFnP qaO 1 qaP qaW [.dat .byte c none]) (z128 c)=true) qDe c
 have e:evFnP qaO 1 qaP qaW [.dat .byte c o]=evFnP qaO 1 qaP qaW [.dat .byte c none]:=by
  unfold evFnP
  have:(fun t=>(([.dat .byte c o]:List AV).getD t .bad).strip)=fun t=>(([.dat .byte c none]:List AV).getD t .bad).strip:=by
   funext t
   match t with
   | 0=>rfl
   | t+1=>rfl
  rw [this]
  rfl
 rw [e]
 exact qIw h
theorem quf:qe G Tryz.prog 128 s_z128:=by
 refine qP G_stays (E:=qaO) (fn:=Tryz.f128) (c:=qaP) (qr rfl qfa) (fun w S hg=>⟨⟨(qa (que w S hg) qd),fun f sp h=>qcg f sp h w S⟩,qcj w S hg,(fun _ _ h=>by cases h),(fun _ _ h=>by cases h),(fun _ _ h=>by cases h),(fun t kt vt h=>qcn t kt vt h)⟩) follows Tryz.func128 (by kernel_rfl) (by kernel_rfl) (by kernel_rfl) ?_
 intro avs r h
 unfold s_z128 at h
 split at h
 ·simp only [Prod.mk.injEq,true_and] at h
  subst h
  exact ⟨1,_,qID _ _,.inl rfl⟩
 ·cases h
def E_z82:EnvP:=eQ [(128,s_z128)] 10 (some [4]) nC nC nP
def C_z82:Code:=cO Tryz.f82
def R_z82:Array ResultVar:=Tryz.f82.results
theorem qLt (n:Nat) (c0:UInt8) (o0:Lab) (kinds1:Int) (o1:Lab):evFnP E_z82 n C_z82 R_z82 [.dat .byte c0 o0,.dat (.int .i64) kinds1 o1]=qJu n c0 kinds1:=by
 kernel_rfl
theorem qjM:qe G Tryz.prog 82 s_z82:=by
 refine sQ (E:=E_z82) (c:=C_z82) rfl (fun w S hg=>(qa (quf w S hg) qd)) Tryz.func82 ?_
 intro avs r h
 unfold s_z82 at h
 split at h <;> cases h
 obtain ⟨n,hn⟩:=qEU _ _
 exact ⟨n,_,(qLt n _ _ _ _).trans hn,.inl rfl⟩
def E_z43:EnvP:=eQ [(82,s_z82)] 22 (some [4]) (fun x=>if x=3 then some [0,1,5,6] else none) (fun x=>if x=0 then some [5] else if x=1 then some [0,1,5,6] else none) nP
def C_z43:Code:=cO Tryz.f43
def R_z43:Array ResultVar:=Tryz.f43.results
theorem qyL (K:Ex→Fr→OA):∀ (n:Nat) (s0:LU) (kinds1:Int) (n5:Int) (i6:Int),evLP E_z43 n (sub C_z43 [1,1,0,1,0,0]) K (frOf [(0,(.dat (.sl .byte) s0 none)),(1,(.dat (.int .i64) kinds1 none)),(5,(.dat (.int .i64) n5 none)),(6,(.dat (.int .i64) i6 none))])=qkg (fun n5=>K (.exit 0) (frOf [(5,(.dat (.int .i64) n5 none))])) n s0 kinds1 n5 i6:=by
 intro n
 induction n with
 | zero=>intros; rfl
 | succ n IH =>
 intro s0 kinds1 n5 i6
 have ih:(fun s0 kinds1 n5 i6=>evLP E_z43 n (sub C_z43 [1,1,0,1,0,0]) K (frOf [(0,(.dat (.sl .byte) s0 none)),(1,(.dat (.int .i64) kinds1 none)),(5,(.dat (.int .i64) n5 none)),(6,(.dat (.int .i64) i6 none))]))=qkg (fun n5=>K (.exit 0) (frOf [(5,(.dat (.int .i64) n5 none))])) n:=by
  funext s0 kinds1 n5 i6
  exact IH s0 kinds1 n5 i6
 show _=qfu (fun n5=>K (.exit 0) (frOf [(5,(.dat (.int .i64) n5 none))])) (qkg (fun n5=>K (.exit 0) (frOf [(5,(.dat (.int .i64) n5 none))])) n) n s0 kinds1 n5 i6
 rw [← ih]
 kernel_rfl
theorem qqD (n:Nat) (n5:Int):(qb 0 (E_z43.cutb 0) (kSeq (evCP E_z43 (evLP E_z43 n) (sub C_z43 [1,1,1])) (kFnP E_z43 R_z43))) (.exit 0) (frOf [(5,(.dat (.int .i64) n5 none))])=qhD n n5:=by
 kernel_rfl
theorem qLu (n:Nat) (s0:LU) (o0:Lab) (kinds1:Int) (o1:Lab):evFnP E_z43 n C_z43 R_z43 [.dat (.sl .byte) s0 o0,.dat (.int .i64) kinds1 o1]=qAv n s0 kinds1:=by
 unfold qAv
 rw [show qkg (qhD n) n=(fun s0 kinds1 n5 i6=>evLP E_z43 n (sub C_z43 [1,1,0,1,0,0]) (qb 0 (E_z43.cutb 0) (kSeq (evCP E_z43 (evLP E_z43 n) (sub C_z43 [1,1,1])) (kFnP E_z43 R_z43))) (frOf [(0,(.dat (.sl .byte) s0 none)),(1,(.dat (.int .i64) kinds1 none)),(5,(.dat (.int .i64) n5 none)),(6,(.dat (.int .i64) i6 none))])) from by
  funext s0 kinds1 n5 i6
  refine Eq.trans ?_ (qyL (qb 0 (E_z43.cutb 0) (kSeq (evCP E_z43 (evLP E_z43 n) (sub C_z43 [1,1,1])) (kFnP E_z43 R_z43))) n s0 kinds1 n5 i6).symm
  rw [show (fun n5=>(qb 0 (E_z43.cutb 0) (kSeq (evCP E_z43 (evLP E_z43 n) (sub C_z43 [1,1,1])) (kFnP E_z43 R_z43))) (.exit 0) (frOf [(5,(.dat (.int .i64) n5 none))]))=(qhD n) from by
   funext n5
   exact qqD n n5]
  all_goals kernel_rfl]
 kernel_rfl
theorem qyM:qe G Tryz.prog 43 s_z43:=by
 refine sQ (E:=E_z43) (c:=C_z43) rfl (fun w S hg=>(qa (qjM w S hg) qd)) Tryz.func43 ?_
 intro avs r h
 unfold s_z43 at h
 split at h
 ·obtain ⟨hp,rfl⟩:=Prod.mk.inj h
  obtain ⟨n,hn⟩:=qEV _ _ hp
  exact ⟨n,_,(qLu n _ _ _ _).trans hn,.inl rfl⟩
 ·cases h
def E_z12:EnvP:=eQ [(41,s_z41),(42,s_z42),(43,s_z43)] 93 (some [2,3]) nC nC nP
def C_z12:Code:=cO Tryz.f12
def R_z12:Array ResultVar:=Tryz.f12.results
theorem qLv (n:Nat) (s0:LU) (o0:Lab):evFnP E_z12 n C_z12 R_z12 [.dat (.sl .byte) s0 o0]=qEB n s0:=by
 kernel_rfl
theorem qjN:qe G Tryz.prog 12 s_z12:=by
 refine sQ (E:=E_z12) (c:=C_z12) rfl (fun w S hg=>(qa (qyJ w S hg) (qa (qyK w S hg) (qa (qyM w S hg) qd)))) Tryz.func12 ?_
 intro avs r h
 unfold s_z12 at h
 split at h
 ·obtain ⟨hp,rfl⟩:=Prod.mk.inj h
  obtain ⟨n,hn⟩:=qFf _ hp
  exact ⟨n,_,(qLv n _ _).trans hn,.inl rfl⟩
 ·cases h
def E_z92:EnvP:=eQ [] 19 (some [2]) nC (fun x=>if x=0 then some [] else none) nP
def C_z92:Code:=cO Tryz.f92
def R_z92:Array ResultVar:=Tryz.f92.results
theorem qLw (n:Nat) (n0:Int) (o0:Lab):evFnP E_z92 n C_z92 R_z92 [.dat (.int .i64) n0 o0]=qEC n n0:=by
 kernel_rfl
theorem qyN:qe G Tryz.prog 92 s_z92:=by
 refine sQ (E:=E_z92) (c:=C_z92) rfl (fun w S hg=>qd) Tryz.func92 ?_
 intro avs r h
 unfold s_z92 at h
 split at h <;> cases h
 obtain ⟨n,hn⟩:=qFn _
 exact ⟨n,_,(qLw n _ _).trans hn,.inl rfl⟩
def qbv:EnvP:=eQ [(81,s_z81)] 20 (some [2]) (fun x=>if x=3 then some [0,3,4] else none) (fun x=>if x=0 then some [3] else if x=1 then some [0,3,4] else none) nP
def qjO:Code:=cO Tryz.f104
def qug:Array ResultVar:=Tryz.f104.results
theorem quh (K:Ex→Fr→OA):∀ (n:Nat) (s0:LU) (out3:LU) (i4:Int),evLP qbv n (sub qjO [1,1,0,1,0,0]) K (frOf [(0,(.dat (.sl .byte) s0 none)),(3,(.dat (.sl .byte) out3 (some (3,5)))),(4,(.dat (.int .i64) i4 none))])=qhF (fun out3=>K (.exit 0) (frOf [(3,(.dat (.sl .byte) out3 (some (3,5))))])) n s0 out3 i4:=by
 intro n
 induction n with
 | zero=>intros; rfl
 | succ n IH =>
 intro s0 out3 i4
 have ih:(fun s0 out3 i4=>evLP qbv n (sub qjO [1,1,0,1,0,0]) K (frOf [(0,(.dat (.sl .byte) s0 none)),(3,(.dat (.sl .byte) out3 (some (3,5)))),(4,(.dat (.int .i64) i4 none))]))=qhF (fun out3=>K (.exit 0) (frOf [(3,(.dat (.sl .byte) out3 (some (3,5))))])) n:=by
  funext s0 out3 i4
  exact IH s0 out3 i4
 show _=qcQ (fun out3=>K (.exit 0) (frOf [(3,(.dat (.sl .byte) out3 (some (3,5))))])) (qhF (fun out3=>K (.exit 0) (frOf [(3,(.dat (.sl .byte) out3 (some (3,5))))])) n) n s0 out3 i4
 rw [← ih]
 kernel_rfl
theorem qmN (n:Nat) (out3:LU):(qb 0 (qbv.cutb 0) (kSeq (evCP qbv (evLP qbv n) (sub qjO [1,1,1])) (kFnP qbv qug))) (.exit 0) (frOf [(3,(.dat (.sl .byte) out3 (some (3,5))))])=qcR n out3:=by
 kernel_rfl
theorem qIE (n:Nat) (s0:LU) (o0:Lab):evFnP qbv n qjO qug [.dat (.sl .byte) s0 o0]=qpt n s0:=by
 unfold qpt
 rw [show qhF (qcR n) n=(fun s0 out3 i4=>evLP qbv n (sub qjO [1,1,0,1,0,0]) (qb 0 (qbv.cutb 0) (kSeq (evCP qbv (evLP qbv n) (sub qjO [1,1,1])) (kFnP qbv qug))) (frOf [(0,(.dat (.sl .byte) s0 none)),(3,(.dat (.sl .byte) out3 (some (3,5)))),(4,(.dat (.int .i64) i4 none))])) from by
  funext s0 out3 i4
  refine Eq.trans ?_ (quh (qb 0 (qbv.cutb 0) (kSeq (evCP qbv (evLP qbv n) (sub qjO [1,1,1])) (kFnP qbv qug))) n s0 out3 i4).symm
  rw [show (fun out3=>(qb 0 (qbv.cutb 0) (kSeq (evCP qbv (evLP qbv n) (sub qjO [1,1,1])) (kFnP qbv qug))) (.exit 0) (frOf [(3,(.dat (.sl .byte) out3 (some (3,5))))]))=(qcR n) from by
   funext out3
   exact qmN n out3]
  all_goals kernel_rfl]
 kernel_rfl
theorem qui:qe G Tryz.prog 104 s_z104:=by
 refine sQ (E:=qbv) (c:=qjO) rfl (fun w S hg=>(qa (qoA w S hg) qd)) Tryz.func104 ?_
 intro avs r h
 unfold s_z104 at h
 split at h
 ·obtain ⟨hp,rfl⟩:=Prod.mk.inj h
  obtain ⟨n,hn⟩:=qzB _ hp
  exact ⟨n,_,(qIE n _ _).trans hn,.inl rfl⟩
 ·cases h
def qK:EnvP:=eQ [(82,s_z82)] 36 (some [2]) (fun x=>if x=2 then some [0,3,4] else if x=4 then some [0,3,4] else none) (fun x=>if x=0 then some [0,3,4] else if x=1 then some [0,3,4] else if x=2 then some [0,3,4] else if x=3 then some [0,3,4] else none) nP
def qdh:Code:=cO Tryz.f147
def qjP:Array ResultVar:=Tryz.f147.results
theorem quj (K:Ex→Fr→OA):∀ (n:Nat) (s0:LU) (a3:Int) (b4:Int),evLP qK n (sub qdh [1,1,0,0,0]) K (frOf [(0,(.dat (.sl .byte) s0 none)),(3,(.dat (.int .i64) a3 none)),(4,(.dat (.int .i64) b4 none))])=qey (fun s0 a3 b4=>K (.exit 0) (frOf [(0,(.dat (.sl .byte) s0 none)),(3,(.dat (.int .i64) a3 none)),(4,(.dat (.int .i64) b4 none))])) n s0 a3 b4:=by
 intro n
 induction n with
 | zero=>intros; rfl
 | succ n IH =>
 intro s0 a3 b4
 have ih:(fun s0 a3 b4=>evLP qK n (sub qdh [1,1,0,0,0]) K (frOf [(0,(.dat (.sl .byte) s0 none)),(3,(.dat (.int .i64) a3 none)),(4,(.dat (.int .i64) b4 none))]))=qey (fun s0 a3 b4=>K (.exit 0) (frOf [(0,(.dat (.sl .byte) s0 none)),(3,(.dat (.int .i64) a3 none)),(4,(.dat (.int .i64) b4 none))])) n:=by
  funext s0 a3 b4
  exact IH s0 a3 b4
 show _=qcS (fun s0 a3 b4=>K (.exit 0) (frOf [(0,(.dat (.sl .byte) s0 none)),(3,(.dat (.int .i64) a3 none)),(4,(.dat (.int .i64) b4 none))])) (qey (fun s0 a3 b4=>K (.exit 0) (frOf [(0,(.dat (.sl .byte) s0 none)),(3,(.dat (.int .i64) a3 none)),(4,(.dat (.int .i64) b4 none))])) n) n s0 a3 b4
 rw [← ih]
 kernel_rfl
theorem quk (K:Ex→Fr→OA):∀ (n:Nat) (s0:LU) (a3:Int) (b4:Int),evLP qK n (sub qdh [1,1,1,0,0,0]) K (frOf [(0,(.dat (.sl .byte) s0 none)),(3,(.dat (.int .i64) a3 none)),(4,(.dat (.int .i64) b4 none))])=qez (fun s0 a3 b4=>K (.exit 2) (frOf [(0,(.dat (.sl .byte) s0 none)),(3,(.dat (.int .i64) a3 none)),(4,(.dat (.int .i64) b4 none))])) n s0 a3 b4:=by
 intro n
 induction n with
 | zero=>intros; rfl
 | succ n IH =>
 intro s0 a3 b4
 have ih:(fun s0 a3 b4=>evLP qK n (sub qdh [1,1,1,0,0,0]) K (frOf [(0,(.dat (.sl .byte) s0 none)),(3,(.dat (.int .i64) a3 none)),(4,(.dat (.int .i64) b4 none))]))=qez (fun s0 a3 b4=>K (.exit 2) (frOf [(0,(.dat (.sl .byte) s0 none)),(3,(.dat (.int .i64) a3 none)),(4,(.dat (.int .i64) b4 none))])) n:=by
  funext s0 a3 b4
  exact IH s0 a3 b4
 show _=qcT (fun s0 a3 b4=>K (.exit 2) (frOf [(0,(.dat (.sl .byte) s0 none)),(3,(.dat (.int .i64) a3 none)),(4,(.dat (.int .i64) b4 none))])) (qez (fun s0 a3 b4=>K (.exit 2) (frOf [(0,(.dat (.sl .byte) s0 none)),(3,(.dat (.int .i64) a3 none)),(4,(.dat (.int .i64) b4 none))])) n) n s0 a3 b4
 rw [← ih]
 kernel_rfl
theorem qmO (n:Nat) (s0:LU) (a3:Int) (b4:Int):(qb 2 (qK.cutb 2) (kSeq (evCP qK (evLP qK n) (sub qdh [1,1,1,1])) (kFnP qK qjP))) (.exit 2) (frOf [(0,(.dat (.sl .byte) s0 none)),(3,(.dat (.int .i64) a3 none)),(4,(.dat (.int .i64) b4 none))])=qcU n s0 a3 b4:=by
 kernel_rfl
theorem qmP (n:Nat) (s0:LU) (a3:Int) (b4:Int):(qb 0 (qK.cutb 0) (kSeq (evCP qK (evLP qK n) (sub qdh [1,1,1])) (kFnP qK qjP))) (.exit 0) (frOf [(0,(.dat (.sl .byte) s0 none)),(3,(.dat (.int .i64) a3 none)),(4,(.dat (.int .i64) b4 none))])=qcb n s0 a3 b4:=by
 unfold qcb
 rw [show qez (qcU n) n=(fun s0 a3 b4=>evLP qK n (sub qdh [1,1,1,0,0,0]) (qb 2 (qK.cutb 2) (kSeq (evCP qK (evLP qK n) (sub qdh [1,1,1,1])) (kFnP qK qjP))) (frOf [(0,(.dat (.sl .byte) s0 none)),(3,(.dat (.int .i64) a3 none)),(4,(.dat (.int .i64) b4 none))])) from by
  funext s0 a3 b4
  refine Eq.trans ?_ (quk (qb 2 (qK.cutb 2) (kSeq (evCP qK (evLP qK n) (sub qdh [1,1,1,1])) (kFnP qK qjP))) n s0 a3 b4).symm
  rw [show (fun s0 a3 b4=>(qb 2 (qK.cutb 2) (kSeq (evCP qK (evLP qK n) (sub qdh [1,1,1,1])) (kFnP qK qjP))) (.exit 2) (frOf [(0,(.dat (.sl .byte) s0 none)),(3,(.dat (.int .i64) a3 none)),(4,(.dat (.int .i64) b4 none))]))=(qcU n) from by
   funext s0 a3 b4
   exact qmO n s0 a3 b4]
  all_goals kernel_rfl]
 kernel_rfl
theorem qIF (n:Nat) (s0:LU) (o0:Lab):evFnP qK n qdh qjP [.dat (.sl .byte) s0 o0]=qpu n s0:=by
 unfold qpu
 rw [show qey (qcb n) n=(fun s0 a3 b4=>evLP qK n (sub qdh [1,1,0,0,0]) (qb 0 (qK.cutb 0) (kSeq (evCP qK (evLP qK n) (sub qdh [1,1,1])) (kFnP qK qjP))) (frOf [(0,(.dat (.sl .byte) s0 none)),(3,(.dat (.int .i64) a3 none)),(4,(.dat (.int .i64) b4 none))])) from by
  funext s0 a3 b4
  refine Eq.trans ?_ (quj (qb 0 (qK.cutb 0) (kSeq (evCP qK (evLP qK n) (sub qdh [1,1,1])) (kFnP qK qjP))) n s0 a3 b4).symm
  rw [show (fun s0 a3 b4=>(qb 0 (qK.cutb 0) (kSeq (evCP qK (evLP qK n) (sub qdh [1,1,1])) (kFnP qK qjP))) (.exit 0) (frOf [(0,(.dat (.sl .byte) s0 none)),(3,(.dat (.int .i64) a3 none)),(4,(.dat (.int .i64) b4 none))]))=(qcb n) from by
   funext s0 a3 b4
   exact qmP n s0 a3 b4]
  all_goals kernel_rfl]
 kernel_rfl
theorem qul:qe G Tryz.prog 147 s_z147:=by
 refine sQ (E:=qK) (c:=qdh) rfl (fun w S hg=>(qa (qjM w S hg) qd)) Tryz.func147 ?_
 intro avs r h
 unfold s_z147 at h
 split at h
 ·obtain ⟨hp,rfl⟩:=Prod.mk.inj h
  obtain ⟨n,hn⟩:=qzR _ hp
  exact ⟨n,_,(qIF n _ _).trans hn,.inl rfl⟩
 ·cases h
end
end Go.Av
