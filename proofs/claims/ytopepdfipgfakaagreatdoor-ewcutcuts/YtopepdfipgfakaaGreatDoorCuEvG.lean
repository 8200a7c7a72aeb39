import Derived.Test.YtopepdfipgfakaaGreatDoorCuEvF
import Derived.Test.YtopepdfipgfakaaGreatDoorCuC
import Derived.Test.YtopepdfipgfakaaGreatDoorProg
import Derived.KernelRfl
namespace Go.Av
set_option linter.unusedSimpArgs false
noncomputable section
open Go.Proofs
set_option maxRecDepth 100000
set_option linter.unusedVariables false
def E_z49:EnvP:=eQ [(90,s_z90)] 14 (some [2]) (fun x=>if x=2 then some [3] else none) (fun x=>if x=0 then some [3] else if x=1 then some [3] else none) nP
def C_z49:Code:=cO Tryz.f49
def R_z49:Array ResultVar:=Tryz.f49.results
def qkl (out3:List UInt8):Fr:=frOf [(3,(.dat (.sl .byte) out3 (some (3,5))))]
noncomputable def qkm (K:Ex→Fr→Option AV):=fun out3=>K (.exit 0) (qkl out3)
def qof (n:Nat):Ex→Fr→Option AV:=qm 0 (E_z49.cutb 0) (kSeq (evCP E_z49 (evLP E_z49 n) (sub C_z49 [1,1,1])) (kFnP E_z49 R_z49))
theorem qxW (K:Ex→Fr→Option AV):∀ (n:Nat) (out3:List UInt8),evLP E_z49 n (sub C_z49 [1,1,0,0,0]) K (qkl out3)=qmC (qkm K) n out3:=by
 intro n
 induction n with
 | zero=>intros; rfl
 | succ n IH =>
 intro out3
 have ih:(fun out3=>evLP E_z49 n (sub C_z49 [1,1,0,0,0]) K (qkl out3))=qmC (qkm K) n:=by
  funext out3
  exact IH out3
 show _=qja (qkm K) (qmC (qkm K) n) n out3
 rw [← ih]
 kernel_rfl
theorem qqE (n:Nat) (out3:List UInt8):(qof n) (.exit 0) (qkl out3)=qef n out3:=by
 kernel_rfl
theorem qKq (n:Nat) (s0:List UInt8) (o0:Lab):evFnP E_z49 n C_z49 R_z49 [.dat (.sl .byte) s0 o0]=qyO n s0:=by
 unfold qyO
 rw [show qmC (qef n) n=(fun out3=>evLP E_z49 n (sub C_z49 [1,1,0,0,0]) (qof n) (qkl out3)) from by
  funext out3
  refine Eq.trans ?_ (qxW (qof n) n out3).symm
  rw [show (qkm (qof n))=(qef n) from by
   funext out3
   exact qqE n out3]
  all_goals kernel_rfl]
 kernel_rfl
theorem qxX:qe Gc Tryz.prog 49 s_z49:=by
 refine sQ (E:=E_z49) (c:=C_z49) rfl (fun w S hg=>(qb (qxV w S hg) qc)) Tryz.func49 ?_
 intro avs r h
 unfold s_z49 at h
 split at h
 ·obtain ⟨hp,rfl⟩:=Prod.mk.inj h
  obtain ⟨n,hn⟩:=qDq _ hp
  exact ⟨n,_,(qKq n _ _).trans hn,.inl rfl⟩
 ·cases h
def qiH:EnvP:=eQ [] 17 (some [4]) (fun x=>if x=2 then some [0,1,5] else none) (fun x=>if x=0 then some [] else if x=1 then some [0,1,5] else none) nP
def qqF:Code:=cO Tryz.f179
def qHu:Array ResultVar:=Tryz.f179.results
noncomputable def qiI (K:Ex→Fr→Option AV):=fun s4=>K .ret (frOf [(4,(.dat .bool s4 none))])
def qiJ (n:Nat):Ex→Fr→Option AV:=qm 0 (qiH.cutb 0) (kSeq (evCP qiH (evLP qiH n) (sub qqF [1,1])) (kFnP qiH qHu))
def qme (s0:List UInt8) (c1:UInt8) (i5:Int):Fr:=frOf [(0,(.dat .str s0 none)),(1,(.dat .byte c1 none)),(5,(.dat (.int .i64) i5 none))]
theorem qtS (K:Ex→Fr→Option AV):∀ (n:Nat) (s0:List UInt8) (c1:UInt8) (i5:Int),evLP qiH n (sub qqF [1,0,1,0,0]) K (qme s0 c1 i5)=qdu (qiI K) (K (.exit 0) (frOf [])) n s0 c1 i5:=by
 intro n
 induction n with
 | zero=>intros; rfl
 | succ n IH =>
 intro s0 c1 i5
 have ih:(fun s0 c1 i5=>evLP qiH n (sub qqF [1,0,1,0,0]) K (qme s0 c1 i5))=qdu (qiI K) (K (.exit 0) (frOf [])) n:=by
  funext s0 c1 i5
  exact IH s0 c1 i5
 show _=qcd (qiI K) (K (.exit 0) (frOf [])) (qdu (qiI K) (K (.exit 0) (frOf [])) n) n s0 c1 i5
 rw [← ih]
 kernel_rfl
theorem qmf (n:Nat)  : (qiJ n) (.exit 0) (frOf [])=qdv n  := by
 kernel_rfl
theorem qHv (n:Nat) (s0:List UInt8) (o0:Lab) (c1:UInt8) (o1:Lab):evFnP qiH n qqF qHu [.dat .str s0 o0,.dat .byte c1 o1]=qkG n s0 c1:=by
 unfold qkG
 rw [show qdu qeg (qdv n) n=(fun s0 c1 i5=>evLP qiH n (sub qqF [1,0,1,0,0]) (qiJ n) (qme s0 c1 i5)) from by
  funext s0 c1 i5
  refine Eq.trans ?_ (qtS (qiJ n) n s0 c1 i5).symm
  rw [show ((qiJ n) (.exit 0) (frOf []))=(qdv n) from by
   exact qmf n ]
  all_goals kernel_rfl]
 kernel_rfl
theorem qtT:qe Gc Tryz.prog 179 s_z179:=by
 refine sQ (E:=qiH) (c:=qqF) rfl (fun w S hg=>qc) Tryz.func179 ?_
 intro avs r h
 unfold s_z179 at h
 split at h
 ·obtain ⟨hp,rfl⟩:=Prod.mk.inj h
  obtain ⟨n,hn⟩:=qzc _ _ hp
  exact ⟨n,_,(qHv n _ _ _ _).trans hn,.inl rfl⟩
 ·cases h
def qax:EnvP:=eQ [(179,s_z179)] 104 (some [2]) nC nC nP
def qay:Code:=cO Tryz.f128
def qaC:Array ResultVar:=Tryz.f128.results
def resI:Option AV→Int→Bool
 | some (.dat (.int .i64) x none),v=>x==v
 | _,_=>false
theorem qHw {o:Option AV} {v:Int} (h:resI o v=true):o=some (.dat (.int .i64) v none):=by
 unfold resI at h
 split at h
 ·simp only [beq_iff_eq] at h
  subst h
  rfl
 ·cases h
theorem qKr:∀ i:Fin 16,resI (evFnP qax 1 qay qaC [.dat .byte (UInt8.ofNat (0+i.val)) none]) (z128 (UInt8.ofNat (0+i.val)))=true:=by decide +kernel
theorem qKs:∀ i:Fin 16,resI (evFnP qax 1 qay qaC [.dat .byte (UInt8.ofNat (16+i.val)) none]) (z128 (UInt8.ofNat (16+i.val)))=true:=by decide +kernel
theorem qKt:∀ i:Fin 16,resI (evFnP qax 1 qay qaC [.dat .byte (UInt8.ofNat (32+i.val)) none]) (z128 (UInt8.ofNat (32+i.val)))=true:=by decide +kernel
theorem qKu:∀ i:Fin 16,resI (evFnP qax 1 qay qaC [.dat .byte (UInt8.ofNat (48+i.val)) none]) (z128 (UInt8.ofNat (48+i.val)))=true:=by decide +kernel
theorem qKv:∀ i:Fin 16,resI (evFnP qax 1 qay qaC [.dat .byte (UInt8.ofNat (64+i.val)) none]) (z128 (UInt8.ofNat (64+i.val)))=true:=by decide +kernel
theorem qKw:∀ i:Fin 16,resI (evFnP qax 1 qay qaC [.dat .byte (UInt8.ofNat (80+i.val)) none]) (z128 (UInt8.ofNat (80+i.val)))=true:=by decide +kernel
theorem qKx:∀ i:Fin 16,resI (evFnP qax 1 qay qaC [.dat .byte (UInt8.ofNat (96+i.val)) none]) (z128 (UInt8.ofNat (96+i.val)))=true:=by decide +kernel
theorem qKy:∀ i:Fin 16,resI (evFnP qax 1 qay qaC [.dat .byte (UInt8.ofNat (112+i.val)) none]) (z128 (UInt8.ofNat (112+i.val)))=true:=by decide +kernel
theorem qKz:∀ i:Fin 16,resI (evFnP qax 1 qay qaC [.dat .byte (UInt8.ofNat (128+i.val)) none]) (z128 (UInt8.ofNat (128+i.val)))=true:=by decide +kernel
theorem qKA:∀ i:Fin 16,resI (evFnP qax 1 qay qaC [.dat .byte (UInt8.ofNat (144+i.val)) none]) (z128 (UInt8.ofNat (144+i.val)))=true:=by decide +kernel
theorem qHx:∀ i:Fin 16,resI (evFnP qax 1 qay qaC [.dat .byte (UInt8.ofNat (160+i.val)) none]) (z128 (UInt8.ofNat (160+i.val)))=true:=by decide +kernel
theorem qHy:∀ i:Fin 16,resI (evFnP qax 1 qay qaC [.dat .byte (UInt8.ofNat (176+i.val)) none]) (z128 (UInt8.ofNat (176+i.val)))=true:=by decide +kernel
theorem qHz:∀ i:Fin 16,resI (evFnP qax 1 qay qaC [.dat .byte (UInt8.ofNat (192+i.val)) none]) (z128 (UInt8.ofNat (192+i.val)))=true:=by decide +kernel
theorem qHA:∀ i:Fin 16,resI (evFnP qax 1 qay qaC [.dat .byte (UInt8.ofNat (208+i.val)) none]) (z128 (UInt8.ofNat (208+i.val)))=true:=by decide +kernel
theorem qHB:∀ i:Fin 16,resI (evFnP qax 1 qay qaC [.dat .byte (UInt8.ofNat (224+i.val)) none]) (z128 (UInt8.ofNat (224+i.val)))=true:=by decide +kernel
theorem qHC:∀ i:Fin 16,resI (evFnP qax 1 qay qaC [.dat .byte (UInt8.ofNat (240+i.val)) none]) (z128 (UInt8.ofNat (240+i.val)))=true:=by decide +kernel
theorem qCa:∀ i:Fin 256,resI (evFnP qax 1 qay qaC [.dat .byte (UInt8.ofNat (i.val)) none]) (z128 (UInt8.ofNat (i.val)))=true:=fun ⟨i,hi⟩=>by
 rcases (show i / 16=0∨i / 16=1∨i / 16=2∨i / 16=3∨i / 16=4∨i / 16=5∨i / 16=6∨i / 16=7∨i / 16=8∨i / 16=9∨i / 16=10∨i / 16=11∨i / 16=12∨i / 16=13∨i / 16=14∨i / 16=15 by omega) with e | e | e | e | e | e | e | e | e | e | e | e | e | e | e | e
 ·have h:=qKr ⟨i - 0,by omega⟩
  have e2:0+(i - 0)=i:=by omega
  simp only [e2] at h
  exact h
 ·have h:=qKs ⟨i - 16,by omega⟩
  have e2:16+(i - 16)=i:=by omega
  simp only [e2] at h
  exact h
 ·have h:=qKt ⟨i - 32,by omega⟩
  have e2:32+(i - 32)=i:=by omega
  simp only [e2] at h
  exact h
 ·have h:=qKu ⟨i - 48,by omega⟩
  have e2:48+(i - 48)=i:=by omega
  simp only [e2] at h
  exact h
 ·have h:=qKv ⟨i - 64,by omega⟩
  have e2:64+(i - 64)=i:=by omega
  simp only [e2] at h
  exact h
 ·have h:=qKw ⟨i - 80,by omega⟩
  have e2:80+(i - 80)=i:=by omega
  simp only [e2] at h
  exact h
 ·have h:=qKx ⟨i - 96,by omega⟩
  have e2:96+(i - 96)=i:=by omega
  simp only [e2] at h
  exact h
 ·have h:=qKy ⟨i - 112,by omega⟩
  have e2:112+(i - 112)=i:=by omega
  simp only [e2] at h
  exact h
 ·have h:=qKz ⟨i - 128,by omega⟩
  have e2:128+(i - 128)=i:=by omega
  simp only [e2] at h
  exact h
 ·have h:=qKA ⟨i - 144,by omega⟩
  have e2:144+(i - 144)=i:=by omega
  simp only [e2] at h
  exact h
 ·have h:=qHx ⟨i - 160,by omega⟩
  have e2:160+(i - 160)=i:=by omega
  simp only [e2] at h
  exact h
 ·have h:=qHy ⟨i - 176,by omega⟩
  have e2:176+(i - 176)=i:=by omega
  simp only [e2] at h
  exact h
 ·have h:=qHz ⟨i - 192,by omega⟩
  have e2:192+(i - 192)=i:=by omega
  simp only [e2] at h
  exact h
 ·have h:=qHA ⟨i - 208,by omega⟩
  have e2:208+(i - 208)=i:=by omega
  simp only [e2] at h
  exact h
 ·have h:=qHB ⟨i - 224,by omega⟩
  have e2:224+(i - 224)=i:=by omega
  simp only [e2] at h
  exact h
 ·have h:=qHC ⟨i - 240,by omega⟩
  have e2:240+(i - 240)=i:=by omega
  simp only [e2] at h
  exact h
theorem qHD (c:UInt8) (o:Lab):evFnP qax 1 qay qaC [.dat .byte c o]=some (.dat (.int .i64) (z128 c) none):=by
 have h:resI (evFnP qax 1 qay qaC [.dat .byte c none]) (z128 c)=true:=qKX (P:=fun c=>resI (evFnP qax 1 qay qaC [.dat .byte c none]) (z128 c)=true) qCa c
 have e:evFnP qax 1 qay qaC [.dat .byte c o]=evFnP qax 1 qay qaC [.dat .byte c none]:=by
  unfold evFnP
  have:(fun t=>(([.dat .byte c o]:List AV).getD t .bad).strip)=fun t=>(([.dat .byte c none]:List AV).getD t .bad).strip:=by
   funext t
   match t with
   | 0=>rfl
   | t+1=>rfl
  rw [this]
  rfl
 rw [e]
 exact qHw h
theorem qtU:qe Gc Tryz.prog 128 s_z128:=by
 refine qM qaM (E:=qax) (fn:=Tryz.f128) (c:=qay) (qw rfl qgQ) (fun w S hg=>⟨⟨(qb (qtT w S hg) qc),fun f sp h=>qcH f sp h w S⟩,qaZ w S hg,(fun _ _ h=>by cases h),(fun _ _ h=>by cases h),(fun _ _ h=>by cases h),(fun t kt vt h=>qer t kt vt h)⟩) follows Tryz.func128 (by kernel_rfl) (by kernel_rfl) (by kernel_rfl) ?_
 intro avs r h
 unfold s_z128 at h
 split at h
 ·simp only [Prod.mk.injEq,true_and] at h
  subst h
  exact ⟨1,_,qHD _ _,.inl rfl⟩
 ·cases h
def E_z82:EnvP:=eQ [(128,s_z128)] 10 (some [4]) nC nC nP
def C_z82:Code:=cO Tryz.f82
def R_z82:Array ResultVar:=Tryz.f82.results
theorem qKB (n:Nat) (c0:UInt8) (o0:Lab) (kinds1:Int) (o1:Lab):evFnP E_z82 n C_z82 R_z82 [.dat .byte c0 o0,.dat (.int .i64) kinds1 o1]=qIt n c0 kinds1:=by
 kernel_rfl
theorem qxY:qe Gc Tryz.prog 82 s_z82:=by
 refine sQ (E:=E_z82) (c:=C_z82) rfl (fun w S hg=>(qb (qtU w S hg) qc)) Tryz.func82 ?_
 intro avs r h
 unfold s_z82 at h
 split at h <;> cases h
 obtain ⟨n,hn⟩:=qCV _ _
 exact ⟨n,_,(qKB n _ _ _ _).trans hn,.inl rfl⟩
def qHE:EnvP:=eQ [] 17 (some [2]) nC nC nP
def qHF:Code:=cO Tryz.f184
def qKC:Array ResultVar:=Tryz.f184.results
theorem qHG (n:Nat) (n0:Int) (o0:Lab):evFnP qHE n qHF qKC [.dat (.int .i64) n0 o0]=qvF n n0:=by
 kernel_rfl
theorem qtV:qe Gc Tryz.prog 184 s_z184:=by
 refine sQ (E:=qHE) (c:=qHF) rfl (fun w S hg=>qc) Tryz.func184 ?_
 intro avs r h
 unfold s_z184 at h
 split at h
 ·obtain ⟨hp,rfl⟩:=Prod.mk.inj h
  obtain ⟨n,hn⟩:=qze _ hp
  exact ⟨n,_,(qHG n _ _).trans hn,.inl rfl⟩
 ·cases h
def qHH:EnvP:=eQ [(184,s_z184)] 20 (some [6]) nC nC nP
def qHI:Code:=cO Tryz.f137
def qKD:Array ResultVar:=Tryz.f137.results
theorem qHJ (n:Nat) (b0:List UInt8) (o0:Lab) (sign1:UInt8) (o1:Lab) (c2:UInt8) (o2:Lab):evFnP qHH n qHI qKD [.dat (.sl .byte) b0 o0,.dat .byte sign1 o1,.dat .byte c2 o2]=qvH n b0 sign1 c2:=by
 kernel_rfl
theorem qtW:qe Gc Tryz.prog 137 s_z137:=by
 refine sQ (E:=qHH) (c:=qHI) rfl (fun w S hg=>(qb (qtV w S hg) qc)) Tryz.func137 ?_
 intro avs r h
 unfold s_z137 at h
 split at h
 ·obtain ⟨hp,rfl⟩:=Prod.mk.inj h
  obtain ⟨n,hn⟩:=qzg _ _ _ hp
  exact ⟨n,_,(qHJ n _ _ _ _ _ _).trans hn,.inl rfl⟩
 ·cases h
def E_z91:EnvP:=eQ [(82,s_z82),(137,s_z137)] 12 (some [2]) nC nC nP
def C_z91:Code:=cO Tryz.f91
def R_z91:Array ResultVar:=Tryz.f91.results
theorem qKE (n:Nat) (c0:UInt8) (o0:Lab):evFnP E_z91 n C_z91 R_z91 [.dat .byte c0 o0]=qCP n c0:=by
 kernel_rfl
theorem qxZ:qe Gc Tryz.prog 91 s_z91:=by
 refine sQ (E:=E_z91) (c:=C_z91) rfl (fun w S hg=>(qb (qxY w S hg) (qb (qtW w S hg) qc))) Tryz.func91 ?_
 intro avs r h
 unfold s_z91 at h
 split at h <;> cases h
 obtain ⟨n,hn⟩:=qDn _
 exact ⟨n,_,(qKE n _ _).trans hn,.inl rfl⟩
def E_z50:EnvP:=eQ [(91,s_z91)] 19 (some [2]) (fun x=>if x=3 then some [0,3,4] else none) (fun x=>if x=0 then some [3] else if x=1 then some [0,3,4] else none) nP
def C_z50:Code:=cO Tryz.f50
def R_z50:Array ResultVar:=Tryz.f50.results
noncomputable def qkn (K:Ex→Fr→Option AV):=fun out3=>K (.exit 0) (frOf [(3,(.dat (.sl .byte) out3 (some (3,5))))])
def qog (n:Nat):Ex→Fr→Option AV:=qm 0 (E_z50.cutb 0) (kSeq (evCP E_z50 (evLP E_z50 n) (sub C_z50 [1,1,1])) (kFnP E_z50 R_z50))
def qtX (s0:List UInt8) (out3:List UInt8) (i4:Int):Fr:=frOf [(0,(.dat (.sl .byte) s0 none)),(3,(.dat (.sl .byte) out3 (some (3,5)))),(4,(.dat (.int .i64) i4 none))]
theorem qya (K:Ex→Fr→Option AV):∀ (n:Nat) (s0:List UInt8) (out3:List UInt8) (i4:Int),evLP E_z50 n (sub C_z50 [1,1,0,1,0,0]) K (qtX s0 out3 i4)=qmE (qkn K) n s0 out3 i4:=by
 intro n
 induction n with
 | zero=>intros; rfl
 | succ n IH =>
 intro s0 out3 i4
 have ih:(fun s0 out3 i4=>evLP E_z50 n (sub C_z50 [1,1,0,1,0,0]) K (qtX s0 out3 i4))=qmE (qkn K) n:=by
  funext s0 out3 i4
  exact IH s0 out3 i4
 show _=qeh (qkn K) (qmE (qkn K) n) n s0 out3 i4
 rw [← ih]
 kernel_rfl
theorem qqG (n:Nat) (out3:List UInt8):(qog n) (.exit 0) (frOf [(3,(.dat (.sl .byte) out3 (some (3,5))))])=qei n out3:=by
 kernel_rfl
theorem qKF (n:Nat) (s0:List UInt8) (o0:Lab):evFnP E_z50 n C_z50 R_z50 [.dat (.sl .byte) s0 o0]=qyP n s0:=by
 unfold qyP
 rw [show qmE (qei n) n=(fun s0 out3 i4=>evLP E_z50 n (sub C_z50 [1,1,0,1,0,0]) (qog n) (qtX s0 out3 i4)) from by
  funext s0 out3 i4
  refine Eq.trans ?_ (qya (qog n) n s0 out3 i4).symm
  rw [show (qkn (qog n))=(qei n) from by
   funext out3
   exact qqG n out3]
  all_goals kernel_rfl]
 kernel_rfl
theorem qyb:qe Gc Tryz.prog 50 s_z50:=by
 refine sQ (E:=E_z50) (c:=C_z50) rfl (fun w S hg=>(qb (qxZ w S hg) qc)) Tryz.func50 ?_
 intro avs r h
 unfold s_z50 at h
 split at h
 ·obtain ⟨hp,rfl⟩:=Prod.mk.inj h
  obtain ⟨n,hn⟩:=qDo _ hp
  exact ⟨n,_,(qKF n _ _).trans hn,.inl rfl⟩
 ·cases h
def qHK:EnvP:=eQ [] 5 (some [2]) nC nC nP
def qHL:Code:=cO Tryz.f210
def qKG:Array ResultVar:=Tryz.f210.results
theorem qHM (n:Nat) (x0:UInt8) (o0:Lab):evFnP qHK n qHL qKG [.dat .byte x0 o0]=qBg n x0:=by
 kernel_rfl
theorem qtY:qe Gc Tryz.prog 210 s_z210:=by
 refine sQ (E:=qHK) (c:=qHL) rfl (fun w S hg=>qc) Tryz.func210 ?_
 intro avs r h
 unfold s_z210 at h
 split at h <;> cases h
 obtain ⟨n,hn⟩:=qzM _
 exact ⟨n,_,(qHM n _ _).trans hn,.inl rfl⟩
def qiK:EnvP:=eQ [(210,s_z210)] 20 (some [2,3]) (fun x=>if x=2 then some [0,4] else none) (fun x=>if x=0 then some [] else if x=1 then some [0,4] else none) nP
def qqH:Code:=cO Tryz.f168
def qHN:Array ResultVar:=Tryz.f168.results
noncomputable def qiL (K:Ex→Fr→Option AV):=fun s2 s3=>K .ret (frOf [(2,(.dat .byte s2 none)),(3,(.dat .bool s3 none))])
def qiM (n:Nat):Ex→Fr→Option AV:=qm 0 (qiK.cutb 0) (kSeq (evCP qiK (evLP qiK n) (sub qqH [1,1])) (kFnP qiK qHN))
def qmg (c0:Int) (n4:Int):Fr:=frOf [(0,(.dat (.int .i32) c0 none)),(4,(.dat (.int .i64) n4 none))]
theorem qtZ (K:Ex→Fr→Option AV):∀ (n:Nat) (c0:Int) (n4:Int),evLP qiK n (sub qqH [1,0,1,0,0]) K (qmg c0 n4)=qeB (qiL K) (K (.exit 0) (frOf [])) n c0 n4:=by
 intro n
 induction n with
 | zero=>intros; rfl
 | succ n IH =>
 intro c0 n4
 have ih:(fun c0 n4=>evLP qiK n (sub qqH [1,0,1,0,0]) K (qmg c0 n4))=qeB (qiL K) (K (.exit 0) (frOf [])) n:=by
  funext c0 n4
  exact IH c0 n4
 show _=qeX (qiL K) (K (.exit 0) (frOf [])) (qeB (qiL K) (K (.exit 0) (frOf [])) n) n c0 n4
 rw [← ih]
 kernel_rfl
theorem qmh (n:Nat)  : (qiM n) (.exit 0) (frOf [])=qeY n  := by
 kernel_rfl
theorem qHO (n:Nat) (c0:Int) (o0:Lab):evFnP qiK n qqH qHN [.dat (.int .i32) c0 o0]=qoW n c0:=by
 unfold qoW
 rw [show qeB qjb (qeY n) n=(fun c0 n4=>evLP qiK n (sub qqH [1,0,1,0,0]) (qiM n) (qmg c0 n4)) from by
  funext c0 n4
  refine Eq.trans ?_ (qtZ (qiM n) n c0 n4).symm
  rw [show ((qiM n) (.exit 0) (frOf []))=(qeY n) from by
   exact qmh n ]
  all_goals kernel_rfl]
 kernel_rfl
theorem qko:qe Gc Tryz.prog 168 s_z168:=by
 refine sQ (E:=qiK) (c:=qqH) rfl (fun w S hg=>(qb (qtY w S hg) qc)) Tryz.func168 ?_
 intro avs r h
 unfold s_z168 at h
 split at h <;> cases h
 obtain ⟨n,hn⟩:=qzN _
 exact ⟨n,_,(qHO n _ _).trans hn,.inl rfl⟩
end
end Go.Av
