import Derived.Test.YtopepdfipgfakaaGreatDoorCuEvF
import Derived.Test.YtopepdfipgfakaaGreatDoorCuC
import Derived.Test.YtopepdfipgfakaaGreatDoorProg
import Derived.KernelRfl
namespace Go.Av
set_option linter.unusedSimpArgs false
noncomputable section
open Go.Proofs
set_option maxRecDepth 100000
set_option linter.unusedVariables false
def qaA:EnvP:=eQ [(179,s_z179)] 104 (some [2]) nC nC nP
def qaB:Code:=cO Tryz.f128
def qaF:Array ResultVar:=Tryz.f128.results
def resI:Option AV→Int→Bool
 | some (.dat (.int .i64) x none),v=>x==v
 | _,_=>false
theorem qIs {o:Option AV} {v:Int} (h:resI o v=true):o=some (.dat (.int .i64) v none):=by
 unfold resI at h
 split at h
 ·simp only [beq_iff_eq] at h
  subst h
  rfl
 ·cases h
theorem qLn:∀ i:Fin 16,resI (evFnP qaA 1 qaB qaF [.dat .byte (UInt8.ofNat (0+i.val)) none]) (z128 (UInt8.ofNat (0+i.val)))=true:=by decide +kernel
theorem qLo:∀ i:Fin 16,resI (evFnP qaA 1 qaB qaF [.dat .byte (UInt8.ofNat (16+i.val)) none]) (z128 (UInt8.ofNat (16+i.val)))=true:=by decide +kernel
theorem qLp:∀ i:Fin 16,resI (evFnP qaA 1 qaB qaF [.dat .byte (UInt8.ofNat (32+i.val)) none]) (z128 (UInt8.ofNat (32+i.val)))=true:=by decide +kernel
theorem qLq:∀ i:Fin 16,resI (evFnP qaA 1 qaB qaF [.dat .byte (UInt8.ofNat (48+i.val)) none]) (z128 (UInt8.ofNat (48+i.val)))=true:=by decide +kernel
theorem qLr:∀ i:Fin 16,resI (evFnP qaA 1 qaB qaF [.dat .byte (UInt8.ofNat (64+i.val)) none]) (z128 (UInt8.ofNat (64+i.val)))=true:=by decide +kernel
theorem qLs:∀ i:Fin 16,resI (evFnP qaA 1 qaB qaF [.dat .byte (UInt8.ofNat (80+i.val)) none]) (z128 (UInt8.ofNat (80+i.val)))=true:=by decide +kernel
theorem qLt:∀ i:Fin 16,resI (evFnP qaA 1 qaB qaF [.dat .byte (UInt8.ofNat (96+i.val)) none]) (z128 (UInt8.ofNat (96+i.val)))=true:=by decide +kernel
theorem qLu:∀ i:Fin 16,resI (evFnP qaA 1 qaB qaF [.dat .byte (UInt8.ofNat (112+i.val)) none]) (z128 (UInt8.ofNat (112+i.val)))=true:=by decide +kernel
theorem qLv:∀ i:Fin 16,resI (evFnP qaA 1 qaB qaF [.dat .byte (UInt8.ofNat (128+i.val)) none]) (z128 (UInt8.ofNat (128+i.val)))=true:=by decide +kernel
theorem qLw:∀ i:Fin 16,resI (evFnP qaA 1 qaB qaF [.dat .byte (UInt8.ofNat (144+i.val)) none]) (z128 (UInt8.ofNat (144+i.val)))=true:=by decide +kernel
theorem qIt:∀ i:Fin 16,resI (evFnP qaA 1 qaB qaF [.dat .byte (UInt8.ofNat (160+i.val)) none]) (z128 (UInt8.ofNat (160+i.val)))=true:=by decide +kernel
theorem qIu:∀ i:Fin 16,resI (evFnP qaA 1 qaB qaF [.dat .byte (UInt8.ofNat (176+i.val)) none]) (z128 (UInt8.ofNat (176+i.val)))=true:=by decide +kernel
theorem qIv:∀ i:Fin 16,resI (evFnP qaA 1 qaB qaF [.dat .byte (UInt8.ofNat (192+i.val)) none]) (z128 (UInt8.ofNat (192+i.val)))=true:=by decide +kernel
theorem qIw:∀ i:Fin 16,resI (evFnP qaA 1 qaB qaF [.dat .byte (UInt8.ofNat (208+i.val)) none]) (z128 (UInt8.ofNat (208+i.val)))=true:=by decide +kernel
theorem qIx:∀ i:Fin 16,resI (evFnP qaA 1 qaB qaF [.dat .byte (UInt8.ofNat (224+i.val)) none]) (z128 (UInt8.ofNat (224+i.val)))=true:=by decide +kernel
theorem qIy:∀ i:Fin 16,resI (evFnP qaA 1 qaB qaF [.dat .byte (UInt8.ofNat (240+i.val)) none]) (z128 (UInt8.ofNat (240+i.val)))=true:=by decide +kernel
theorem qCV:∀ i:Fin 256,resI (evFnP qaA 1 qaB qaF [.dat .byte (UInt8.ofNat (i.val)) none]) (z128 (UInt8.ofNat (i.val)))=true:=fun ⟨i,hi⟩=>by
 rcases (show i / 16=0∨i / 16=1∨i / 16=2∨i / 16=3∨i / 16=4∨i / 16=5∨i / 16=6∨i / 16=7∨i / 16=8∨i / 16=9∨i / 16=10∨i / 16=11∨i / 16=12∨i / 16=13∨i / 16=14∨i / 16=15 by omega) with e | e | e | e | e | e | e | e | e | e | e | e | e | e | e | e
 ·have h:=qLn ⟨i - 0,by omega⟩
  have e2:0+(i - 0)=i:=by omega
  simp only [e2] at h
  exact h
 ·have h:=qLo ⟨i - 16,by omega⟩
  have e2:16+(i - 16)=i:=by omega
  simp only [e2] at h
  exact h
 ·have h:=qLp ⟨i - 32,by omega⟩
  have e2:32+(i - 32)=i:=by omega
  simp only [e2] at h
  exact h
 ·have h:=qLq ⟨i - 48,by omega⟩
  have e2:48+(i - 48)=i:=by omega
  simp only [e2] at h
  exact h
 ·have h:=qLr ⟨i - 64,by omega⟩
  have e2:64+(i - 64)=i:=by omega
  simp only [e2] at h
  exact h
 ·have h:=qLs ⟨i - 80,by omega⟩
  have e2:80+(i - 80)=i:=by omega
  simp only [e2] at h
  exact h
 ·have h:=qLt ⟨i - 96,by omega⟩
  have e2:96+(i - 96)=i:=by omega
  simp only [e2] at h
  exact h
 ·have h:=qLu ⟨i - 112,by omega⟩
  have e2:112+(i - 112)=i:=by omega
  simp only [e2] at h
  exact h
 ·have h:=qLv ⟨i - 128,by omega⟩
  have e2:128+(i - 128)=i:=by omega
  simp only [e2] at h
  exact h
 ·have h:=qLw ⟨i - 144,by omega⟩
  have e2:144+(i - 144)=i:=by omega
  simp only [e2] at h
  exact h
 ·have h:=qIt ⟨i - 160,by omega⟩
  have e2:160+(i - 160)=i:=by omega
  simp only [e2] at h
  exact h
 ·have h:=qIu ⟨i - 176,by omega⟩
  have e2:176+(i - 176)=i:=by omega
  simp only [e2] at h
  exact h
 ·have h:=qIv ⟨i - 192,by omega⟩
  have e2:192+(i - 192)=i:=by omega
  simp only [e2] at h
  exact h
 ·have h:=qIw ⟨i - 208,by omega⟩
  have e2:208+(i - 208)=i:=by omega
  simp only [e2] at h
  exact h
 ·have h:=qIx ⟨i - 224,by omega⟩
  have e2:224+(i - 224)=i:=by omega
  simp only [e2] at h
  exact h
 ·have h:=qIy ⟨i - 240,by omega⟩
  have e2:240+(i - 240)=i:=by omega
  simp only [e2] at h
  exact h
theorem qIz (c:UInt8) (o:Lab):evFnP qaA 1 qaB qaF [.dat .byte c o]=some (.dat (.int .i64) (z128 c) none):=by
 have h:resI (evFnP qaA 1 qaB qaF [.dat .byte c none]) (z128 c)=true:=qLZ (P:=fun c=>resI (evFnP qaA 1 qaB qaF [.dat .byte c none]) (z128 c)=true) qCV c
 have e:evFnP qaA 1 qaB qaF [.dat .byte c o]=evFnP qaA 1 qaB qaF [.dat .byte c none]:=by
  unfold evFnP
  have:(fun t=>(([.dat .byte c o]:List AV).getD t .bad).strip)=fun t=>(([.dat .byte c none]:List AV).getD t .bad).strip:=by
   funext t
   match t with
   | 0=>rfl
   | t+1=>rfl
  rw [this]
  rfl
 rw [e]
 exact qIs h
theorem quL:qe Gc Tryz.prog 128 s_z128:=by
 refine qM qaP (E:=qaA) (fn:=Tryz.f128) (c:=qaB) (qw rfl qgZ) (fun w S hg=>⟨⟨(qb (quK w S hg) qc),fun f sp h=>qcL f sp h w S⟩,qbb w S hg,(fun _ _ h=>by cases h),(fun _ _ h=>by cases h),(fun _ _ h=>by cases h),(fun t kt vt h=>qex t kt vt h)⟩) follows Tryz.func128 (by kernel_rfl) (by kernel_rfl) (by kernel_rfl) ?_
 intro avs r h
 unfold s_z128 at h
 split at h
 ·simp only [Prod.mk.injEq,true_and] at h
  subst h
  exact ⟨1,_,qIz _ _,.inl rfl⟩
 ·cases h
def E_z82:EnvP:=eQ [(128,s_z128)] 10 (some [4]) nC nC nP
def C_z82:Code:=cO Tryz.f82
def R_z82:Array ResultVar:=Tryz.f82.results
theorem qLx (n:Nat) (c0:UInt8) (o0:Lab) (kinds1:Int) (o1:Lab):evFnP E_z82 n C_z82 R_z82 [.dat .byte c0 o0,.dat (.int .i64) kinds1 o1]=qJq n c0 kinds1:=by
 kernel_rfl
theorem qyQ:qe Gc Tryz.prog 82 s_z82:=by
 refine sQ (E:=E_z82) (c:=C_z82) rfl (fun w S hg=>(qb (quL w S hg) qc)) Tryz.func82 ?_
 intro avs r h
 unfold s_z82 at h
 split at h <;> cases h
 obtain ⟨n,hn⟩:=qDS _ _
 exact ⟨n,_,(qLx n _ _ _ _).trans hn,.inl rfl⟩
def qIA:EnvP:=eQ [] 17 (some [2]) nC nC nP
def qIB:Code:=cO Tryz.f184
def qLy:Array ResultVar:=Tryz.f184.results
theorem qIC (n:Nat) (n0:Int) (o0:Lab):evFnP qIA n qIB qLy [.dat (.int .i64) n0 o0]=qwx n n0:=by
 kernel_rfl
theorem quM:qe Gc Tryz.prog 184 s_z184:=by
 refine sQ (E:=qIA) (c:=qIB) rfl (fun w S hg=>qc) Tryz.func184 ?_
 intro avs r h
 unfold s_z184 at h
 split at h
 ·obtain ⟨hp,rfl⟩:=Prod.mk.inj h
  obtain ⟨n,hn⟩:=qzY _ hp
  exact ⟨n,_,(qIC n _ _).trans hn,.inl rfl⟩
 ·cases h
def qID:EnvP:=eQ [(184,s_z184)] 20 (some [6]) nC nC nP
def qIE:Code:=cO Tryz.f137
def qLz:Array ResultVar:=Tryz.f137.results
theorem qIF (n:Nat) (b0:List UInt8) (o0:Lab) (sign1:UInt8) (o1:Lab) (c2:UInt8) (o2:Lab):evFnP qID n qIE qLz [.dat (.sl .byte) b0 o0,.dat .byte sign1 o1,.dat .byte c2 o2]=qwz n b0 sign1 c2:=by
 kernel_rfl
theorem quN:qe Gc Tryz.prog 137 s_z137:=by
 refine sQ (E:=qID) (c:=qIE) rfl (fun w S hg=>(qb (quM w S hg) qc)) Tryz.func137 ?_
 intro avs r h
 unfold s_z137 at h
 split at h
 ·obtain ⟨hp,rfl⟩:=Prod.mk.inj h
  obtain ⟨n,hn⟩:=qAa _ _ _ hp
  exact ⟨n,_,(qIF n _ _ _ _ _ _).trans hn,.inl rfl⟩
 ·cases h
def E_z91:EnvP:=eQ [(82,s_z82),(137,s_z137)] 12 (some [2]) nC nC nP
def C_z91:Code:=cO Tryz.f91
def R_z91:Array ResultVar:=Tryz.f91.results
theorem qLA (n:Nat) (c0:UInt8) (o0:Lab):evFnP E_z91 n C_z91 R_z91 [.dat .byte c0 o0]=qDH n c0:=by
 kernel_rfl
theorem qyR:qe Gc Tryz.prog 91 s_z91:=by
 refine sQ (E:=E_z91) (c:=C_z91) rfl (fun w S hg=>(qb (qyQ w S hg) (qb (quN w S hg) qc))) Tryz.func91 ?_
 intro avs r h
 unfold s_z91 at h
 split at h <;> cases h
 obtain ⟨n,hn⟩:=qEk _
 exact ⟨n,_,(qLA n _ _).trans hn,.inl rfl⟩
def E_z50:EnvP:=eQ [(91,s_z91)] 19 (some [2]) (fun x=>if x=3 then some [0,3,4] else none) (fun x=>if x=0 then some [3] else if x=1 then some [0,3,4] else none) nP
def C_z50:Code:=cO Tryz.f50
def R_z50:Array ResultVar:=Tryz.f50.results
noncomputable def qkG (K:Ex→Fr→Option AV):=fun out3=>K (.exit 0) (frOf [(3,(.dat (.sl .byte) out3 (some (3,5))))])
def qoH (n:Nat):Ex→Fr→Option AV:=qm 0 (E_z50.cutb 0) (kSeq (evCP E_z50 (evLP E_z50 n) (sub C_z50 [1,1,1])) (kFnP E_z50 R_z50))
def quO (s0:List UInt8) (out3:List UInt8) (i4:Int):Fr:=frOf [(0,(.dat (.sl .byte) s0 none)),(3,(.dat (.sl .byte) out3 (some (3,5)))),(4,(.dat (.int .i64) i4 none))]
theorem qyS (K:Ex→Fr→Option AV):∀ (n:Nat) (s0:List UInt8) (out3:List UInt8) (i4:Int),evLP E_z50 n (sub C_z50 [1,1,0,1,0,0]) K (quO s0 out3 i4)=qmX (qkG K) n s0 out3 i4:=by
 intro n
 induction n with
 | zero=>intros; rfl
 | succ n IH =>
 intro s0 out3 i4
 have ih:(fun s0 out3 i4=>evLP E_z50 n (sub C_z50 [1,1,0,1,0,0]) K (quO s0 out3 i4))=qmX (qkG K) n:=by
  funext s0 out3 i4
  exact IH s0 out3 i4
 show _=qem (qkG K) (qmX (qkG K) n) n s0 out3 i4
 rw [← ih]
 kernel_rfl
theorem qrw (n:Nat) (out3:List UInt8):(qoH n) (.exit 0) (frOf [(3,(.dat (.sl .byte) out3 (some (3,5))))])=qen n out3:=by
 kernel_rfl
theorem qLB (n:Nat) (s0:List UInt8) (o0:Lab):evFnP E_z50 n C_z50 R_z50 [.dat (.sl .byte) s0 o0]=qzH n s0:=by
 unfold qzH
 rw [show qmX (qen n) n=(fun s0 out3 i4=>evLP E_z50 n (sub C_z50 [1,1,0,1,0,0]) (qoH n) (quO s0 out3 i4)) from by
  funext s0 out3 i4
  refine Eq.trans ?_ (qyS (qoH n) n s0 out3 i4).symm
  rw [show (qkG (qoH n))=(qen n) from by
   funext out3
   exact qrw n out3]
  all_goals kernel_rfl]
 kernel_rfl
theorem qoI:qe Gc Tryz.prog 50 s_z50:=by
 refine sQ (E:=E_z50) (c:=C_z50) rfl (fun w S hg=>(qb (qyR w S hg) qc)) Tryz.func50 ?_
 intro avs r h
 unfold s_z50 at h
 split at h
 ·obtain ⟨hp,rfl⟩:=Prod.mk.inj h
  obtain ⟨n,hn⟩:=qEl _ hp
  exact ⟨n,_,(qLB n _ _).trans hn,.inl rfl⟩
 ·cases h
def E_z92:EnvP:=eQ [] 19 (some [2]) nC (fun x=>if x=0 then some [] else none) nP
def C_z92:Code:=cO Tryz.f92
def R_z92:Array ResultVar:=Tryz.f92.results
theorem qLC (n:Nat) (n0:Int) (o0:Lab):evFnP E_z92 n C_z92 R_z92 [.dat (.int .i64) n0 o0]=qDI n n0:=by
 kernel_rfl
theorem qyT:qe Gc Tryz.prog 92 s_z92:=by
 refine sQ (E:=E_z92) (c:=C_z92) rfl (fun w S hg=>qc) Tryz.func92 ?_
 intro avs r h
 unfold s_z92 at h
 split at h <;> cases h
 obtain ⟨n,hn⟩:=qDZ _
 exact ⟨n,_,(qLC n _ _).trans hn,.inl rfl⟩
def E_z51:EnvP:=eQ [(92,s_z92)] 12 (some [2]) nC nC nP
def C_z51:Code:=cO Tryz.f51
def R_z51:Array ResultVar:=Tryz.f51.results
theorem qLD (n:Nat) (n0:Int) (o0:Lab):evFnP E_z51 n C_z51 R_z51 [.dat (.int .i64) n0 o0]=qDJ n n0:=by
 kernel_rfl
theorem qoJ:qe Gc Tryz.prog 51 s_z51:=by
 refine sQ (E:=E_z51) (c:=C_z51) rfl (fun w S hg=>(qb (qyT w S hg) qc)) Tryz.func51 ?_
 intro avs r h
 unfold s_z51 at h
 split at h <;> cases h
 obtain ⟨n,hn⟩:=qEb _
 exact ⟨n,_,(qLD n _ _).trans hn,.inl rfl⟩
def E_z16:EnvP:=eQ [(49,s_z49),(50,s_z50),(51,s_z51)] 49 (some [1000006,7]) nC nC (fun x=>if x=39 then some (.osl 5 .byte) else if x=41 then some (.osl 5 .byte) else if x=44 then some (.osl 5 .byte) else none)
def C_z16:Code:=cO Tryz.f16
def R_z16:Array ResultVar:=Tryz.f16.results
theorem qLE (n:Nat) (charset0:Int) (o0:Lab) (code1:Int) (o1:Lab) (s2:List UInt8) (o2:Lab):evFnP E_z16 n C_z16 R_z16 [.dat (.int .i64) charset0 o0,.dat (.int .i64) code1 o1,.dat (.sl .byte) s2 o2]=qDK n charset0 code1 s2:=by
 kernel_rfl
theorem qyU:qe Gc Tryz.prog 16 s_z16:=by
 refine sQ (E:=E_z16) (c:=C_z16) rfl (fun w S hg=>(qb (qoG w S hg) (qb (qoI w S hg) (qb (qoJ w S hg) qc)))) Tryz.func16 ?_
 intro avs r h
 unfold s_z16 at h
 split at h
 ·obtain ⟨hp,rfl⟩:=Prod.mk.inj h
  obtain ⟨n,hn⟩:=qEt _ _ _ hp
  exact ⟨n,_,(qLE n _ _ _ _ _ _).trans hn,.inl rfl⟩
 ·cases h
def E_z18:EnvP:=eQ [(51,s_z51)] 13 (some [2]) nC nC nP
def C_z18:Code:=cO Tryz.f18
def R_z18:Array ResultVar:=Tryz.f18.results
theorem qLF (n:Nat) (charset0:Int) (o0:Lab):evFnP E_z18 n C_z18 R_z18 [.dat (.int .i64) charset0 o0]=qDL n charset0:=by
 kernel_rfl
theorem qyV:qe Gc Tryz.prog 18 s_z18:=by
 refine sQ (E:=E_z18) (c:=C_z18) rfl (fun w S hg=>(qb (qoJ w S hg) qc)) Tryz.func18 ?_
 intro avs r h
 unfold s_z18 at h
 split at h <;> cases h
 obtain ⟨n,hn⟩:=qEg _
 exact ⟨n,_,(qLF n _ _).trans hn,.inl rfl⟩
def qIG:EnvP:=eQ [] 5 (some [2]) nC nC nP
def qIH:Code:=cO Tryz.f210
def qLG:Array ResultVar:=Tryz.f210.results
theorem qII (n:Nat) (x0:UInt8) (o0:Lab):evFnP qIG n qIH qLG [.dat .byte x0 o0]=qBY n x0:=by
 kernel_rfl
theorem quP:qe Gc Tryz.prog 210 s_z210:=by
 refine sQ (E:=qIG) (c:=qIH) rfl (fun w S hg=>qc) Tryz.func210 ?_
 intro avs r h
 unfold s_z210 at h
 split at h <;> cases h
 obtain ⟨n,hn⟩:=qAG _
 exact ⟨n,_,(qII n _ _).trans hn,.inl rfl⟩
def qiY:EnvP:=eQ [(210,s_z210)] 20 (some [2,3]) (fun x=>if x=2 then some [0,4] else none) (fun x=>if x=0 then some [] else if x=1 then some [0,4] else none) nP
def qrx:Code:=cO Tryz.f168
def qIJ:Array ResultVar:=Tryz.f168.results
noncomputable def qiZ (K:Ex→Fr→Option AV):=fun s2 s3=>K .ret (frOf [(2,(.dat .byte s2 none)),(3,(.dat .bool s3 none))])
def qja (n:Nat):Ex→Fr→Option AV:=qm 0 (qiY.cutb 0) (kSeq (evCP qiY (evLP qiY n) (sub qrx [1,1])) (kFnP qiY qIJ))
def qmA (c0:Int) (n4:Int):Fr:=frOf [(0,(.dat (.int .i32) c0 none)),(4,(.dat (.int .i64) n4 none))]
theorem quQ (K:Ex→Fr→Option AV):∀ (n:Nat) (c0:Int) (n4:Int),evLP qiY n (sub qrx [1,0,1,0,0]) K (qmA c0 n4)=qeH (qiZ K) (K (.exit 0) (frOf [])) n c0 n4:=by
 intro n
 induction n with
 | zero=>intros; rfl
 | succ n IH =>
 intro c0 n4
 have ih:(fun c0 n4=>evLP qiY n (sub qrx [1,0,1,0,0]) K (qmA c0 n4))=qeH (qiZ K) (K (.exit 0) (frOf [])) n:=by
  funext c0 n4
  exact IH c0 n4
 show _=qff (qiZ K) (K (.exit 0) (frOf [])) (qeH (qiZ K) (K (.exit 0) (frOf [])) n) n c0 n4
 rw [← ih]
 kernel_rfl
theorem qmB (n:Nat)  : (qja n) (.exit 0) (frOf [])=qfg n  := by
 kernel_rfl
theorem qIK (n:Nat) (c0:Int) (o0:Lab):evFnP qiY n qrx qIJ [.dat (.int .i32) c0 o0]=qpG n c0:=by
 unfold qpG
 rw [show qeH qjq (qfg n) n=(fun c0 n4=>evLP qiY n (sub qrx [1,0,1,0,0]) (qja n) (qmA c0 n4)) from by
  funext c0 n4
  refine Eq.trans ?_ (quQ (qja n) n c0 n4).symm
  rw [show ((qja n) (.exit 0) (frOf []))=(qfg n) from by
   exact qmB n ]
  all_goals kernel_rfl]
 kernel_rfl
theorem qkH:qe Gc Tryz.prog 168 s_z168:=by
 refine sQ (E:=qiY) (c:=qrx) rfl (fun w S hg=>(qb (quP w S hg) qc)) Tryz.func168 ?_
 intro avs r h
 unfold s_z168 at h
 split at h <;> cases h
 obtain ⟨n,hn⟩:=qAH _
 exact ⟨n,_,(qIK n _ _).trans hn,.inl rfl⟩
end
end Go.Av
