import Derived.Test.YtabdohophompiaaGreatDoorPxEvF
import Derived.Test.YtabdohophompiaaGreatDoorPxN
import Derived.Test.YtabdohophompiaaGreatDoorProg
import Derived.KernelRfl
namespace Go.Av
set_option linter.unusedSimpArgs false
noncomputable section
open Go.Proofs
set_option maxRecDepth 100000
set_option linter.unusedVariables false
def qaU:EnvP:=eQ [(126,s_z126)] 104 (some [2]) nC nC nP
def qaV:Code:=cO Tryz.f101
def qbf:Array ResultVar:=Tryz.f101.results
def resI:Option AV→Int→Bool
 | some (dc x),v=>x==v
 | _,_=>false
theorem qGI {o:Option AV} {v:Int} (h:resI o v=true):o=some (dc v):=by
 unfold resI at h;split at h
 ·simp only [beq_iff_eq] at h;subst h;rfl
 ·cases h
theorem qJj:∀ i:Fin 16,resI (evFnP qaU 1 qaV qbf [dn (UInt8.ofNat (0+i.val)) none]) (z101 (UInt8.ofNat (0+i.val)))=true:=by decide +kernel
theorem qJk:∀ i:Fin 16,resI (evFnP qaU 1 qaV qbf [dn (UInt8.ofNat (16+i.val)) none]) (z101 (UInt8.ofNat (16+i.val)))=true:=by decide +kernel
theorem qJl:∀ i:Fin 16,resI (evFnP qaU 1 qaV qbf [dn (UInt8.ofNat (32+i.val)) none]) (z101 (UInt8.ofNat (32+i.val)))=true:=by decide +kernel
theorem qJm:∀ i:Fin 16,resI (evFnP qaU 1 qaV qbf [dn (UInt8.ofNat (48+i.val)) none]) (z101 (UInt8.ofNat (48+i.val)))=true:=by decide +kernel
theorem qJn:∀ i:Fin 16,resI (evFnP qaU 1 qaV qbf [dn (UInt8.ofNat (64+i.val)) none]) (z101 (UInt8.ofNat (64+i.val)))=true:=by decide +kernel
theorem qJo:∀ i:Fin 16,resI (evFnP qaU 1 qaV qbf [dn (UInt8.ofNat (80+i.val)) none]) (z101 (UInt8.ofNat (80+i.val)))=true:=by decide +kernel
theorem qJp:∀ i:Fin 16,resI (evFnP qaU 1 qaV qbf [dn (UInt8.ofNat (96+i.val)) none]) (z101 (UInt8.ofNat (96+i.val)))=true:=by decide +kernel
theorem qJq:∀ i:Fin 16,resI (evFnP qaU 1 qaV qbf [dn (UInt8.ofNat (112+i.val)) none]) (z101 (UInt8.ofNat (112+i.val)))=true:=by decide +kernel
theorem qJr:∀ i:Fin 16,resI (evFnP qaU 1 qaV qbf [dn (UInt8.ofNat (128+i.val)) none]) (z101 (UInt8.ofNat (128+i.val)))=true:=by decide +kernel
theorem qJs:∀ i:Fin 16,resI (evFnP qaU 1 qaV qbf [dn (UInt8.ofNat (144+i.val)) none]) (z101 (UInt8.ofNat (144+i.val)))=true:=by decide +kernel
theorem qGJ:∀ i:Fin 16,resI (evFnP qaU 1 qaV qbf [dn (UInt8.ofNat (160+i.val)) none]) (z101 (UInt8.ofNat (160+i.val)))=true:=by decide +kernel
theorem qGK:∀ i:Fin 16,resI (evFnP qaU 1 qaV qbf [dn (UInt8.ofNat (176+i.val)) none]) (z101 (UInt8.ofNat (176+i.val)))=true:=by decide +kernel
theorem qGL:∀ i:Fin 16,resI (evFnP qaU 1 qaV qbf [dn (UInt8.ofNat (192+i.val)) none]) (z101 (UInt8.ofNat (192+i.val)))=true:=by decide +kernel
theorem qGM:∀ i:Fin 16,resI (evFnP qaU 1 qaV qbf [dn (UInt8.ofNat (208+i.val)) none]) (z101 (UInt8.ofNat (208+i.val)))=true:=by decide +kernel
theorem qGN:∀ i:Fin 16,resI (evFnP qaU 1 qaV qbf [dn (UInt8.ofNat (224+i.val)) none]) (z101 (UInt8.ofNat (224+i.val)))=true:=by decide +kernel
theorem qGO:∀ i:Fin 16,resI (evFnP qaU 1 qaV qbf [dn (UInt8.ofNat (240+i.val)) none]) (z101 (UInt8.ofNat (240+i.val)))=true:=by decide +kernel
theorem qBD:∀ i:Fin 256,resI (evFnP qaU 1 qaV qbf [dn (UInt8.ofNat (i.val)) none]) (z101 (UInt8.ofNat (i.val)))=true:=fun ⟨i,hi⟩=>by
 rcases (show i / 16=0∨i / 16=1∨i / 16=2∨i / 16=3∨i / 16=4∨i / 16=5∨i / 16=6∨i / 16=7∨i / 16=8∨i / 16=9∨i / 16=10∨i / 16=11∨i / 16=12∨i / 16=13∨i / 16=14∨i / 16=15 by omega) with e | e | e | e | e | e | e | e | e | e | e | e | e | e | e | e
 ·have h:=qJj ⟨i - 0,by omega⟩;have e2:0+(i - 0)=i:=by omega
  simp only [e2] at h;exact h
 ·have h:=qJk ⟨i - 16,by omega⟩;have e2:16+(i - 16)=i:=by omega
  simp only [e2] at h;exact h
 ·have h:=qJl ⟨i - 32,by omega⟩;have e2:32+(i - 32)=i:=by omega
  simp only [e2] at h;exact h
 ·have h:=qJm ⟨i - 48,by omega⟩;have e2:48+(i - 48)=i:=by omega
  simp only [e2] at h;exact h
 ·have h:=qJn ⟨i - 64,by omega⟩;have e2:64+(i - 64)=i:=by omega
  simp only [e2] at h;exact h
 ·have h:=qJo ⟨i - 80,by omega⟩;have e2:80+(i - 80)=i:=by omega
  simp only [e2] at h;exact h
 ·have h:=qJp ⟨i - 96,by omega⟩;have e2:96+(i - 96)=i:=by omega
  simp only [e2] at h;exact h
 ·have h:=qJq ⟨i - 112,by omega⟩;have e2:112+(i - 112)=i:=by omega
  simp only [e2] at h;exact h
 ·have h:=qJr ⟨i - 128,by omega⟩;have e2:128+(i - 128)=i:=by omega
  simp only [e2] at h;exact h
 ·have h:=qJs ⟨i - 144,by omega⟩;have e2:144+(i - 144)=i:=by omega
  simp only [e2] at h;exact h
 ·have h:=qGJ ⟨i - 160,by omega⟩;have e2:160+(i - 160)=i:=by omega
  simp only [e2] at h;exact h
 ·have h:=qGK ⟨i - 176,by omega⟩;have e2:176+(i - 176)=i:=by omega
  simp only [e2] at h;exact h
 ·have h:=qGL ⟨i - 192,by omega⟩;have e2:192+(i - 192)=i:=by omega
  simp only [e2] at h;exact h
 ·have h:=qGM ⟨i - 208,by omega⟩;have e2:208+(i - 208)=i:=by omega
  simp only [e2] at h;exact h
 ·have h:=qGN ⟨i - 224,by omega⟩;have e2:224+(i - 224)=i:=by omega
  simp only [e2] at h;exact h
 ·have h:=qGO ⟨i - 240,by omega⟩;have e2:240+(i - 240)=i:=by omega
  simp only [e2] at h;exact h
theorem qGP (c:UInt8) (o:Lab):evFnP qaU 1 qaV qbf [dn c o]=some (de (z101 c) none):=by
 have h:resI (evFnP qaU 1 qaV qbf [dn c none]) (z101 c)=true:=qJP (P:=fun c=>resI (evFnP qaU 1 qaV qbf [dn c none]) (z101 c)=true) qBD c;have e:evFnP qaU 1 qaV qbf [dn c o]=evFnP qaU 1 qaV qbf [dn c none]:=by
  unfold evFnP;have:(fun t=>(([dn c o]:List AV).getD t .bad).strip)=fun t=>(([dn c none]:List AV).getD t .bad).strip:=by
   funext t;match t with
   | 0=>rfl
   | t+1=>rfl
  rw [this];rfl
 rw [e];exact qGI h
theorem qtw:qe G Tryz.prog 101 s_z101:=by
 refine qJ G_stays (E:=qaU) (fn:=Tryz.f101) (c:=qaV) (qo rfl qdE) (fun w S hg=>⟨⟨(qa (qtv w S hg) qc),fun f sp h=>qbr f sp h w S⟩,qdG w S hg,(fun _ _ h=>by cases h),(fun _ _ h=>by cases h),(fun _ _ h=>by cases h),(fun t kt vt h=>qcE t kt vt h)⟩) follows Tryz.func101 (by kernel_rfl) (by kernel_rfl) (by kernel_rfl) ?_;intro avs r h;unfold s_z101 at h;split at h
 ·simp only [yb,true_and] at h;subst h;exact ⟨1,_,qGP _ _,.inl rfl⟩
 ·cases h
def E_z65:EnvP:=eQ [(101,s_z101)] 10 (some [4]) nC nC nP
def C_z65:Code:=cO Tryz.f65
def R_z65:Array ResultVar:=Tryz.f65.results
theorem qJt (n:Nat) (c0:UInt8) (o0:Lab) (kinds1:Int) (o1:Lab):evFnP E_z65 n C_z65 R_z65 [dn c0 o0,de kinds1 o1]=qHf n c0 kinds1:=by
 kernel_rfl
theorem qou:qe G Tryz.prog 65 s_z65:=by
 refine sQ (E:=E_z65) (c:=C_z65) rfl (fun w S hg=>(qa (qtw w S hg) qc)) Tryz.func65 ?_;intro avs r h;unfold s_z65 at h;split at h <;> cases h
 obtain ⟨n,hn⟩:=qDs _ _;exact ⟨n,_,(qJt n _ _ _ _).trans hn,.inl rfl⟩
def qGQ:EnvP:=eQ [] 17 (some [2]) nC nC nP
def qGR:Code:=cO Tryz.f120
def qJu:Array ResultVar:=Tryz.f120.results
theorem qGS (n:Nat) (n0:Int) (o0:Lab):evFnP qGQ n qGR qJu [de n0 o0]=qvd n n0:=by
 kernel_rfl
theorem qtx:qe G Tryz.prog 120 s_z120:=by
 refine sQ (E:=qGQ) (c:=qGR) rfl (fun w S hg=>qc) Tryz.func120 ?_;intro avs r h;unfold s_z120 at h;split at h
 ·obtain ⟨hp,rfl⟩:=yj h;obtain ⟨n,hn⟩:=qzm _ hp;exact ⟨n,_,(qGS n _ _).trans hn,.inl rfl⟩
 ·cases h
def E_z87:EnvP:=eQ [(120,s_z120)] 20 (some [6]) nC nC nP
def C_z87:Code:=cO Tryz.f87
def R_z87:Array ResultVar:=Tryz.f87.results
theorem qJv (n:Nat) (b0:List UInt8) (o0:Lab) (sign1:UInt8) (o1:Lab) (c2:UInt8) (o2:Lab):evFnP E_z87 n C_z87 R_z87 [db b0 o0,dn sign1 o1,dn c2 o2]=qDf n b0 sign1 c2:=by
 kernel_rfl
theorem qxJ:qe G Tryz.prog 87 s_z87:=by
 refine sQ (E:=E_z87) (c:=C_z87) rfl (fun w S hg=>(qa (qtx w S hg) qc)) Tryz.func87 ?_;intro avs r h;unfold s_z87 at h;split at h
 ·obtain ⟨hp,rfl⟩:=yj h;obtain ⟨n,hn⟩:=qDx _ _ _ hp;exact ⟨n,_,(qJv n _ _ _ _ _ _).trans hn,.inl rfl⟩
 ·cases h
def E_z48:EnvP:=eQ [(65,s_z65),(87,s_z87)] 9 (some [2]) nC nC nP
def C_z48:Code:=cO Tryz.f48
def R_z48:Array ResultVar:=Tryz.f48.results
theorem qJw (n:Nat) (c0:UInt8) (o0:Lab):evFnP E_z48 n C_z48 R_z48 [dn c0 o0]=qDg n c0:=by
 kernel_rfl
theorem qxK:qe G Tryz.prog 48 s_z48:=by
 refine sQ (E:=E_z48) (c:=C_z48) rfl (fun w S hg=>(qa (qou w S hg) (qa (qxJ w S hg) qc))) Tryz.func48 ?_;intro avs r h;unfold s_z48 at h;split at h <;> cases h
 obtain ⟨n,hn⟩:=qBN _;exact ⟨n,_,(qJw n _ _).trans hn,.inl rfl⟩
def E_z26:EnvP:=eQ [(48,s_z48)] 19 (some [2]) (fun x=>if x=3 then some [0,3,4] else none) (fun x=>if x=0 then some [3] else if x=1 then some [0,3,4] else none) nP
def C_z26:Code:=cO Tryz.f26
def R_z26:Array ResultVar:=Tryz.f26.results
noncomputable def qkw (K:Ex→Fr→Option AV):=fun out3=>K (.exit 0) (frOf [(3,(db out3 (some (3,5))))])
def qov (n:Nat):Ex→Fr→Option AV:=qp 0 (E_z26.cutb 0) (kSeq (evCP E_z26 (evLP E_z26 n) (sub C_z26 [1,1,1])) (kFnP E_z26 R_z26))
def qty (s0:List UInt8) (out3:List UInt8) (i4:Int):Fr:=frOf [(0,da s0),(3,(db out3 (some (3,5)))),(4,dc i4)]
theorem qxL (K:Ex→Fr→Option AV):∀ (n:Nat) (s0:List UInt8) (out3:List UInt8) (i4:Int),evLP E_z26 n (sub C_z26 [1,1,0,1,0,0]) K (qty s0 out3 i4)=qmr (qkw K) n s0 out3 i4:=by
 intro n;induction n with
 | zero=>intros; rfl
 | succ n IH =>
 intro s0 out3 i4;have ih:(fun s0 out3 i4=>evLP E_z26 n (sub C_z26 [1,1,0,1,0,0]) K (qty s0 out3 i4))=qmr (qkw K) n:=by
  funext s0 out3 i4;exact IH s0 out3 i4
 show _=qeP (qkw K) (qmr (qkw K) n) n s0 out3 i4;rw [← ih];kernel_rfl
theorem qqA (n:Nat) (out3:List UInt8):(qov n) (.exit 0) (frOf [(3,(db out3 (some (3,5))))])=qeQ n out3:=by
 kernel_rfl
theorem qJx (n:Nat) (s0:List UInt8) (o0:Lab):evFnP E_z26 n C_z26 R_z26 [db s0 o0]=qyR n s0:=by
 unfold qyR;rw [show qmr (qeQ n) n=(fun s0 out3 i4=>evLP E_z26 n (sub C_z26 [1,1,0,1,0,0]) (qov n) (qty s0 out3 i4)) from by
  funext s0 out3 i4;refine Eq.trans ?_ (qxL (qov n) n s0 out3 i4).symm;rw [show (qkw (qov n))=(qeQ n) from by
   funext out3;exact qqA n out3]
  all_goals kernel_rfl]
 kernel_rfl
theorem qxM:qe G Tryz.prog 26 s_z26:=by
 refine sQ (E:=E_z26) (c:=C_z26) rfl (fun w S hg=>(qa (qxK w S hg) qc)) Tryz.func26 ?_;intro avs r h;unfold s_z26 at h;split at h
 ·obtain ⟨hp,rfl⟩:=yj h;obtain ⟨n,hn⟩:=qBO _ hp;exact ⟨n,_,(qJx n _ _).trans hn,.inl rfl⟩
 ·cases h
def E_z10:EnvP:=eQ [(24,s_z24),(25,s_z25),(26,s_z26)] 40 (some [2,3]) (fun x=>if x=6 then some [0,4,6,7] else none) (fun x=>if x=0 then some [6] else if x=1 then some [0,4,6,7] else none) nP
def C_z10:Code:=cO Tryz.f10
def R_z10:Array ResultVar:=Tryz.f10.results
noncomputable def qkx (K:Ex→Fr→Option AV):=fun out6=>K (.exit 0) (frOf [(6,(.dat (.sl (.sl .byte)) out6 (some (6,22))))])
def qow (n:Nat):Ex→Fr→Option AV:=qp 0 (E_z10.cutb 0) (kSeq (evCP E_z10 (evLP E_z10 n) (sub C_z10 [1,1,1,1,1])) (kFnP E_z10 R_z10))
def qtz (t0:List Int) (n4:Int) (out6:List (List UInt8)) (i7:Int):Fr:=frOf [(0,(.dat (.sl (.int .i32)) t0 none)),(4,dc n4),(6,(.dat (.sl (.sl .byte)) out6 (some (6,22)))),(7,dc i7)]
theorem qxN (K:Ex→Fr→Option AV):∀ (n:Nat) (t0:List Int) (n4:Int) (out6:List (List UInt8)) (i7:Int),evLP E_z10 n (sub C_z10 [1,1,1,1,0,1,0,0]) K (qtz t0 n4 out6 i7)=qms (qkx K) n t0 n4 out6 i7:=by
 intro n;induction n with
 | zero=>intros; rfl
 | succ n IH =>
 intro t0 n4 out6 i7;have ih:(fun t0 n4 out6 i7=>evLP E_z10 n (sub C_z10 [1,1,1,1,0,1,0,0]) K (qtz t0 n4 out6 i7))=qms (qkx K) n:=by
  funext t0 n4 out6 i7;exact IH t0 n4 out6 i7
 show _=qeR (qkx K) (qms (qkx K) n) n t0 n4 out6 i7;rw [← ih];kernel_rfl
theorem qqB (n:Nat) (out6:List (List UInt8)):(qow n) (.exit 0) (frOf [(6,(.dat (.sl (.sl .byte)) out6 (some (6,22))))])=qeS n out6:=by
 kernel_rfl
theorem qJy (n:Nat) (t0:List Int) (o0:Lab):evFnP E_z10 n C_z10 R_z10 [.dat (.sl (.int .i32)) t0 o0]=qyS n t0:=by
 unfold qyS;rw [show qms (qeS n) n=(fun t0 n4 out6 i7=>evLP E_z10 n (sub C_z10 [1,1,1,1,0,1,0,0]) (qow n) (qtz t0 n4 out6 i7)) from by
  funext t0 n4 out6 i7;refine Eq.trans ?_ (qxN (qow n) n t0 n4 out6 i7).symm;rw [show (qkx (qow n))=(qeS n) from by
   funext out6;exact qqB n out6]
  all_goals kernel_rfl]
 kernel_rfl
theorem qox:qe G Tryz.prog 10 s_z10:=by
 refine sQ (E:=E_z10) (c:=C_z10) rfl (fun w S hg=>(qa (qor w S hg) (qa (qxI w S hg) (qa (qxM w S hg) qc)))) Tryz.func10 ?_;intro avs r h;unfold s_z10 at h;split at h
 ·obtain ⟨hp,rfl⟩:=yj h;obtain ⟨n,hn⟩:=qCu _ hp;exact ⟨n,_,(qJy n _ _).trans hn,.inl rfl⟩
 ·cases h
def E_z37:EnvP:=eQ [(65,s_z65)] 22 (some [4]) (fun x=>if x=3 then some [0,1,5,6] else none) (fun x=>if x=0 then some [5] else if x=1 then some [0,1,5,6] else none) nP
def C_z37:Code:=cO Tryz.f37
def R_z37:Array ResultVar:=Tryz.f37.results
noncomputable def qky (K:Ex→Fr→Option AV):=fun n5=>K (.exit 0) (frOf [(5,dc n5)])
def qoy (n:Nat):Ex→Fr→Option AV:=qp 0 (E_z37.cutb 0) (kSeq (evCP E_z37 (evLP E_z37 n) (sub C_z37 [1,1,1])) (kFnP E_z37 R_z37))
def qtA (s0:List UInt8) (kinds1:Int) (n5:Int) (i6:Int):Fr:=frOf [(0,da s0),(1,dc kinds1),(5,dc n5),(6,dc i6)]
theorem qxO (K:Ex→Fr→Option AV):∀ (n:Nat) (s0:List UInt8) (kinds1:Int) (n5:Int) (i6:Int),evLP E_z37 n (sub C_z37 [1,1,0,1,0,0]) K (qtA s0 kinds1 n5 i6)=qjk (qky K) n s0 kinds1 n5 i6:=by
 intro n;induction n with
 | zero=>intros; rfl
 | succ n IH =>
 intro s0 kinds1 n5 i6;have ih:(fun s0 kinds1 n5 i6=>evLP E_z37 n (sub C_z37 [1,1,0,1,0,0]) K (qtA s0 kinds1 n5 i6))=qjk (qky K) n:=by
  funext s0 kinds1 n5 i6;exact IH s0 kinds1 n5 i6
 show _=qeT (qky K) (qjk (qky K) n) n s0 kinds1 n5 i6;rw [← ih];kernel_rfl
theorem qqC (n:Nat) (n5:Int):(qoy n) (.exit 0) (frOf [(5,dc n5)])=qha n n5:=by
 kernel_rfl
theorem qJz (n:Nat) (s0:List UInt8) (o0:Lab) (kinds1:Int) (o1:Lab):evFnP E_z37 n C_z37 R_z37 [db s0 o0,de kinds1 o1]=qyT n s0 kinds1:=by
 unfold qyT;rw [show qjk (qha n) n=(fun s0 kinds1 n5 i6=>evLP E_z37 n (sub C_z37 [1,1,0,1,0,0]) (qoy n) (qtA s0 kinds1 n5 i6)) from by
  funext s0 kinds1 n5 i6;refine Eq.trans ?_ (qxO (qoy n) n s0 kinds1 n5 i6).symm;rw [show (qky (qoy n))=(qha n) from by
   funext n5;exact qqC n n5]
  all_goals kernel_rfl]
 kernel_rfl
theorem qoz:qe G Tryz.prog 37 s_z37:=by
 refine sQ (E:=E_z37) (c:=C_z37) rfl (fun w S hg=>(qa (qou w S hg) qc)) Tryz.func37 ?_;intro avs r h;unfold s_z37 at h;split at h
 ·obtain ⟨hp,rfl⟩:=yj h;obtain ⟨n,hn⟩:=qDt _ _ hp;exact ⟨n,_,(qJz n _ _ _ _).trans hn,.inl rfl⟩
 ·cases h
def E_z19:EnvP:=eQ [(37,s_z37)] 18 (some [2]) nC nC nP
def C_z19:Code:=cO Tryz.f19
def R_z19:Array ResultVar:=Tryz.f19.results
theorem qJA (n:Nat) (name0:List UInt8) (o0:Lab):evFnP E_z19 n C_z19 R_z19 [db name0 o0]=qDh n name0:=by
 kernel_rfl
theorem qoA:qe G Tryz.prog 19 s_z19:=by
 refine sQ (E:=E_z19) (c:=C_z19) rfl (fun w S hg=>(qa (qoz w S hg) qc)) Tryz.func19 ?_;intro avs r h;unfold s_z19 at h;split at h
 ·obtain ⟨hp,rfl⟩:=yj h;obtain ⟨n,hn⟩:=qCa _ hp;exact ⟨n,_,(qJA n _ _).trans hn,.inl rfl⟩
 ·cases h
def E_z59:EnvP:=eQ [(97,s_z97)] 17 (some [2]) (fun x=>if x=2 then some [0,3] else none) (fun x=>if x=0 then some [] else if x=1 then some [0,3] else none) nP
def C_z59:Code:=cO Tryz.f59
def R_z59:Array ResultVar:=Tryz.f59.results
noncomputable def qoB (K:Ex→Fr→Option AV):=fun s2=>K .ret (frOf [(2,dc s2)])
def qoC (n:Nat):Ex→Fr→Option AV:=qp 0 (E_z59.cutb 0) (kSeq (evCP E_z59 (evLP E_z59 n) (sub C_z59 [1,1])) (kFnP E_z59 R_z59))
def qtB (t0:List Int) (i3:Int):Fr:=frOf [(0,(.dat (.sl (.int .i32)) t0 none)),(3,dc i3)]
theorem qxP (K:Ex→Fr→Option AV):∀ (n:Nat) (t0:List Int) (i3:Int),evLP E_z59 n (sub C_z59 [1,0,1,0,0]) K (qtB t0 i3)=qmt (qoB K) (K (.exit 0) (frOf [])) n t0 i3:=by
 intro n;induction n with
 | zero=>intros; rfl
 | succ n IH =>
 intro t0 i3;have ih:(fun t0 i3=>evLP E_z59 n (sub C_z59 [1,0,1,0,0]) K (qtB t0 i3))=qmt (qoB K) (K (.exit 0) (frOf [])) n:=by
  funext t0 i3;exact IH t0 i3
 show _=qeU (qoB K) (K (.exit 0) (frOf [])) (qmt (qoB K) (K (.exit 0) (frOf [])) n) n t0 i3;rw [← ih];kernel_rfl
theorem qqD (n:Nat)  : (qoC n) (.exit 0) (frOf [])=qhc n  := by
 kernel_rfl
theorem qJB (n:Nat) (t0:List Int) (o0:Lab):evFnP E_z59 n C_z59 R_z59 [.dat (.sl (.int .i32)) t0 o0]=qyU n t0:=by
 unfold qyU;rw [show qmt qhb (qhc n) n=(fun t0 i3=>evLP E_z59 n (sub C_z59 [1,0,1,0,0]) (qoC n) (qtB t0 i3)) from by
  funext t0 i3;refine Eq.trans ?_ (qxP (qoC n) n t0 i3).symm;rw [show ((qoC n) (.exit 0) (frOf []))=(qhc n) from by
   exact qqD n ]
  all_goals kernel_rfl]
 kernel_rfl
theorem qxQ:qe G Tryz.prog 59 s_z59:=by
 refine sQ (E:=E_z59) (c:=C_z59) rfl (fun w S hg=>(qa (qiL w S hg) qc)) Tryz.func59 ?_;intro avs r h;unfold s_z59 at h;split at h
 ·obtain ⟨hp,rfl⟩:=yj h;obtain ⟨n,hn⟩:=qEk _ hp;exact ⟨n,_,(qJB n _ _).trans hn,.inl rfl⟩
 ·cases h
end
end Go.Av
