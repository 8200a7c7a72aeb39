import Derived.Test.YtabdohophompiaaGreatDoorPxEvF
import Derived.Test.YtabdohophompiaaGreatDoorPxN
import Derived.Test.YtabdohophompiaaGreatDoorProg
import Derived.KernelRfl
namespace Go.Av
set_option linter.unusedSimpArgs false
noncomputable section
open Go.Proofs
set_option maxRecDepth 100000
set_option linter.unusedVariables false
def E_z15:EnvP:=eQ [(13,s_z13)] 15 (some [4]) nC nC nP
def C_z15:Code:=cO Tryz.f15
def R_z15:Array ResultVar:=Tryz.f15.results
theorem qGy (n:Nat) (name0:List UInt8) (o0:Lab) (t1:List Int) (o1:Lab):evFnP E_z15 n C_z15 R_z15 [db name0 o0,.dat (.sl (.int .i32)) t1 o1]=qBi n name0 t1:=by
 kernel_rfl
theorem qvX:qh G Tryz.prog 15 s_z15:=by
 refine sQ (E:=E_z15) (c:=C_z15) rfl (fun w S hg=>(qb (qiA w S hg) qc)) Tryz.func15 ?_;intro avs r h;unfold s_z15 at h;split at h
 ·obtain ⟨hp,rfl⟩:=yj h;obtain ⟨n,hn⟩:=qAq _ _ hp;exact ⟨n,_,(qGy n _ _ _ _).trans hn,.inl rfl⟩
 ·cases h
def E_z16:EnvP:=eQ [(27,s_z27),(28,s_z28)] 18 (some [4]) nC nC nP
def C_z16:Code:=cO Tryz.f16
def R_z16:Array ResultVar:=Tryz.f16.results
theorem qGz (n:Nat) (name0:List UInt8) (o0:Lab) (t1:List Int) (o1:Lab):evFnP E_z16 n C_z16 R_z16 [db name0 o0,.dat (.sl (.int .i32)) t1 o1]=qBj n name0 t1:=by
 kernel_rfl
theorem qvY:qh G Tryz.prog 16 s_z16:=by
 refine sQ (E:=E_z16) (c:=C_z16) rfl (fun w S hg=>(qb (qnm w S hg) (qb (qno w S hg) qc))) Tryz.func16 ?_;intro avs r h;unfold s_z16 at h;split at h
 ·obtain ⟨hp,rfl⟩:=yj h;obtain ⟨n,hn⟩:=qAi _ _ hp;exact ⟨n,_,(qGz n _ _ _ _).trans hn,.inl rfl⟩
 ·cases h
def E_z66:EnvP:=eQ [] 48 (some [2,3,4]) (fun x=>if x=5 then some [0,5,6] else none) (fun x=>if x=0 then some [] else if x=1 then some [0,5,6] else none) nP
def C_z66:Code:=cO Tryz.f66
def R_z66:Array ResultVar:=Tryz.f66.results
noncomputable def qns (K:Ex→Fr→Option AV):=fun s2 s3 s4=>K .ret (frOf [(2,(db s2 (some (2,5)))),(3,dc s3),(4,dc s4)])
def qnt (n:Nat):Ex→Fr→Option AV:=qz 0 (E_z66.cutb 0) (kSeq (evCP E_z66 (evLP E_z66 n) (sub C_z66 [1,1,1,1])) (kFnP E_z66 R_z66))
def qrT (s0:List UInt8) (out5:List UInt8) (i6:Int):Fr:=frOf [(0,da s0),(5,(db out5 (some (5,5)))),(6,dc i6)]
theorem qvZ (K:Ex→Fr→Option AV):∀ (n:Nat) (s0:List UInt8) (out5:List UInt8) (i6:Int),evLP E_z66 n (sub C_z66 [1,1,1,0,1,0,0]) K (qrT s0 out5 i6)=qjc (qns K) (K (.exit 0) (frOf [])) n s0 out5 i6:=by
 intro n;induction n with
 | zero=>intros; rfl
 | succ n IH =>
 intro s0 out5 i6;have ih:(fun s0 out5 i6=>evLP E_z66 n (sub C_z66 [1,1,1,0,1,0,0]) K (qrT s0 out5 i6))=qjc (qns K) (K (.exit 0) (frOf [])) n:=by
  funext s0 out5 i6;exact IH s0 out5 i6
 show _=qcb (qns K) (K (.exit 0) (frOf [])) (qjc (qns K) (K (.exit 0) (frOf [])) n) n s0 out5 i6;rw [← ih];kernel_rfl
theorem qph (n:Nat)  : (qnt n) (.exit 0) (frOf [])=qgQ n  := by
 kernel_rfl
theorem qGA (n:Nat) (s0:List UInt8) (o0:Lab):evFnP E_z66 n C_z66 R_z66 [db s0 o0]=qxc n s0:=by
 unfold qxc;rw [show qjc qfj (qgQ n) n=(fun s0 out5 i6=>evLP E_z66 n (sub C_z66 [1,1,1,0,1,0,0]) (qnt n) (qrT s0 out5 i6)) from by
  funext s0 out5 i6;refine Eq.trans ?_ (qvZ (qnt n) n s0 out5 i6).symm;rw [show ((qnt n) (.exit 0) (frOf []))=(qgQ n) from by
   exact qph n ]
  all_goals kernel_rfl]
 kernel_rfl
theorem qnu:qh G Tryz.prog 66 s_z66:=by
 refine sQ (E:=E_z66) (c:=C_z66) rfl (fun w S hg=>qc) Tryz.func66 ?_;intro avs r h;unfold s_z66 at h;split at h
 ·obtain ⟨hp,rfl⟩:=yj h;obtain ⟨n,hn⟩:=qAx _ hp;exact ⟨n,_,(qGA n _ _).trans hn,.inl rfl⟩
 ·cases h
def qiB:EnvP:=eQ [] 17 (some [4]) (fun x=>if x=2 then some [0,1,5] else none) (fun x=>if x=0 then some [] else if x=1 then some [0,1,5] else none) nP
def qpi:Code:=cO Tryz.f126
def qEb:Array ResultVar:=Tryz.f126.results
noncomputable def qiC (K:Ex→Fr→Option AV):=fun s4=>K .ret (frOf [(4,dg s4)])
def qiD (n:Nat):Ex→Fr→Option AV:=qz 0 (qiB.cutb 0) (kSeq (evCP qiB (evLP qiB n) (sub qpi [1,1])) (kFnP qiB qEb))
def qls (s0:List UInt8) (c1:UInt8) (i5:Int):Fr:=frOf [(0,(df s0 none)),(1,(dm c1 none)),(5,dc i5)]
theorem qrU (K:Ex→Fr→Option AV):∀ (n:Nat) (s0:List UInt8) (c1:UInt8) (i5:Int),evLP qiB n (sub qpi [1,0,1,0,0]) K (qls s0 c1 i5)=qdK (qiC K) (K (.exit 0) (frOf [])) n s0 c1 i5:=by
 intro n;induction n with
 | zero=>intros; rfl
 | succ n IH =>
 intro s0 c1 i5;have ih:(fun s0 c1 i5=>evLP qiB n (sub qpi [1,0,1,0,0]) K (qls s0 c1 i5))=qdK (qiC K) (K (.exit 0) (frOf [])) n:=by
  funext s0 c1 i5;exact IH s0 c1 i5
 show _=qcw (qiC K) (K (.exit 0) (frOf [])) (qdK (qiC K) (K (.exit 0) (frOf [])) n) n s0 c1 i5;rw [← ih];kernel_rfl
theorem qlt (n:Nat)  : (qiD n) (.exit 0) (frOf [])=qdL n  := by
 kernel_rfl
theorem qEc (n:Nat) (s0:List UInt8) (o0:Lab) (c1:UInt8) (o1:Lab):evFnP qiB n qpi qEb [df s0 o0,dm c1 o1]=qkD n s0 c1:=by
 unfold qkD;rw [show qdK qeM (qdL n) n=(fun s0 c1 i5=>evLP qiB n (sub qpi [1,0,1,0,0]) (qiD n) (qls s0 c1 i5)) from by
  funext s0 c1 i5;refine Eq.trans ?_ (qrU (qiD n) n s0 c1 i5).symm;rw [show ((qiD n) (.exit 0) (frOf []))=(qdL n) from by
   exact qlt n ]
  all_goals kernel_rfl]
 kernel_rfl
theorem qrV:qh G Tryz.prog 126 s_z126:=by
 refine sQ (E:=qiB) (c:=qpi) rfl (fun w S hg=>qc) Tryz.func126 ?_;intro avs r h;unfold s_z126 at h;split at h
 ·obtain ⟨hp,rfl⟩:=yj h;obtain ⟨n,hn⟩:=qxq _ _ hp;exact ⟨n,_,(qEc n _ _ _ _).trans hn,.inl rfl⟩
 ·cases h
def qaT:EnvP:=eQ [(126,s_z126)] 104 (some [2]) nC nC nP
def qaU:Code:=cO Tryz.f101
def qbf:Array ResultVar:=Tryz.f101.results
def resI:Option AV→Int→Bool
 | some (dc x),v=>x==v
 | _,_=>false
theorem qEd {o:Option AV} {v:Int} (h:resI o v=true):o=some (dc v):=by
 unfold resI at h;split at h
 ·simp only [beq_iff_eq] at h;subst h;rfl
 ·cases h
theorem qGB:∀ i:Fin 16,resI (evFnP qaT 1 qaU qbf [dm (UInt8.ofNat (0+i.val)) none]) (z101 (UInt8.ofNat (0+i.val)))=true:=by decide +kernel
theorem qGC:∀ i:Fin 16,resI (evFnP qaT 1 qaU qbf [dm (UInt8.ofNat (16+i.val)) none]) (z101 (UInt8.ofNat (16+i.val)))=true:=by decide +kernel
theorem qGD:∀ i:Fin 16,resI (evFnP qaT 1 qaU qbf [dm (UInt8.ofNat (32+i.val)) none]) (z101 (UInt8.ofNat (32+i.val)))=true:=by decide +kernel
theorem qGE:∀ i:Fin 16,resI (evFnP qaT 1 qaU qbf [dm (UInt8.ofNat (48+i.val)) none]) (z101 (UInt8.ofNat (48+i.val)))=true:=by decide +kernel
theorem qGF:∀ i:Fin 16,resI (evFnP qaT 1 qaU qbf [dm (UInt8.ofNat (64+i.val)) none]) (z101 (UInt8.ofNat (64+i.val)))=true:=by decide +kernel
theorem qGG:∀ i:Fin 16,resI (evFnP qaT 1 qaU qbf [dm (UInt8.ofNat (80+i.val)) none]) (z101 (UInt8.ofNat (80+i.val)))=true:=by decide +kernel
theorem qGH:∀ i:Fin 16,resI (evFnP qaT 1 qaU qbf [dm (UInt8.ofNat (96+i.val)) none]) (z101 (UInt8.ofNat (96+i.val)))=true:=by decide +kernel
theorem qGI:∀ i:Fin 16,resI (evFnP qaT 1 qaU qbf [dm (UInt8.ofNat (112+i.val)) none]) (z101 (UInt8.ofNat (112+i.val)))=true:=by decide +kernel
theorem qGJ:∀ i:Fin 16,resI (evFnP qaT 1 qaU qbf [dm (UInt8.ofNat (128+i.val)) none]) (z101 (UInt8.ofNat (128+i.val)))=true:=by decide +kernel
theorem qGK:∀ i:Fin 16,resI (evFnP qaT 1 qaU qbf [dm (UInt8.ofNat (144+i.val)) none]) (z101 (UInt8.ofNat (144+i.val)))=true:=by decide +kernel
theorem qEe:∀ i:Fin 16,resI (evFnP qaT 1 qaU qbf [dm (UInt8.ofNat (160+i.val)) none]) (z101 (UInt8.ofNat (160+i.val)))=true:=by decide +kernel
theorem qEf:∀ i:Fin 16,resI (evFnP qaT 1 qaU qbf [dm (UInt8.ofNat (176+i.val)) none]) (z101 (UInt8.ofNat (176+i.val)))=true:=by decide +kernel
theorem qEg:∀ i:Fin 16,resI (evFnP qaT 1 qaU qbf [dm (UInt8.ofNat (192+i.val)) none]) (z101 (UInt8.ofNat (192+i.val)))=true:=by decide +kernel
theorem qEh:∀ i:Fin 16,resI (evFnP qaT 1 qaU qbf [dm (UInt8.ofNat (208+i.val)) none]) (z101 (UInt8.ofNat (208+i.val)))=true:=by decide +kernel
theorem qEi:∀ i:Fin 16,resI (evFnP qaT 1 qaU qbf [dm (UInt8.ofNat (224+i.val)) none]) (z101 (UInt8.ofNat (224+i.val)))=true:=by decide +kernel
theorem qEj:∀ i:Fin 16,resI (evFnP qaT 1 qaU qbf [dm (UInt8.ofNat (240+i.val)) none]) (z101 (UInt8.ofNat (240+i.val)))=true:=by decide +kernel
theorem qzE:∀ i:Fin 256,resI (evFnP qaT 1 qaU qbf [dm (UInt8.ofNat (i.val)) none]) (z101 (UInt8.ofNat (i.val)))=true:=fun ⟨i,hi⟩=>by
 rcases (show i / 16=0∨i / 16=1∨i / 16=2∨i / 16=3∨i / 16=4∨i / 16=5∨i / 16=6∨i / 16=7∨i / 16=8∨i / 16=9∨i / 16=10∨i / 16=11∨i / 16=12∨i / 16=13∨i / 16=14∨i / 16=15 by omega) with e | e | e | e | e | e | e | e | e | e | e | e | e | e | e | e
 ·have h:=qGB ⟨i - 0,by omega⟩;have e2:0+(i - 0)=i:=by omega
  simp only [e2] at h;exact h
 ·have h:=qGC ⟨i - 16,by omega⟩;have e2:16+(i - 16)=i:=by omega
  simp only [e2] at h;exact h
 ·have h:=qGD ⟨i - 32,by omega⟩;have e2:32+(i - 32)=i:=by omega
  simp only [e2] at h;exact h
 ·have h:=qGE ⟨i - 48,by omega⟩;have e2:48+(i - 48)=i:=by omega
  simp only [e2] at h;exact h
 ·have h:=qGF ⟨i - 64,by omega⟩;have e2:64+(i - 64)=i:=by omega
  simp only [e2] at h;exact h
 ·have h:=qGG ⟨i - 80,by omega⟩;have e2:80+(i - 80)=i:=by omega
  simp only [e2] at h;exact h
 ·have h:=qGH ⟨i - 96,by omega⟩;have e2:96+(i - 96)=i:=by omega
  simp only [e2] at h;exact h
 ·have h:=qGI ⟨i - 112,by omega⟩;have e2:112+(i - 112)=i:=by omega
  simp only [e2] at h;exact h
 ·have h:=qGJ ⟨i - 128,by omega⟩;have e2:128+(i - 128)=i:=by omega
  simp only [e2] at h;exact h
 ·have h:=qGK ⟨i - 144,by omega⟩;have e2:144+(i - 144)=i:=by omega
  simp only [e2] at h;exact h
 ·have h:=qEe ⟨i - 160,by omega⟩;have e2:160+(i - 160)=i:=by omega
  simp only [e2] at h;exact h
 ·have h:=qEf ⟨i - 176,by omega⟩;have e2:176+(i - 176)=i:=by omega
  simp only [e2] at h;exact h
 ·have h:=qEg ⟨i - 192,by omega⟩;have e2:192+(i - 192)=i:=by omega
  simp only [e2] at h;exact h
 ·have h:=qEh ⟨i - 208,by omega⟩;have e2:208+(i - 208)=i:=by omega
  simp only [e2] at h;exact h
 ·have h:=qEi ⟨i - 224,by omega⟩;have e2:224+(i - 224)=i:=by omega
  simp only [e2] at h;exact h
 ·have h:=qEj ⟨i - 240,by omega⟩;have e2:240+(i - 240)=i:=by omega
  simp only [e2] at h;exact h
theorem qEk (c:UInt8) (o:Lab):evFnP qaT 1 qaU qbf [dm c o]=some (de (z101 c) none):=by
 have h:resI (evFnP qaT 1 qaU qbf [dm c none]) (z101 c)=true:=qlX (P:=fun c=>resI (evFnP qaT 1 qaU qbf [dm c none]) (z101 c)=true) qzE c;have e:evFnP qaT 1 qaU qbf [dm c o]=evFnP qaT 1 qaU qbf [dm c none]:=by
  unfold evFnP;have:(fun t=>(([dm c o]:List AV).getD t .bad).strip)=fun t=>(([dm c none]:List AV).getD t .bad).strip:=by
   funext t;match t with
   | 0=>rfl
   | t+1=>rfl
  rw [this];rfl
 rw [e];exact qEd h
theorem qrW:qh G Tryz.prog 101 s_z101:=by
 refine qO G_stays (E:=qaT) (fn:=Tryz.f101) (c:=qaU) (qn rfl qeh) (fun w S hg=>⟨⟨(qb (qrV w S hg) qc),fun f sp h=>qbF f sp h w S⟩,qfh w S hg,(fun _ _ h=>by cases h),(fun _ _ h=>by cases h),(fun _ _ h=>by cases h),(fun t kt vt h=>qdb t kt vt h)⟩) follows Tryz.func101 (by kernel_rfl) (by kernel_rfl) (by kernel_rfl) ?_;intro avs r h;unfold s_z101 at h;split at h
 ·simp only [yb,true_and] at h;subst h;exact ⟨1,_,qEk _ _,.inl rfl⟩
 ·cases h
def E_z65:EnvP:=eQ [(101,s_z101)] 10 (some [4]) nC nC nP
def C_z65:Code:=cO Tryz.f65
def R_z65:Array ResultVar:=Tryz.f65.results
theorem qGL (n:Nat) (c0:UInt8) (o0:Lab) (kinds1:Int) (o1:Lab):evFnP E_z65 n C_z65 R_z65 [dm c0 o0,de kinds1 o1]=qES n c0 kinds1:=by
 kernel_rfl
theorem qiE:qh G Tryz.prog 65 s_z65:=by
 refine sQ (E:=E_z65) (c:=C_z65) rfl (fun w S hg=>(qb (qrW w S hg) qc)) Tryz.func65 ?_;intro avs r h;unfold s_z65 at h;split at h <;> cases h
 obtain ⟨n,hn⟩:=qBs _ _;exact ⟨n,_,(qGL n _ _ _ _).trans hn,.inl rfl⟩
def qEl:EnvP:=eQ [] 10 (some [4]) nC nC nP
def qEm:Code:=cO Tryz.f102
def qGM:Array ResultVar:=Tryz.f102.results
theorem qEn (n:Nat) (s0:List UInt8) (o0:Lab) (at1:Int) (o1:Lab):evFnP qEl n qEm qGM [db s0 o0,de at1 o1]=qtF n s0 at1:=by
 kernel_rfl
theorem qdB:qh G Tryz.prog 102 s_z102:=by
 refine sQ (E:=qEl) (c:=qEm) rfl (fun w S hg=>qc) Tryz.func102 ?_;intro avs r h;unfold s_z102 at h;split at h <;> cases h
 obtain ⟨n,hn⟩:=qwL _ _;exact ⟨n,_,(qEn n _ _ _ _).trans hn,.inl rfl⟩
def E_z67:EnvP:=eQ [(65,s_z65),(102,s_z102),(103,s_z103)] 49 (some [4]) (fun x=>if x=2 then some [0,5] else none) (fun x=>if x=0 then some [5] else if x=1 then some [0,5] else if x=2 then some [0,5] else none) nP
def C_z67:Code:=cO Tryz.f67
def R_z67:Array ResultVar:=Tryz.f67.results
noncomputable def qkj (K:Ex→Fr→Option AV):=fun i5=>K (.exit 0) (frOf [(5,dc i5)])
noncomputable def qnv (K:Ex→Fr→Option AV):=fun s4=>K .ret (frOf [(4,dc s4)])
def qnw (n:Nat):Ex→Fr→Option AV:=qz 0 (E_z67.cutb 0) (kSeq (evCP E_z67 (evLP E_z67 n) (sub C_z67 [1,1,1])) (kFnP E_z67 R_z67))
def qrX (s0:List UInt8) (i5:Int):Fr:=frOf [(0,da s0),(5,dc i5)]
theorem qwa (K:Ex→Fr→Option AV):∀ (n:Nat) (s0:List UInt8) (i5:Int),evLP E_z67 n (sub C_z67 [1,1,0,0,0]) K (qrX s0 i5)=qlS (qnv K) (qkj K) n s0 i5:=by
 intro n;induction n with
 | zero=>intros; rfl
 | succ n IH =>
 intro s0 i5;have ih:(fun s0 i5=>evLP E_z67 n (sub C_z67 [1,1,0,0,0]) K (qrX s0 i5))=qlS (qnv K) (qkj K) n:=by
  funext s0 i5;exact IH s0 i5
 show _=qeN (qnv K) (qkj K) (qlS (qnv K) (qkj K) n) n s0 i5;rw [← ih];kernel_rfl
theorem qpj (n:Nat) (i5:Int):(qnw n) (.exit 0) (frOf [(5,dc i5)])=qgR n i5:=by
 kernel_rfl
theorem qGN (n:Nat) (s0:List UInt8) (o0:Lab) (at1:Int) (o1:Lab):evFnP E_z67 n C_z67 R_z67 [db s0 o0,de at1 o1]=qBk n s0 at1:=by
 unfold qBk;rw [show qlS qhH (qgR n) n=(fun s0 i5=>evLP E_z67 n (sub C_z67 [1,1,0,0,0]) (qnw n) (qrX s0 i5)) from by
  funext s0 i5;refine Eq.trans ?_ (qwa (qnw n) n s0 i5).symm;rw [show (qkj (qnw n))=(qgR n) from by
   funext i5;exact qpj n i5]
  all_goals kernel_rfl]
 kernel_rfl
theorem qfE:qh G Tryz.prog 67 s_z67:=by
 refine sQ (E:=E_z67) (c:=C_z67) rfl (fun w S hg=>(qb (qiE w S hg) (qb (qdB w S hg) (qb (qrd w S hg) qc)))) Tryz.func67 ?_;intro avs r h;unfold s_z67 at h;split at h
 ·obtain ⟨hp,rfl⟩:=yj h;obtain ⟨n,hn⟩:=qAt _ _ hp;exact ⟨n,_,(qGN n _ _ _ _).trans hn,.inl rfl⟩
 ·cases h
end
end Go.Av
