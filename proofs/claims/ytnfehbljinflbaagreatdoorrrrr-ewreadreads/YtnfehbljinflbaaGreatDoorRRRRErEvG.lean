import Derived.Test.YtnfehbljinflbaaGreatDoorRRRRErEvF
import Derived.Test.YtnfehbljinflbaaGreatDoorRRRREtN
import Derived.Test.YtnfehbljinflbaaGreatDoorRRRRProg
import Derived.KernelRfl
namespace Go.Av
noncomputable section
open Go.Proofs
set_option maxRecDepth 100000
def E_z7:EnvP:=eQ [(8,s_z8),(9,s_z9),(15,s_z15),(16,s_z16),(17,s_z17)] 25 (some [0]) nC nC nP
def C_z7:Code:=cO Tryz.f7
def R_z7:Array ResultVar:=Tryz.f7.results
theorem z7_ev (n:Nat)  : evFnP E_z7 n C_z7 R_z7 []=z7_sh n  := by
 kernel_rfl
theorem qLP:qe G Tryz.prog 7 s_z7:=by
 refine sQ (E:=E_z7) (c:=C_z7) rfl (fun w S hg=>(qa (qAx w S hg) (qa (qBM w S hg) (qa (qGV w S hg) (qa (qGY w S hg) (qa (qGZ w S hg) qc)))))) Tryz.func7 ?_;intro avs r h;unfold s_z7 at h;split at h <;> cases h
 obtain ⟨n,hn⟩:=qSK;exact ⟨n,_,(z7_ev n ).trans hn,.inl rfl⟩
def E_z65:EnvP:=eQ [] 17 (some [2]) nC nC nP
def C_z65:Code:=cO Tryz.f65
def R_z65:Array ResultVar:=Tryz.f65.results
theorem qUU (n:Nat) (c0:UInt8) (o0:Lab):evFnP E_z65 n C_z65 R_z65 [dn c0 o0]=qMQ n c0:=by
 kernel_rfl
theorem quQ:qe G Tryz.prog 65 s_z65:=by
 refine sQ (E:=E_z65) (c:=C_z65) rfl (fun w S hg=>qc) Tryz.func65 ?_;intro avs r h;unfold s_z65 at h;split at h <;> cases h
 obtain ⟨n,hn⟩:=qOC _;exact ⟨n,_,(qUU n _ _).trans hn,.inl rfl⟩
def E_z67:EnvP:=eQ [] 38 (some [2]) (fun x=>if x=3 then some [0,3,4] else none) (fun x=>if x=0 then some [3] else if x=1 then some [0,3,4] else none) (fun x=>if x=2 then some (.psl 22 (.osl 5 .byte)) else if x=6 then some (.psl 22 (.osl 5 .byte)) else if x=22 then some (.psl 22 (.osl 5 .byte)) else if x=23 then some (.psl 22 (.osl 5 .byte)) else if x=35 then some (.osl 5 .byte) else none)
def C_z67:Code:=cO Tryz.f67
def R_z67:Array ResultVar:=Tryz.f67.results
noncomputable def qpV (K:Ex→Fr→OA):=fun out3=>K (.exit 0) (frOf [(3,(.pv (.psl 22 (.osl 5 .byte)) out3 none))])
def quR (n:Nat):Ex→Fr→OA:=qh 0 (E_z67.cutb 0) (kSeq (evCP E_z67 (evLP E_z67 n) (sub C_z67 [1,1,1])) (kFnP E_z67 R_z67))
def qBN (s0:LU) (out3:List LU) (i4:Int):Fr:=frOf [(0,da s0),(3,(.pv (.psl 22 (.osl 5 .byte)) out3 none)),(4,dc i4)]
theorem qHa (K:Ex→Fr→OA):∀ (n:Nat) (s0:LU) (out3:List LU) (i4:Int),evLP E_z67 n (sub C_z67 [1,1,0,1,0,0]) K (qBN s0 out3 i4)=qoq (qpV K) n s0 out3 i4:=by
 intro n;induction n with
 | zero=>intros; rfl
 | succ n IH =>
 intro s0 out3 i4;have ih:(fun s0 out3 i4=>evLP E_z67 n (sub C_z67 [1,1,0,1,0,0]) K (qBN s0 out3 i4))=qoq (qpV K) n:=by
  funext s0 out3 i4;exact IH s0 out3 i4
 show _=qgM (qpV K) (qoq (qpV K) n) n s0 out3 i4;rw [← ih];kernel_rfl
theorem qxN (n:Nat) (out3:List LU):(quR n) (.exit 0) (frOf [(3,(.pv (.psl 22 (.osl 5 .byte)) out3 none))])=qkj n out3:=by
 kernel_rfl
theorem qUV (n:Nat) (s0:LU) (o0:Lab):evFnP E_z67 n C_z67 R_z67 [db s0 o0]=qHU n s0:=by
 unfold qHU;rw [show qoq (qkj n) n=(fun s0 out3 i4=>evLP E_z67 n (sub C_z67 [1,1,0,1,0,0]) (quR n) (qBN s0 out3 i4)) from by
  funext s0 out3 i4;refine Eq.trans ?_ (qHa (quR n) n s0 out3 i4).symm;rw [show (qpV (quR n))=(qkj n) from by
   funext out3;exact qxN n out3]
  all_goals kernel_rfl]
 kernel_rfl
theorem qHb:qe G Tryz.prog 67 s_z67:=by
 refine sQ (E:=E_z67) (c:=C_z67) rfl (fun w S hg=>qc) Tryz.func67 ?_;intro avs r h;unfold s_z67 at h;split at h
 ·obtain ⟨hp,rfl⟩:=yj h;obtain ⟨n,hn⟩:=qND _ hp;exact ⟨n,_,(qUV n _ _).trans hn,.inl rfl⟩
 ·cases h
def qSb:EnvP:=eQ [] 12 (some [2]) nC nC nP
def qSc:Code:=cO Tryz.f109
def qUW:Array ResultVar:=Tryz.f109.results
theorem qSd (n:Nat) (c0:UInt8) (o0:Lab):evFnP qSb n qSc qUW [dn c0 o0]=qDI n c0:=by
 kernel_rfl
theorem qpW:qe G Tryz.prog 109 s_z109:=by
 refine sQ (E:=qSb) (c:=qSc) rfl (fun w S hg=>qc) Tryz.func109 ?_;intro avs r h;unfold s_z109 at h;split at h <;> cases h
 obtain ⟨n,hn⟩:=qIw _;exact ⟨n,_,(qSd n _ _).trans hn,.inl rfl⟩
def E_z68:EnvP:=eQ [(109,s_z109)] 9 (some [2]) nC (fun x=>if x=0 then some [] else none) nP
def C_z68:Code:=cO Tryz.f68
def R_z68:Array ResultVar:=Tryz.f68.results
theorem qUX (n:Nat) (c0:UInt8) (o0:Lab):evFnP E_z68 n C_z68 R_z68 [dn c0 o0]=qMR n c0:=by
 kernel_rfl
theorem qHc:qe G Tryz.prog 68 s_z68:=by
 refine sQ (E:=E_z68) (c:=C_z68) rfl (fun w S hg=>(qa (qpW w S hg) qc)) Tryz.func68 ?_;intro avs r h;unfold s_z68 at h;split at h <;> cases h
 obtain ⟨n,hn⟩:=qNz _;exact ⟨n,_,(qUX n _ _).trans hn,.inl rfl⟩
def qnK:EnvP:=eQ [] 17 (some [4]) (fun x=>if x=2 then some [0,1,5] else none) (fun x=>if x=0 then some [] else if x=1 then some [0,1,5] else none) nP
def qxO:Code:=cO Tryz.f140
def qSe:Array ResultVar:=Tryz.f140.results
noncomputable def qnL (K:Ex→Fr→OA):=fun s4=>K .ret (frOf [(4,dg s4)])
def qnM (n:Nat):Ex→Fr→OA:=qh 0 (qnK.cutb 0) (kSeq (evCP qnK (evLP qnK n) (sub qxO [1,1])) (kFnP qnK qSe))
def qsz (s0:LU) (c1:UInt8) (i5:Int):Fr:=frOf [(0,(df s0 none)),(1,dm c1),(5,dc i5)]
theorem qBO (K:Ex→Fr→OA):∀ (n:Nat) (s0:LU) (c1:UInt8) (i5:Int),evLP qnK n (sub qxO [1,0,1,0,0]) K (qsz s0 c1 i5)=qfZ (qnL K) (K (.exit 0) (frOf [])) n s0 c1 i5:=by
 intro n;induction n with
 | zero=>intros; rfl
 | succ n IH =>
 intro s0 c1 i5;have ih:(fun s0 c1 i5=>evLP qnK n (sub qxO [1,0,1,0,0]) K (qsz s0 c1 i5))=qfZ (qnL K) (K (.exit 0) (frOf [])) n:=by
  funext s0 c1 i5;exact IH s0 c1 i5
 show _=qep (qnL K) (K (.exit 0) (frOf [])) (qfZ (qnL K) (K (.exit 0) (frOf [])) n) n s0 c1 i5;rw [← ih];kernel_rfl
theorem qsA (n:Nat)  : (qnM n) (.exit 0) (frOf [])=qga n  := by
 kernel_rfl
theorem qSf (n:Nat) (s0:LU) (o0:Lab) (c1:UInt8) (o1:Lab):evFnP qnK n qxO qSe [df s0 o0,dn c1 o1]=qqx n s0 c1:=by
 unfold qqx;rw [show qfZ qgN (qga n) n=(fun s0 c1 i5=>evLP qnK n (sub qxO [1,0,1,0,0]) (qnM n) (qsz s0 c1 i5)) from by
  funext s0 c1 i5;refine Eq.trans ?_ (qBO (qnM n) n s0 c1 i5).symm;rw [show ((qnM n) (.exit 0) (frOf []))=(qga n) from by
   exact qsA n ]
  all_goals kernel_rfl]
 kernel_rfl
theorem qBP:qe G Tryz.prog 140 s_z140:=by
 refine sQ (E:=qnK) (c:=qxO) rfl (fun w S hg=>qc) Tryz.func140 ?_;intro avs r h;unfold s_z140 at h;split at h
 ·obtain ⟨hp,rfl⟩:=yj h;obtain ⟨n,hn⟩:=qIv _ _ hp;exact ⟨n,_,(qSf n _ _ _ _).trans hn,.inl rfl⟩
 ·cases h
def qbM:EnvP:=eQ [(140,s_z140)] 104 (some [2]) nC nC nP
def qbN:Code:=cO Tryz.f114
def qbX:Array ResultVar:=Tryz.f114.results
def resI:OA→Int→Bool
 | some (dc x),v=>x==v
 | _,_=>false
theorem qSg {o:OA} {v:Int} (h:resI o v=true):o=some (dc v):=by
 unfold resI at h;split at h
 ·simp only [beq_iff_eq] at h;subst h;rfl
 ·cases h
theorem qUY:∀ i:Fin 16,resI (evFnP qbM 1 qbN qbX [dn (UInt8.ofNat (0+i.val)) none]) (z114 (UInt8.ofNat (0+i.val)))=true:=by decide +kernel
theorem qUZ:∀ i:Fin 16,resI (evFnP qbM 1 qbN qbX [dn (UInt8.ofNat (16+i.val)) none]) (z114 (UInt8.ofNat (16+i.val)))=true:=by decide +kernel
theorem qVa:∀ i:Fin 16,resI (evFnP qbM 1 qbN qbX [dn (UInt8.ofNat (32+i.val)) none]) (z114 (UInt8.ofNat (32+i.val)))=true:=by decide +kernel
theorem qVb:∀ i:Fin 16,resI (evFnP qbM 1 qbN qbX [dn (UInt8.ofNat (48+i.val)) none]) (z114 (UInt8.ofNat (48+i.val)))=true:=by decide +kernel
theorem qVc:∀ i:Fin 16,resI (evFnP qbM 1 qbN qbX [dn (UInt8.ofNat (64+i.val)) none]) (z114 (UInt8.ofNat (64+i.val)))=true:=by decide +kernel
theorem qVd:∀ i:Fin 16,resI (evFnP qbM 1 qbN qbX [dn (UInt8.ofNat (80+i.val)) none]) (z114 (UInt8.ofNat (80+i.val)))=true:=by decide +kernel
theorem qVe:∀ i:Fin 16,resI (evFnP qbM 1 qbN qbX [dn (UInt8.ofNat (96+i.val)) none]) (z114 (UInt8.ofNat (96+i.val)))=true:=by decide +kernel
theorem qVf:∀ i:Fin 16,resI (evFnP qbM 1 qbN qbX [dn (UInt8.ofNat (112+i.val)) none]) (z114 (UInt8.ofNat (112+i.val)))=true:=by decide +kernel
theorem qVg:∀ i:Fin 16,resI (evFnP qbM 1 qbN qbX [dn (UInt8.ofNat (128+i.val)) none]) (z114 (UInt8.ofNat (128+i.val)))=true:=by decide +kernel
theorem qVh:∀ i:Fin 16,resI (evFnP qbM 1 qbN qbX [dn (UInt8.ofNat (144+i.val)) none]) (z114 (UInt8.ofNat (144+i.val)))=true:=by decide +kernel
theorem qSh:∀ i:Fin 16,resI (evFnP qbM 1 qbN qbX [dn (UInt8.ofNat (160+i.val)) none]) (z114 (UInt8.ofNat (160+i.val)))=true:=by decide +kernel
theorem qSi:∀ i:Fin 16,resI (evFnP qbM 1 qbN qbX [dn (UInt8.ofNat (176+i.val)) none]) (z114 (UInt8.ofNat (176+i.val)))=true:=by decide +kernel
theorem qSj:∀ i:Fin 16,resI (evFnP qbM 1 qbN qbX [dn (UInt8.ofNat (192+i.val)) none]) (z114 (UInt8.ofNat (192+i.val)))=true:=by decide +kernel
theorem qSk:∀ i:Fin 16,resI (evFnP qbM 1 qbN qbX [dn (UInt8.ofNat (208+i.val)) none]) (z114 (UInt8.ofNat (208+i.val)))=true:=by decide +kernel
theorem qSl:∀ i:Fin 16,resI (evFnP qbM 1 qbN qbX [dn (UInt8.ofNat (224+i.val)) none]) (z114 (UInt8.ofNat (224+i.val)))=true:=by decide +kernel
theorem qSm:∀ i:Fin 16,resI (evFnP qbM 1 qbN qbX [dn (UInt8.ofNat (240+i.val)) none]) (z114 (UInt8.ofNat (240+i.val)))=true:=by decide +kernel
theorem qLQ:∀ i:Fin 256,resI (evFnP qbM 1 qbN qbX [dn (UInt8.ofNat (i.val)) none]) (z114 (UInt8.ofNat (i.val)))=true:=fun ⟨i,hi⟩=>by
 rcases (show i / 16=0∨i / 16=1∨i / 16=2∨i / 16=3∨i / 16=4∨i / 16=5∨i / 16=6∨i / 16=7∨i / 16=8∨i / 16=9∨i / 16=10∨i / 16=11∨i / 16=12∨i / 16=13∨i / 16=14∨i / 16=15 by omega) with e | e | e | e | e | e | e | e | e | e | e | e | e | e | e | e
 ·have h:=qUY ⟨i - 0,by omega⟩;have e2:0+(i - 0)=i:=by omega
  simp only [e2] at h;exact h
 ·have h:=qUZ ⟨i - 16,by omega⟩;have e2:16+(i - 16)=i:=by omega
  simp only [e2] at h;exact h
 ·have h:=qVa ⟨i - 32,by omega⟩;have e2:32+(i - 32)=i:=by omega
  simp only [e2] at h;exact h
 ·have h:=qVb ⟨i - 48,by omega⟩;have e2:48+(i - 48)=i:=by omega
  simp only [e2] at h;exact h
 ·have h:=qVc ⟨i - 64,by omega⟩;have e2:64+(i - 64)=i:=by omega
  simp only [e2] at h;exact h
 ·have h:=qVd ⟨i - 80,by omega⟩;have e2:80+(i - 80)=i:=by omega
  simp only [e2] at h;exact h
 ·have h:=qVe ⟨i - 96,by omega⟩;have e2:96+(i - 96)=i:=by omega
  simp only [e2] at h;exact h
 ·have h:=qVf ⟨i - 112,by omega⟩;have e2:112+(i - 112)=i:=by omega
  simp only [e2] at h;exact h
 ·have h:=qVg ⟨i - 128,by omega⟩;have e2:128+(i - 128)=i:=by omega
  simp only [e2] at h;exact h
 ·have h:=qVh ⟨i - 144,by omega⟩;have e2:144+(i - 144)=i:=by omega
  simp only [e2] at h;exact h
 ·have h:=qSh ⟨i - 160,by omega⟩;have e2:160+(i - 160)=i:=by omega
  simp only [e2] at h;exact h
 ·have h:=qSi ⟨i - 176,by omega⟩;have e2:176+(i - 176)=i:=by omega
  simp only [e2] at h;exact h
 ·have h:=qSj ⟨i - 192,by omega⟩;have e2:192+(i - 192)=i:=by omega
  simp only [e2] at h;exact h
 ·have h:=qSk ⟨i - 208,by omega⟩;have e2:208+(i - 208)=i:=by omega
  simp only [e2] at h;exact h
 ·have h:=qSl ⟨i - 224,by omega⟩;have e2:224+(i - 224)=i:=by omega
  simp only [e2] at h;exact h
 ·have h:=qSm ⟨i - 240,by omega⟩;have e2:240+(i - 240)=i:=by omega
  simp only [e2] at h;exact h
theorem qSn (c:UInt8) (o:Lab):evFnP qbM 1 qbN qbX [dn c o]=some (de (z114 c) none):=by
 have h:resI (evFnP qbM 1 qbN qbX [dn c none]) (z114 c)=true:=qNv (P:=fun c=>resI (evFnP qbM 1 qbN qbX [dn c none]) (z114 c)=true) qLQ c;have e:evFnP qbM 1 qbN qbX [dn c o]=evFnP qbM 1 qbN qbX [dn c none]:=by
  unfold evFnP;have:(fun t=>(([dn c o]:List AV).getD t .bad).strip)=fun t=>(([dn c none]:List AV).getD t .bad).strip:=by
   funext t;match t with
   | 0=>rfl
   | t+1=>rfl
  rw [this];rfl
 rw [e];exact qSg h
theorem qBQ:qe G Tryz.prog 114 s_z114:=by
 refine qB G_stays (E:=qbM) (fn:=Tryz.f114) (c:=qbN) (qj rfl qbd) (fun w S hg=>⟨⟨(qa (qBP w S hg) qc),fun f sp h=>qac f sp h w S⟩,qai w S hg,(fun _ _ h=>by cases h),(fun _ _ h=>by cases h),(fun _ _ h=>by cases h),(fun t kt vt h=>qah t kt vt h)⟩) follows Tryz.func114 (by kernel_rfl) (by kernel_rfl) (by kernel_rfl) ?_;intro avs r h;unfold s_z114 at h;split at h
 ·simp only [yb,true_and] at h;subst h;exact ⟨1,_,qSn _ _,.inl rfl⟩
 ·cases h
def E_z79:EnvP:=eQ [(114,s_z114)] 10 (some [4]) nC nC nP
def C_z79:Code:=cO Tryz.f79
def R_z79:Array ResultVar:=Tryz.f79.results
theorem qVi (n:Nat) (c0:UInt8) (o0:Lab) (kinds1:Int) (o1:Lab):evFnP E_z79 n C_z79 R_z79 [dn c0 o0,de kinds1 o1]=qSS n c0 kinds1:=by
 kernel_rfl
theorem qnN:qe G Tryz.prog 79 s_z79:=by
 refine sQ (E:=E_z79) (c:=C_z79) rfl (fun w S hg=>(qa (qBQ w S hg) qc)) Tryz.func79 ?_;intro avs r h;unfold s_z79 at h;split at h <;> cases h
 obtain ⟨n,hn⟩:=qNt _ _;exact ⟨n,_,(qVi n _ _ _ _).trans hn,.inl rfl⟩
def E_z69:EnvP:=eQ [(79,s_z79)] 22 (some [4]) (fun x=>if x=3 then some [0,1,5,6] else none) (fun x=>if x=0 then some [5] else if x=1 then some [0,1,5,6] else none) nP
def C_z69:Code:=cO Tryz.f69
def R_z69:Array ResultVar:=Tryz.f69.results
noncomputable def qpX (K:Ex→Fr→OA):=fun n5=>K (.exit 0) (frOf [(5,dc n5)])
def quS (n:Nat):Ex→Fr→OA:=qh 0 (E_z69.cutb 0) (kSeq (evCP E_z69 (evLP E_z69 n) (sub C_z69 [1,1,1])) (kFnP E_z69 R_z69))
def qBR (s0:LU) (kinds1:Int) (n5:Int) (i6:Int):Fr:=frOf [(0,da s0),(1,dc kinds1),(5,dc n5),(6,dc i6)]
theorem qHd (K:Ex→Fr→OA):∀ (n:Nat) (s0:LU) (kinds1:Int) (n5:Int) (i6:Int),evLP E_z69 n (sub C_z69 [1,1,0,1,0,0]) K (qBR s0 kinds1 n5 i6)=qos (qpX K) n s0 kinds1 n5 i6:=by
 intro n;induction n with
 | zero=>intros; rfl
 | succ n IH =>
 intro s0 kinds1 n5 i6;have ih:(fun s0 kinds1 n5 i6=>evLP E_z69 n (sub C_z69 [1,1,0,1,0,0]) K (qBR s0 kinds1 n5 i6))=qos (qpX K) n:=by
  funext s0 kinds1 n5 i6;exact IH s0 kinds1 n5 i6
 show _=qgO (qpX K) (qos (qpX K) n) n s0 kinds1 n5 i6;rw [← ih];kernel_rfl
theorem qxP (n:Nat) (n5:Int):(quS n) (.exit 0) (frOf [(5,dc n5)])=qkk n n5:=by
 kernel_rfl
theorem qVj (n:Nat) (s0:LU) (o0:Lab) (kinds1:Int) (o1:Lab):evFnP E_z69 n C_z69 R_z69 [db s0 o0,de kinds1 o1]=qHV n s0 kinds1:=by
 unfold qHV;rw [show qos (qkk n) n=(fun s0 kinds1 n5 i6=>evLP E_z69 n (sub C_z69 [1,1,0,1,0,0]) (quS n) (qBR s0 kinds1 n5 i6)) from by
  funext s0 kinds1 n5 i6;refine Eq.trans ?_ (qHd (quS n) n s0 kinds1 n5 i6).symm;rw [show (qpX (quS n))=(qkk n) from by
   funext n5;exact qxP n n5]
  all_goals kernel_rfl]
 kernel_rfl
theorem qHe:qe G Tryz.prog 69 s_z69:=by
 refine sQ (E:=E_z69) (c:=C_z69) rfl (fun w S hg=>(qa (qnN w S hg) qc)) Tryz.func69 ?_;intro avs r h;unfold s_z69 at h;split at h
 ·obtain ⟨hp,rfl⟩:=yj h;obtain ⟨n,hn⟩:=qNu _ _ hp;exact ⟨n,_,(qVj n _ _ _ _).trans hn,.inl rfl⟩
 ·cases h
def E_z42:EnvP:=eQ [(67,s_z67),(68,s_z68),(69,s_z69)] 93 (some [2,3]) nC nC nP
def C_z42:Code:=cO Tryz.f42
def R_z42:Array ResultVar:=Tryz.f42.results
theorem qVk (n:Nat) (s0:LU) (o0:Lab):evFnP E_z42 n C_z42 R_z42 [db s0 o0]=qMS n s0:=by
 kernel_rfl
theorem qil:qe G Tryz.prog 42 s_z42:=by
 refine sQ (E:=E_z42) (c:=C_z42) rfl (fun w S hg=>(qa (qHb w S hg) (qa (qHc w S hg) (qa (qHe w S hg) qc)))) Tryz.func42 ?_;intro avs r h;unfold s_z42 at h;split at h
 ·obtain ⟨hp,rfl⟩:=yj h;obtain ⟨n,hn⟩:=qNB _ hp;exact ⟨n,_,(qVk n _ _).trans hn,.inl rfl⟩
 ·cases h
def E_z66:EnvP:=eQ [(42,s_z42),(65,s_z65)] 32 (some [2]) (fun x=>if x=3 then some [0,3,4] else none) (fun x=>if x=0 then some [0,3] else if x=1 then some [0,3,4] else none) nP
def C_z66:Code:=cO Tryz.f66
def R_z66:Array ResultVar:=Tryz.f66.results
noncomputable def qpY (K:Ex→Fr→OA):=fun run0 all3=>K (.exit 0) (frOf [(0,da run0),(3,dg all3)])
def quT (n:Nat):Ex→Fr→OA:=qh 0 (E_z66.cutb 0) (kSeq (evCP E_z66 (evLP E_z66 n) (sub C_z66 [1,1,1])) (kFnP E_z66 R_z66))
def qBS (run0:LU) (all3:Bool) (i4:Int):Fr:=frOf [(0,da run0),(3,dg all3),(4,dc i4)]
theorem qHf (K:Ex→Fr→OA):∀ (n:Nat) (run0:LU) (all3:Bool) (i4:Int),evLP E_z66 n (sub C_z66 [1,1,0,1,0,0]) K (qBS run0 all3 i4)=qot (qpY K) n run0 all3 i4:=by
 intro n;induction n with
 | zero=>intros; rfl
 | succ n IH =>
 intro run0 all3 i4;have ih:(fun run0 all3 i4=>evLP E_z66 n (sub C_z66 [1,1,0,1,0,0]) K (qBS run0 all3 i4))=qot (qpY K) n:=by
  funext run0 all3 i4;exact IH run0 all3 i4
 show _=qgP (qpY K) (qot (qpY K) n) n run0 all3 i4;rw [← ih];kernel_rfl
theorem qxQ (n:Nat) (run0:LU) (all3:Bool):(quT n) (.exit 0) (frOf [(0,da run0),(3,dg all3)])=qgQ n run0 all3:=by
 kernel_rfl
theorem qVl (n:Nat) (run0:LU) (o0:Lab):evFnP E_z66 n C_z66 R_z66 [db run0 o0]=qHW n run0:=by
 unfold qHW;rw [show qot (qgQ n) n=(fun run0 all3 i4=>evLP E_z66 n (sub C_z66 [1,1,0,1,0,0]) (quT n) (qBS run0 all3 i4)) from by
  funext run0 all3 i4;refine Eq.trans ?_ (qHf (quT n) n run0 all3 i4).symm;rw [show (qpY (quT n))=(qgQ n) from by
   funext run0 all3;exact qxQ n run0 all3]
  all_goals kernel_rfl]
 kernel_rfl
theorem qHg:qe G Tryz.prog 66 s_z66:=by
 refine sQ (E:=E_z66) (c:=C_z66) rfl (fun w S hg=>(qa (qil w S hg) (qa (quQ w S hg) qc))) Tryz.func66 ?_;intro avs r h;unfold s_z66 at h;split at h
 ·obtain ⟨hp,rfl⟩:=yj h;obtain ⟨n,hn⟩:=qOL _ hp;exact ⟨n,_,(qVl n _ _).trans hn,.inl rfl⟩
 ·cases h
def E_z40:EnvP:=eQ [(65,s_z65),(66,s_z66)] 45 (some [2]) (fun x=>if x=3 then some [0,3,4] else if x=5 then some [0,3,4,5] else none) (fun x=>if x=0 then some [3] else if x=1 then some [0,3,4] else if x=2 then some [0,3,4,5] else if x=3 then some [0,3,4,5] else none) nP
def C_z40:Code:=cO Tryz.f40
def R_z40:Array ResultVar:=Tryz.f40.results
def qpZ (s0:LU) (out3:List (Int×(LU×Unit))) (i4:Int) (k5:Int):Fr:=frOf [(0,da s0),(3,(.dat (.sl (.pair (.int .i64) (.pair (.sl .byte) .unit))) out3 (some (3,46)))),(4,dc i4),(5,dc k5)]
noncomputable def qqa (K:Ex→Fr→OA):=fun s0 out3 i4 k5=>K (.exit 2) (qpZ s0 out3 i4 k5)
noncomputable def qjD (K:Ex→Fr→OA):=fun out3=>K (.exit 0) (frOf [(3,(.dat (.sl (.pair (.int .i64) (.pair (.sl .byte) .unit))) out3 (some (3,46))))])
def quU (n:Nat) (K:Ex→Fr→OA):Ex→Fr→OA:=qh 2 (E_z40.cutb 2) (kSeq (evCP E_z40 (evLP E_z40 n) (sub C_z40 [1,1,0,1,0,0,1,0,1,1])) (qh 1 (E_z40.cutb 1) (kSeq (fun K fr=>evLP E_z40 n (sub C_z40 [1,1,0,1,0,0]) K (cutFP (E_z40.cuts 3) fr)) K)))
def quV (n:Nat):Ex→Fr→OA:=qh 0 (E_z40.cutb 0) (kSeq (evCP E_z40 (evLP E_z40 n) (sub C_z40 [1,1,1])) (kFnP E_z40 R_z40))
def qlz (s0:LU) (out3:List (Int×(LU×Unit))) (i4:Int):Fr:=frOf [(0,da s0),(3,(.dat (.sl (.pair (.int .i64) (.pair (.sl .byte) .unit))) out3 (some (3,46)))),(4,dc i4)]
theorem qHh (K:Ex→Fr→OA):∀ (n:Nat) (s0:LU) (out3:List (Int×(LU×Unit))) (i4:Int) (k5:Int),evLP E_z40 n (sub C_z40 [1,1,0,1,0,0,1,0,1,0,0,0]) K (qpZ s0 out3 i4 k5)=qou (qqa K) n s0 out3 i4 k5:=by
 intro n;induction n with
 | zero=>intros; rfl
 | succ n IH =>
 intro s0 out3 i4 k5;have ih:(fun s0 out3 i4 k5=>evLP E_z40 n (sub C_z40 [1,1,0,1,0,0,1,0,1,0,0,0]) K (qpZ s0 out3 i4 k5))=qou (qqa K) n:=by
  funext s0 out3 i4 k5;exact IH s0 out3 i4 k5
 show _=qgR (qqa K) (qou (qqa K) n) n s0 out3 i4 k5;rw [← ih];kernel_rfl
theorem qxR (K:Ex→Fr→OA) (n:Nat) (s0:LU) (out3:List (Int×(LU×Unit))) (i4:Int) (k5:Int):(quU n K) (.exit 2) (qpZ s0 out3 i4 k5)=qkl (fun out3=>K (.exit 0) (frOf [(3,(.dat (.sl (.pair (.int .i64) (.pair (.sl .byte) .unit))) out3 (some (3,46))))])) (fun s0 out3 i4=>evLP E_z40 n (sub C_z40 [1,1,0,1,0,0]) K (qlz s0 out3 i4)) n s0 out3 i4 k5:=by
 kernel_rfl
theorem qHi (K:Ex→Fr→OA):∀ (n:Nat) (s0:LU) (out3:List (Int×(LU×Unit))) (i4:Int),evLP E_z40 n (sub C_z40 [1,1,0,1,0,0]) K (qlz s0 out3 i4)=qqy (qjD K) n s0 out3 i4:=by
 intro n;induction n with
 | zero=>intros; rfl
 | succ n IH =>
 intro s0 out3 i4;have ih:(fun s0 out3 i4=>evLP E_z40 n (sub C_z40 [1,1,0,1,0,0]) K (qlz s0 out3 i4))=qqy (qjD K) n:=by
  funext s0 out3 i4;exact IH s0 out3 i4
 show _=qkm (qjD K) (qqy (qjD K) n) n s0 out3 i4;rw [← ih];unfold qkm;rw [show qou (qkl (qjD K) (fun s0 out3 i4=>evLP E_z40 n (sub C_z40 [1,1,0,1,0,0]) K (qlz s0 out3 i4)) n) n=(fun s0 out3 i4 k5=>evLP E_z40 n (sub C_z40 [1,1,0,1,0,0,1,0,1,0,0,0]) (quU n K) (qpZ s0 out3 i4 k5)) from by
  funext s0 out3 i4 k5;refine Eq.trans ?_ (qHh (quU n K) n s0 out3 i4 k5).symm;rw [show (qqa (quU n K))=(qkl (qjD K) (fun s0 out3 i4=>evLP E_z40 n (sub C_z40 [1,1,0,1,0,0]) K (qlz s0 out3 i4)) n) from by
   funext s0 out3 i4 k5;exact qxR K n s0 out3 i4 k5]
  all_goals kernel_rfl]
 kernel_rfl
theorem qxS (n:Nat) (out3:List (Int×(LU×Unit))):(quV n) (.exit 0) (frOf [(3,(.dat (.sl (.pair (.int .i64) (.pair (.sl .byte) .unit))) out3 (some (3,46))))])=qkn n out3:=by
 kernel_rfl
theorem qVm (n:Nat) (s0:LU) (o0:Lab):evFnP E_z40 n C_z40 R_z40 [db s0 o0]=qHX n s0:=by
 unfold qHX;rw [show qqy (qkn n) n=(fun s0 out3 i4=>evLP E_z40 n (sub C_z40 [1,1,0,1,0,0]) (quV n) (qlz s0 out3 i4)) from by
  funext s0 out3 i4;refine Eq.trans ?_ (qHi (quV n) n s0 out3 i4).symm;rw [show (qjD (quV n))=(qkn n) from by
   funext out3;exact qxS n out3]
  all_goals kernel_rfl]
 kernel_rfl
theorem qHj:qe G Tryz.prog 40 s_z40:=by
 refine sQ (E:=E_z40) (c:=C_z40) rfl (fun w S hg=>(qa (quQ w S hg) (qa (qHg w S hg) qc))) Tryz.func40 ?_;intro avs r h;unfold s_z40 at h;split at h
 ·obtain ⟨hp,rfl⟩:=yj h;obtain ⟨n,hn⟩:=qOM _ hp;exact ⟨n,_,(qVm n _ _).trans hn,.inl rfl⟩
 ·cases h
end
end Go.Av
