import Derived.Test.YtnfehbljinflbaaGreatDoorRRRRErEvF
import Derived.Test.YtnfehbljinflbaaGreatDoorRRRREtN
import Derived.Test.YtnfehbljinflbaaGreatDoorRRRRProg
import Derived.KernelRfl
namespace Go.Av
noncomputable section
open Go.Proofs
set_option maxRecDepth 100000
def E_z7:EnvP:=eQ [(8,s_z8),(9,s_z9),(15,s_z15),(16,s_z16),(17,s_z17)] 25 (some [0]) nC nC nP
def C_z7:Code:=cO Tryz.f7
def R_z7:Array ResultVar:=Tryz.f7.results
theorem z7_ev (n:Nat)  : evFnP E_z7 n C_z7 R_z7 []=z7_sh n  := by
 kernel_rfl
theorem qLU:qe G Tryz.prog 7 s_z7:=by
 refine sQ (E:=E_z7) (c:=C_z7) rfl (fun w S hg=>(qa (qAB w S hg) (qa (qLT w S hg) (qa (quQ w S hg) (qa (quS w S hg) (qa (quT w S hg) qc)))))) Tryz.func7 ?_;intro avs r h;unfold s_z7 at h;split at h <;> cases h
 obtain ⟨n,hn⟩:=qSG;exact ⟨n,_,(z7_ev n ).trans hn,.inl rfl⟩
def E_z22:EnvP:=eQ [] 41 (some [4]) nC nC nP
def C_z22:Code:=cO Tryz.f22
def R_z22:Array ResultVar:=Tryz.f22.results
theorem qUQ (n:Nat) (s0:LU) (o0:Lab) (i1:Int) (o1:Lab):evFnP E_z22 n C_z22 R_z22 [db s0 o0,de i1 o1]=qMO n s0 i1:=by
 kernel_rfl
theorem qHf:qe G Tryz.prog 22 s_z22:=by
 refine sQ (E:=E_z22) (c:=C_z22) rfl (fun w S hg=>qc) Tryz.func22 ?_;intro avs r h;unfold s_z22 at h;split at h
 ·obtain ⟨hp,rfl⟩:=yj h;obtain ⟨n,hn⟩:=qOP _ _ hp;exact ⟨n,_,(qUQ n _ _ _ _).trans hn,.inl rfl⟩
 ·cases h
def E_z13:EnvP:=eQ [(22,s_z22)] 29 (some [2,3]) (fun x=>if x=4 then some [0,4,5,6] else none) (fun x=>if x=0 then some [4,5] else if x=1 then some [0,4,5,6] else none) nP
def C_z13:Code:=cO Tryz.f13
def R_z13:Array ResultVar:=Tryz.f13.results
noncomputable def qqa (K:Ex→Fr→OA):=fun out4 n5=>K (.exit 0) (frOf [(4,(db out4 (some (4,5)))),(5,dc n5)])
def quU (n:Nat):Ex→Fr→OA:=qg 0 (E_z13.cutb 0) (kSeq (evCP E_z13 (evLP E_z13 n) (sub C_z13 [1,1,1,1])) (kFnP E_z13 R_z13))
def qBQ (s0:LU) (out4:LU) (n5:Int) (i6:Int):Fr:=frOf [(0,da s0),(4,(db out4 (some (4,5)))),(5,dc n5),(6,dc i6)]
theorem qHg (K:Ex→Fr→OA):∀ (n:Nat) (s0:LU) (out4:LU) (n5:Int) (i6:Int),evLP E_z13 n (sub C_z13 [1,1,1,0,1,0,0]) K (qBQ s0 out4 n5 i6)=qot (qqa K) n s0 out4 n5 i6:=by
 intro n;induction n with
 | zero=>intros; rfl
 | succ n IH =>
 intro s0 out4 n5 i6;have ih:(fun s0 out4 n5 i6=>evLP E_z13 n (sub C_z13 [1,1,1,0,1,0,0]) K (qBQ s0 out4 n5 i6))=qot (qqa K) n:=by
  funext s0 out4 n5 i6;exact IH s0 out4 n5 i6
 show _=qgL (qqa K) (qot (qqa K) n) n s0 out4 n5 i6;rw [← ih];kernel_rfl
theorem qxR (n:Nat) (out4:LU) (n5:Int):(quU n) (.exit 0) (frOf [(4,(db out4 (some (4,5)))),(5,dc n5)])=qgM n out4 n5:=by
 kernel_rfl
theorem qUR (n:Nat) (s0:LU) (o0:Lab):evFnP E_z13 n C_z13 R_z13 [db s0 o0]=qMP n s0:=by
 unfold qMP;rw [show qot (qgM n) n=(fun s0 out4 n5 i6=>evLP E_z13 n (sub C_z13 [1,1,1,0,1,0,0]) (quU n) (qBQ s0 out4 n5 i6)) from by
  funext s0 out4 n5 i6;refine Eq.trans ?_ (qHg (quU n) n s0 out4 n5 i6).symm;rw [show (qqa (quU n))=(qgM n) from by
   funext out4 n5;exact qxR n out4 n5]
  all_goals kernel_rfl]
 kernel_rfl
theorem qHh:qe G Tryz.prog 13 s_z13:=by
 refine sQ (E:=E_z13) (c:=C_z13) rfl (fun w S hg=>(qa (qHf w S hg) qc)) Tryz.func13 ?_;intro avs r h;unfold s_z13 at h;split at h
 ·obtain ⟨hp,rfl⟩:=yj h;obtain ⟨n,hn⟩:=qOQ _ hp;exact ⟨n,_,(qUR n _ _).trans hn,.inl rfl⟩
 ·cases h
def E_z65:EnvP:=eQ [] 17 (some [2]) nC nC nP
def C_z65:Code:=cO Tryz.f65
def R_z65:Array ResultVar:=Tryz.f65.results
theorem qUS (n:Nat) (c0:UInt8) (o0:Lab):evFnP E_z65 n C_z65 R_z65 [dn c0 o0]=qMQ n c0:=by
 kernel_rfl
theorem quV:qe G Tryz.prog 65 s_z65:=by
 refine sQ (E:=E_z65) (c:=C_z65) rfl (fun w S hg=>qc) Tryz.func65 ?_;intro avs r h;unfold s_z65 at h;split at h <;> cases h
 obtain ⟨n,hn⟩:=qOz _;exact ⟨n,_,(qUS n _ _).trans hn,.inl rfl⟩
def E_z67:EnvP:=eQ [] 38 (some [2]) (fun x=>if x=3 then some [0,3,4] else none) (fun x=>if x=0 then some [3] else if x=1 then some [0,3,4] else none) (fun x=>if x=2 then some (.psl 22 (.osl 5 .byte)) else if x=6 then some (.psl 22 (.osl 5 .byte)) else if x=22 then some (.psl 22 (.osl 5 .byte)) else if x=23 then some (.psl 22 (.osl 5 .byte)) else if x=35 then some (.osl 5 .byte) else none)
def C_z67:Code:=cO Tryz.f67
def R_z67:Array ResultVar:=Tryz.f67.results
noncomputable def qqb (K:Ex→Fr→OA):=fun out3=>K (.exit 0) (frOf [(3,(.pv (.psl 22 (.osl 5 .byte)) out3 none))])
def quW (n:Nat):Ex→Fr→OA:=qg 0 (E_z67.cutb 0) (kSeq (evCP E_z67 (evLP E_z67 n) (sub C_z67 [1,1,1])) (kFnP E_z67 R_z67))
def qBR (s0:LU) (out3:List LU) (i4:Int):Fr:=frOf [(0,da s0),(3,(.pv (.psl 22 (.osl 5 .byte)) out3 none)),(4,dc i4)]
theorem qHi (K:Ex→Fr→OA):∀ (n:Nat) (s0:LU) (out3:List LU) (i4:Int),evLP E_z67 n (sub C_z67 [1,1,0,1,0,0]) K (qBR s0 out3 i4)=qou (qqb K) n s0 out3 i4:=by
 intro n;induction n with
 | zero=>intros; rfl
 | succ n IH =>
 intro s0 out3 i4;have ih:(fun s0 out3 i4=>evLP E_z67 n (sub C_z67 [1,1,0,1,0,0]) K (qBR s0 out3 i4))=qou (qqb K) n:=by
  funext s0 out3 i4;exact IH s0 out3 i4
 show _=qgN (qqb K) (qou (qqb K) n) n s0 out3 i4;rw [← ih];kernel_rfl
theorem qxS (n:Nat) (out3:List LU):(quW n) (.exit 0) (frOf [(3,(.pv (.psl 22 (.osl 5 .byte)) out3 none))])=qkk n out3:=by
 kernel_rfl
theorem qUT (n:Nat) (s0:LU) (o0:Lab):evFnP E_z67 n C_z67 R_z67 [db s0 o0]=qHX n s0:=by
 unfold qHX;rw [show qou (qkk n) n=(fun s0 out3 i4=>evLP E_z67 n (sub C_z67 [1,1,0,1,0,0]) (quW n) (qBR s0 out3 i4)) from by
  funext s0 out3 i4;refine Eq.trans ?_ (qHi (quW n) n s0 out3 i4).symm;rw [show (qqb (quW n))=(qkk n) from by
   funext out3;exact qxS n out3]
  all_goals kernel_rfl]
 kernel_rfl
theorem qHj:qe G Tryz.prog 67 s_z67:=by
 refine sQ (E:=E_z67) (c:=C_z67) rfl (fun w S hg=>qc) Tryz.func67 ?_;intro avs r h;unfold s_z67 at h;split at h
 ·obtain ⟨hp,rfl⟩:=yj h;obtain ⟨n,hn⟩:=qNA _ hp;exact ⟨n,_,(qUT n _ _).trans hn,.inl rfl⟩
 ·cases h
def qRY:EnvP:=eQ [] 12 (some [2]) nC nC nP
def qRZ:Code:=cO Tryz.f109
def qUU:Array ResultVar:=Tryz.f109.results
theorem qSa (n:Nat) (c0:UInt8) (o0:Lab):evFnP qRY n qRZ qUU [dn c0 o0]=qDN n c0:=by
 kernel_rfl
theorem qqc:qe G Tryz.prog 109 s_z109:=by
 refine sQ (E:=qRY) (c:=qRZ) rfl (fun w S hg=>qc) Tryz.func109 ?_;intro avs r h;unfold s_z109 at h;split at h <;> cases h
 obtain ⟨n,hn⟩:=qIy _;exact ⟨n,_,(qSa n _ _).trans hn,.inl rfl⟩
def E_z68:EnvP:=eQ [(109,s_z109)] 9 (some [2]) nC (fun x=>if x=0 then some [] else none) nP
def C_z68:Code:=cO Tryz.f68
def R_z68:Array ResultVar:=Tryz.f68.results
theorem qUV (n:Nat) (c0:UInt8) (o0:Lab):evFnP E_z68 n C_z68 R_z68 [dn c0 o0]=qMR n c0:=by
 kernel_rfl
theorem qHk:qe G Tryz.prog 68 s_z68:=by
 refine sQ (E:=E_z68) (c:=C_z68) rfl (fun w S hg=>(qa (qqc w S hg) qc)) Tryz.func68 ?_;intro avs r h;unfold s_z68 at h;split at h <;> cases h
 obtain ⟨n,hn⟩:=qNw _;exact ⟨n,_,(qUV n _ _).trans hn,.inl rfl⟩
def qnO:EnvP:=eQ [] 17 (some [4]) (fun x=>if x=2 then some [0,1,5] else none) (fun x=>if x=0 then some [] else if x=1 then some [0,1,5] else none) nP
def qxT:Code:=cO Tryz.f140
def qSb:Array ResultVar:=Tryz.f140.results
noncomputable def qnP (K:Ex→Fr→OA):=fun s4=>K .ret (frOf [(4,dg s4)])
def qnQ (n:Nat):Ex→Fr→OA:=qg 0 (qnO.cutb 0) (kSeq (evCP qnO (evLP qnO n) (sub qxT [1,1])) (kFnP qnO qSb))
def qsB (s0:LU) (c1:UInt8) (i5:Int):Fr:=frOf [(0,(df s0 none)),(1,dm c1),(5,dc i5)]
theorem qBS (K:Ex→Fr→OA):∀ (n:Nat) (s0:LU) (c1:UInt8) (i5:Int),evLP qnO n (sub qxT [1,0,1,0,0]) K (qsB s0 c1 i5)=qfY (qnP K) (K (.exit 0) (frOf [])) n s0 c1 i5:=by
 intro n;induction n with
 | zero=>intros; rfl
 | succ n IH =>
 intro s0 c1 i5;have ih:(fun s0 c1 i5=>evLP qnO n (sub qxT [1,0,1,0,0]) K (qsB s0 c1 i5))=qfY (qnP K) (K (.exit 0) (frOf [])) n:=by
  funext s0 c1 i5;exact IH s0 c1 i5
 show _=qeq (qnP K) (K (.exit 0) (frOf [])) (qfY (qnP K) (K (.exit 0) (frOf [])) n) n s0 c1 i5;rw [← ih];kernel_rfl
theorem qsC (n:Nat)  : (qnQ n) (.exit 0) (frOf [])=qfZ n  := by
 kernel_rfl
theorem qSc (n:Nat) (s0:LU) (o0:Lab) (c1:UInt8) (o1:Lab):evFnP qnO n qxT qSb [df s0 o0,dn c1 o1]=qqz n s0 c1:=by
 unfold qqz;rw [show qfY qgO (qfZ n) n=(fun s0 c1 i5=>evLP qnO n (sub qxT [1,0,1,0,0]) (qnQ n) (qsB s0 c1 i5)) from by
  funext s0 c1 i5;refine Eq.trans ?_ (qBS (qnQ n) n s0 c1 i5).symm;rw [show ((qnQ n) (.exit 0) (frOf []))=(qfZ n) from by
   exact qsC n ]
  all_goals kernel_rfl]
 kernel_rfl
theorem qBT:qe G Tryz.prog 140 s_z140:=by
 refine sQ (E:=qnO) (c:=qxT) rfl (fun w S hg=>qc) Tryz.func140 ?_;intro avs r h;unfold s_z140 at h;split at h
 ·obtain ⟨hp,rfl⟩:=yj h;obtain ⟨n,hn⟩:=qIx _ _ hp;exact ⟨n,_,(qSc n _ _ _ _).trans hn,.inl rfl⟩
 ·cases h
def qbM:EnvP:=eQ [(140,s_z140)] 104 (some [2]) nC nC nP
def qbN:Code:=cO Tryz.f114
def qbX:Array ResultVar:=Tryz.f114.results
def resI:OA→Int→Bool
 | some (dc x),v=>x==v
 | _,_=>false
theorem qSd {o:OA} {v:Int} (h:resI o v=true):o=some (dc v):=by
 unfold resI at h;split at h
 ·simp only [beq_iff_eq] at h;subst h;rfl
 ·cases h
theorem qUW:∀ i:Fin 16,resI (evFnP qbM 1 qbN qbX [dn (UInt8.ofNat (0+i.val)) none]) (z114 (UInt8.ofNat (0+i.val)))=true:=by decide +kernel
theorem qUX:∀ i:Fin 16,resI (evFnP qbM 1 qbN qbX [dn (UInt8.ofNat (16+i.val)) none]) (z114 (UInt8.ofNat (16+i.val)))=true:=by decide +kernel
theorem qUY:∀ i:Fin 16,resI (evFnP qbM 1 qbN qbX [dn (UInt8.ofNat (32+i.val)) none]) (z114 (UInt8.ofNat (32+i.val)))=true:=by decide +kernel
theorem qUZ:∀ i:Fin 16,resI (evFnP qbM 1 qbN qbX [dn (UInt8.ofNat (48+i.val)) none]) (z114 (UInt8.ofNat (48+i.val)))=true:=by decide +kernel
theorem qVa:∀ i:Fin 16,resI (evFnP qbM 1 qbN qbX [dn (UInt8.ofNat (64+i.val)) none]) (z114 (UInt8.ofNat (64+i.val)))=true:=by decide +kernel
theorem qVb:∀ i:Fin 16,resI (evFnP qbM 1 qbN qbX [dn (UInt8.ofNat (80+i.val)) none]) (z114 (UInt8.ofNat (80+i.val)))=true:=by decide +kernel
theorem qVc:∀ i:Fin 16,resI (evFnP qbM 1 qbN qbX [dn (UInt8.ofNat (96+i.val)) none]) (z114 (UInt8.ofNat (96+i.val)))=true:=by decide +kernel
theorem qVd:∀ i:Fin 16,resI (evFnP qbM 1 qbN qbX [dn (UInt8.ofNat (112+i.val)) none]) (z114 (UInt8.ofNat (112+i.val)))=true:=by decide +kernel
theorem qVe:∀ i:Fin 16,resI (evFnP qbM 1 qbN qbX [dn (UInt8.ofNat (128+i.val)) none]) (z114 (UInt8.ofNat (128+i.val)))=true:=by decide +kernel
theorem qVf:∀ i:Fin 16,resI (evFnP qbM 1 qbN qbX [dn (UInt8.ofNat (144+i.val)) none]) (z114 (UInt8.ofNat (144+i.val)))=true:=by decide +kernel
theorem qSe:∀ i:Fin 16,resI (evFnP qbM 1 qbN qbX [dn (UInt8.ofNat (160+i.val)) none]) (z114 (UInt8.ofNat (160+i.val)))=true:=by decide +kernel
theorem qSf:∀ i:Fin 16,resI (evFnP qbM 1 qbN qbX [dn (UInt8.ofNat (176+i.val)) none]) (z114 (UInt8.ofNat (176+i.val)))=true:=by decide +kernel
theorem qSg:∀ i:Fin 16,resI (evFnP qbM 1 qbN qbX [dn (UInt8.ofNat (192+i.val)) none]) (z114 (UInt8.ofNat (192+i.val)))=true:=by decide +kernel
theorem qSh:∀ i:Fin 16,resI (evFnP qbM 1 qbN qbX [dn (UInt8.ofNat (208+i.val)) none]) (z114 (UInt8.ofNat (208+i.val)))=true:=by decide +kernel
theorem qSi:∀ i:Fin 16,resI (evFnP qbM 1 qbN qbX [dn (UInt8.ofNat (224+i.val)) none]) (z114 (UInt8.ofNat (224+i.val)))=true:=by decide +kernel
theorem qSj:∀ i:Fin 16,resI (evFnP qbM 1 qbN qbX [dn (UInt8.ofNat (240+i.val)) none]) (z114 (UInt8.ofNat (240+i.val)))=true:=by decide +kernel
theorem qLV:∀ i:Fin 256,resI (evFnP qbM 1 qbN qbX [dn (UInt8.ofNat (i.val)) none]) (z114 (UInt8.ofNat (i.val)))=true:=fun ⟨i,hi⟩=>by
 rcases (show i / 16=0∨i / 16=1∨i / 16=2∨i / 16=3∨i / 16=4∨i / 16=5∨i / 16=6∨i / 16=7∨i / 16=8∨i / 16=9∨i / 16=10∨i / 16=11∨i / 16=12∨i / 16=13∨i / 16=14∨i / 16=15 by omega) with e | e | e | e | e | e | e | e | e | e | e | e | e | e | e | e
 ·have h:=qUW ⟨i - 0,by omega⟩;have e2:0+(i - 0)=i:=by omega
  simp only [e2] at h;exact h
 ·have h:=qUX ⟨i - 16,by omega⟩;have e2:16+(i - 16)=i:=by omega
  simp only [e2] at h;exact h
 ·have h:=qUY ⟨i - 32,by omega⟩;have e2:32+(i - 32)=i:=by omega
  simp only [e2] at h;exact h
 ·have h:=qUZ ⟨i - 48,by omega⟩;have e2:48+(i - 48)=i:=by omega
  simp only [e2] at h;exact h
 ·have h:=qVa ⟨i - 64,by omega⟩;have e2:64+(i - 64)=i:=by omega
  simp only [e2] at h;exact h
 ·have h:=qVb ⟨i - 80,by omega⟩;have e2:80+(i - 80)=i:=by omega
  simp only [e2] at h;exact h
 ·have h:=qVc ⟨i - 96,by omega⟩;have e2:96+(i - 96)=i:=by omega
  simp only [e2] at h;exact h
 ·have h:=qVd ⟨i - 112,by omega⟩;have e2:112+(i - 112)=i:=by omega
  simp only [e2] at h;exact h
 ·have h:=qVe ⟨i - 128,by omega⟩;have e2:128+(i - 128)=i:=by omega
  simp only [e2] at h;exact h
 ·have h:=qVf ⟨i - 144,by omega⟩;have e2:144+(i - 144)=i:=by omega
  simp only [e2] at h;exact h
 ·have h:=qSe ⟨i - 160,by omega⟩;have e2:160+(i - 160)=i:=by omega
  simp only [e2] at h;exact h
 ·have h:=qSf ⟨i - 176,by omega⟩;have e2:176+(i - 176)=i:=by omega
  simp only [e2] at h;exact h
 ·have h:=qSg ⟨i - 192,by omega⟩;have e2:192+(i - 192)=i:=by omega
  simp only [e2] at h;exact h
 ·have h:=qSh ⟨i - 208,by omega⟩;have e2:208+(i - 208)=i:=by omega
  simp only [e2] at h;exact h
 ·have h:=qSi ⟨i - 224,by omega⟩;have e2:224+(i - 224)=i:=by omega
  simp only [e2] at h;exact h
 ·have h:=qSj ⟨i - 240,by omega⟩;have e2:240+(i - 240)=i:=by omega
  simp only [e2] at h;exact h
theorem qSk (c:UInt8) (o:Lab):evFnP qbM 1 qbN qbX [dn c o]=some (de (z114 c) none):=by
 have h:resI (evFnP qbM 1 qbN qbX [dn c none]) (z114 c)=true:=qNs (P:=fun c=>resI (evFnP qbM 1 qbN qbX [dn c none]) (z114 c)=true) qLV c;have e:evFnP qbM 1 qbN qbX [dn c o]=evFnP qbM 1 qbN qbX [dn c none]:=by
  unfold evFnP;have:(fun t=>(([dn c o]:List AV).getD t .bad).strip)=fun t=>(([dn c none]:List AV).getD t .bad).strip:=by
   funext t;match t with
   | 0=>rfl
   | t+1=>rfl
  rw [this];rfl
 rw [e];exact qSd h
theorem qBU:qe G Tryz.prog 114 s_z114:=by
 refine qB G_stays (E:=qbM) (fn:=Tryz.f114) (c:=qbN) (qj rfl qbd) (fun w S hg=>⟨⟨(qa (qBT w S hg) qc),fun f sp h=>qac f sp h w S⟩,qai w S hg,(fun _ _ h=>by cases h),(fun _ _ h=>by cases h),(fun _ _ h=>by cases h),(fun t kt vt h=>qah t kt vt h)⟩) follows Tryz.func114 (by kernel_rfl) (by kernel_rfl) (by kernel_rfl) ?_;intro avs r h;unfold s_z114 at h;split at h
 ·simp only [yb,true_and] at h;subst h;exact ⟨1,_,qSk _ _,.inl rfl⟩
 ·cases h
def E_z79:EnvP:=eQ [(114,s_z114)] 10 (some [4]) nC nC nP
def C_z79:Code:=cO Tryz.f79
def R_z79:Array ResultVar:=Tryz.f79.results
theorem qVg (n:Nat) (c0:UInt8) (o0:Lab) (kinds1:Int) (o1:Lab):evFnP E_z79 n C_z79 R_z79 [dn c0 o0,de kinds1 o1]=qSO n c0 kinds1:=by
 kernel_rfl
theorem qnR:qe G Tryz.prog 79 s_z79:=by
 refine sQ (E:=E_z79) (c:=C_z79) rfl (fun w S hg=>(qa (qBU w S hg) qc)) Tryz.func79 ?_;intro avs r h;unfold s_z79 at h;split at h <;> cases h
 obtain ⟨n,hn⟩:=qNq _ _;exact ⟨n,_,(qVg n _ _ _ _).trans hn,.inl rfl⟩
def E_z69:EnvP:=eQ [(79,s_z79)] 22 (some [4]) (fun x=>if x=3 then some [0,1,5,6] else none) (fun x=>if x=0 then some [5] else if x=1 then some [0,1,5,6] else none) nP
def C_z69:Code:=cO Tryz.f69
def R_z69:Array ResultVar:=Tryz.f69.results
noncomputable def qqd (K:Ex→Fr→OA):=fun n5=>K (.exit 0) (frOf [(5,dc n5)])
def quX (n:Nat):Ex→Fr→OA:=qg 0 (E_z69.cutb 0) (kSeq (evCP E_z69 (evLP E_z69 n) (sub C_z69 [1,1,1])) (kFnP E_z69 R_z69))
def qBV (s0:LU) (kinds1:Int) (n5:Int) (i6:Int):Fr:=frOf [(0,da s0),(1,dc kinds1),(5,dc n5),(6,dc i6)]
theorem qHl (K:Ex→Fr→OA):∀ (n:Nat) (s0:LU) (kinds1:Int) (n5:Int) (i6:Int),evLP E_z69 n (sub C_z69 [1,1,0,1,0,0]) K (qBV s0 kinds1 n5 i6)=qow (qqd K) n s0 kinds1 n5 i6:=by
 intro n;induction n with
 | zero=>intros; rfl
 | succ n IH =>
 intro s0 kinds1 n5 i6;have ih:(fun s0 kinds1 n5 i6=>evLP E_z69 n (sub C_z69 [1,1,0,1,0,0]) K (qBV s0 kinds1 n5 i6))=qow (qqd K) n:=by
  funext s0 kinds1 n5 i6;exact IH s0 kinds1 n5 i6
 show _=qgP (qqd K) (qow (qqd K) n) n s0 kinds1 n5 i6;rw [← ih];kernel_rfl
theorem qxU (n:Nat) (n5:Int):(quX n) (.exit 0) (frOf [(5,dc n5)])=qkl n n5:=by
 kernel_rfl
theorem qVh (n:Nat) (s0:LU) (o0:Lab) (kinds1:Int) (o1:Lab):evFnP E_z69 n C_z69 R_z69 [db s0 o0,de kinds1 o1]=qHY n s0 kinds1:=by
 unfold qHY;rw [show qow (qkl n) n=(fun s0 kinds1 n5 i6=>evLP E_z69 n (sub C_z69 [1,1,0,1,0,0]) (quX n) (qBV s0 kinds1 n5 i6)) from by
  funext s0 kinds1 n5 i6;refine Eq.trans ?_ (qHl (quX n) n s0 kinds1 n5 i6).symm;rw [show (qqd (quX n))=(qkl n) from by
   funext n5;exact qxU n n5]
  all_goals kernel_rfl]
 kernel_rfl
theorem qHm:qe G Tryz.prog 69 s_z69:=by
 refine sQ (E:=E_z69) (c:=C_z69) rfl (fun w S hg=>(qa (qnR w S hg) qc)) Tryz.func69 ?_;intro avs r h;unfold s_z69 at h;split at h
 ·obtain ⟨hp,rfl⟩:=yj h;obtain ⟨n,hn⟩:=qNr _ _ hp;exact ⟨n,_,(qVh n _ _ _ _).trans hn,.inl rfl⟩
 ·cases h
def E_z42:EnvP:=eQ [(67,s_z67),(68,s_z68),(69,s_z69)] 93 (some [2,3]) nC nC nP
def C_z42:Code:=cO Tryz.f42
def R_z42:Array ResultVar:=Tryz.f42.results
theorem qVi (n:Nat) (s0:LU) (o0:Lab):evFnP E_z42 n C_z42 R_z42 [db s0 o0]=qMS n s0:=by
 kernel_rfl
theorem qik:qe G Tryz.prog 42 s_z42:=by
 refine sQ (E:=E_z42) (c:=C_z42) rfl (fun w S hg=>(qa (qHj w S hg) (qa (qHk w S hg) (qa (qHm w S hg) qc)))) Tryz.func42 ?_;intro avs r h;unfold s_z42 at h;split at h
 ·obtain ⟨hp,rfl⟩:=yj h;obtain ⟨n,hn⟩:=qNy _ hp;exact ⟨n,_,(qVi n _ _).trans hn,.inl rfl⟩
 ·cases h
def E_z66:EnvP:=eQ [(42,s_z42),(65,s_z65)] 32 (some [2]) (fun x=>if x=3 then some [0,3,4] else none) (fun x=>if x=0 then some [0,3] else if x=1 then some [0,3,4] else none) nP
def C_z66:Code:=cO Tryz.f66
def R_z66:Array ResultVar:=Tryz.f66.results
noncomputable def qqe (K:Ex→Fr→OA):=fun run0 all3=>K (.exit 0) (frOf [(0,da run0),(3,dg all3)])
def quY (n:Nat):Ex→Fr→OA:=qg 0 (E_z66.cutb 0) (kSeq (evCP E_z66 (evLP E_z66 n) (sub C_z66 [1,1,1])) (kFnP E_z66 R_z66))
def qBW (run0:LU) (all3:Bool) (i4:Int):Fr:=frOf [(0,da run0),(3,dg all3),(4,dc i4)]
theorem qHn (K:Ex→Fr→OA):∀ (n:Nat) (run0:LU) (all3:Bool) (i4:Int),evLP E_z66 n (sub C_z66 [1,1,0,1,0,0]) K (qBW run0 all3 i4)=qox (qqe K) n run0 all3 i4:=by
 intro n;induction n with
 | zero=>intros; rfl
 | succ n IH =>
 intro run0 all3 i4;have ih:(fun run0 all3 i4=>evLP E_z66 n (sub C_z66 [1,1,0,1,0,0]) K (qBW run0 all3 i4))=qox (qqe K) n:=by
  funext run0 all3 i4;exact IH run0 all3 i4
 show _=qgQ (qqe K) (qox (qqe K) n) n run0 all3 i4;rw [← ih];kernel_rfl
theorem qxV (n:Nat) (run0:LU) (all3:Bool):(quY n) (.exit 0) (frOf [(0,da run0),(3,dg all3)])=qgR n run0 all3:=by
 kernel_rfl
theorem qVj (n:Nat) (run0:LU) (o0:Lab):evFnP E_z66 n C_z66 R_z66 [db run0 o0]=qHZ n run0:=by
 unfold qHZ;rw [show qox (qgR n) n=(fun run0 all3 i4=>evLP E_z66 n (sub C_z66 [1,1,0,1,0,0]) (quY n) (qBW run0 all3 i4)) from by
  funext run0 all3 i4;refine Eq.trans ?_ (qHn (quY n) n run0 all3 i4).symm;rw [show (qqe (quY n))=(qgR n) from by
   funext run0 all3;exact qxV n run0 all3]
  all_goals kernel_rfl]
 kernel_rfl
theorem qHo:qe G Tryz.prog 66 s_z66:=by
 refine sQ (E:=E_z66) (c:=C_z66) rfl (fun w S hg=>(qa (qik w S hg) (qa (quV w S hg) qc))) Tryz.func66 ?_;intro avs r h;unfold s_z66 at h;split at h
 ·obtain ⟨hp,rfl⟩:=yj h;obtain ⟨n,hn⟩:=qOI _ hp;exact ⟨n,_,(qVj n _ _).trans hn,.inl rfl⟩
 ·cases h
end
end Go.Av
