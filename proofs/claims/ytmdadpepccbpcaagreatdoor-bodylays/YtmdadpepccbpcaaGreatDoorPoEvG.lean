import Derived.Test.YtmdadpepccbpcaaGreatDoorPoEvF
import Derived.Test.YtmdadpepccbpcaaGreatDoorPoD
import Derived.Test.YtmdadpepccbpcaaGreatDoorAvE
import Derived.Test.YtmdadpepccbpcaaGreatDoorProg
import Derived.KernelRfl
namespace Go.Av
set_option linter.unusedSimpArgs false
set_option linter.unusedVariables false
section
noncomputable section
open Go.Proofs
set_option maxRecDepth 100000
set_option linter.unusedVariables false
def E_z91:EnvP:=eQ [] 18 (some [2]) nC nC nP
def C_z91:Code:=cO Tryz.f91
def R_z91:Array ResultVar:=Tryz.f91.results
theorem qNN (n:Nat) (x0:UInt8) (o0:Lab):evFnP E_z91 n C_z91 R_z91 [dn x0 o0]=qFX n x0:=by
 kernel_rfl
theorem qAU:qe G Tryz.prog 91 s_z91:=by
 refine sQ (E:=E_z91) (c:=C_z91) rfl (fun w S hg=>qc) Tryz.func91 ?_;intro avs r h;unfold s_z91 at h;split at h <;> cases h
 obtain ⟨n,hn⟩:=qGn _;exact ⟨n,_,(qNN n _ _).trans hn,.inl rfl⟩
def qkP:EnvP:=eQ [(91,s_z91)] 20 (some [2,3]) (fun x=>if x=2 then some [0,4] else none) (fun x=>if x=0 then some [] else if x=1 then some [0,4] else none) nP
def qsN:Code:=cO Tryz.f134
def qKP:Array ResultVar:=Tryz.f134.results
noncomputable def qkQ (K:Ex→Fr→OA):=fun s2 s3=>K .ret (frOf [(2,dm s2),(3,dg s3)])
def qkR (n:Nat):Ex→Fr→OA:=qo 0 (qkP.cutb 0) (kSeq (evCP qkP (evLP qkP n) (sub qsN [1,1])) (kFnP qkP qKP))
def qoB (c0:Int) (n4:Int):Fr:=frOf [(0,(di c0 none)),(4,dc n4)]
theorem qwx (K:Ex→Fr→OA):∀ (n:Nat) (c0:Int) (n4:Int),evLP qkP n (sub qsN [1,0,1,0,0]) K (qoB c0 n4)=qix (qkQ K) (K (.exit 0) (frOf [])) n c0 n4:=by
 intro n;induction n with
 | zero=>intros; rfl
 | succ n IH =>
 intro c0 n4;have ih:(fun c0 n4=>evLP qkP n (sub qsN [1,0,1,0,0]) K (qoB c0 n4))=qix (qkQ K) (K (.exit 0) (frOf [])) n:=by
  funext c0 n4;exact IH c0 n4
 show _=qgU (qkQ K) (K (.exit 0) (frOf [])) (qix (qkQ K) (K (.exit 0) (frOf [])) n) n c0 n4;rw [← ih];kernel_rfl
theorem qoC (n:Nat)  : (qkR n) (.exit 0) (frOf [])=qeQ n  := by
 kernel_rfl
theorem qKQ (n:Nat) (c0:Int) (o0:Lab):evFnP qkP n qsN qKP [di c0 o0]=qrk n c0:=by
 unfold qrk;rw [show qix qiw (qeQ n) n=(fun c0 n4=>evLP qkP n (sub qsN [1,0,1,0,0]) (qkR n) (qoB c0 n4)) from by
  funext c0 n4;refine Eq.trans ?_ (qwx (qkR n) n c0 n4).symm;rw [show ((qkR n) (.exit 0) (frOf []))=(qeQ n) from by
   exact qoC n ]
  all_goals kernel_rfl]
 kernel_rfl
theorem qmP:qe G Tryz.prog 134 s_z134:=by
 refine sQ (E:=qkP) (c:=qsN) rfl (fun w S hg=>(qa (qAU w S hg) qc)) Tryz.func134 ?_;intro avs r h;unfold s_z134 at h;split at h <;> cases h
 obtain ⟨n,hn⟩:=qCk _;exact ⟨n,_,(qKQ n _ _).trans hn,.inl rfl⟩
def qKR:EnvP:=eQ [(36,s_z36),(132,s_z132),(133,s_z133),(134,s_z134)] 41 (some [4]) nC (fun x=>if x=0 then some [5] else none) nP
def qKS:Code:=cO Tryz.f131
def qNO:Array ResultVar:=Tryz.f131.results
theorem qKT (n:Nat) (charset0:Int) (o0:Lab) (c1:Int) (o1:Lab):evFnP qKR n qKS qNO [de charset0 o0,di c1 o1]=qyi n charset0 c1:=by
 kernel_rfl
theorem qwy:qe G Tryz.prog 131 s_z131:=by
 refine sQ (E:=qKR) (c:=qKS) rfl (fun w S hg=>(qa (qqH w S hg) (qa (qmN w S hg) (qa (qmO w S hg) (qa (qmP w S hg) qc))))) Tryz.func131 ?_;intro avs r h;unfold s_z131 at h;split at h <;> cases h
 obtain ⟨n,hn⟩:=qCl _ _;exact ⟨n,_,(qKT n _ _ _ _).trans hn,.inl rfl⟩
def qKU:EnvP:=eQ [(36,s_z36)] 60 (some [2]) nC nC nP
def qKV:Code:=cO Tryz.f135
def qNP:Array ResultVar:=Tryz.f135.results
theorem qKW (n:Nat) (c0:Int) (o0:Lab):evFnP qKU n qKV qNP [di c0 o0]=qyj n c0:=by
 kernel_rfl
theorem qwz:qe G Tryz.prog 135 s_z135:=by
 refine sQ (E:=qKU) (c:=qKV) rfl (fun w S hg=>(qa (qqH w S hg) qc)) Tryz.func135 ?_;intro avs r h;unfold s_z135 at h;split at h <;> cases h
 obtain ⟨n,hn⟩:=qCg _;exact ⟨n,_,(qKW n _ _).trans hn,.inl rfl⟩
def E_z71:EnvP:=eQ [(131,s_z131),(132,s_z132),(133,s_z133),(134,s_z134),(135,s_z135)] 40 (some [4]) nC (fun x=>if x=0 then some [5] else none) nP
def C_z71:Code:=cO Tryz.f71
def R_z71:Array ResultVar:=Tryz.f71.results
theorem qNQ (n:Nat) (charset0:Int) (o0:Lab) (c1:Int) (o1:Lab):evFnP E_z71 n C_z71 R_z71 [de charset0 o0,di c1 o1]=qFY n charset0 c1:=by
 kernel_rfl
theorem qAV:qe G Tryz.prog 71 s_z71:=by
 refine sQ (E:=E_z71) (c:=C_z71) rfl (fun w S hg=>(qa (qwy w S hg) (qa (qmN w S hg) (qa (qmO w S hg) (qa (qmP w S hg) (qa (qwz w S hg) qc)))))) Tryz.func71 ?_;intro avs r h;unfold s_z71 at h;split at h <;> cases h
 obtain ⟨n,hn⟩:=qGr _ _;exact ⟨n,_,(qNQ n _ _ _ _).trans hn,.inl rfl⟩
def E_z32:EnvP:=eQ [(71,s_z71)] 34 (some [4,5]) (fun x=>if x=5 then some [0,1,6,7] else none) (fun x=>if x=0 then some [6] else if x=1 then some [0,1,6,7] else none) nP
def C_z32:Code:=cO Tryz.f32
def R_z32:Array ResultVar:=Tryz.f32.results
noncomputable def qqI (K:Ex→Fr→OA):=fun s4 s5=>K .ret (frOf [(4,(db s4 (some (4,5)))),(5,dc s5)])
noncomputable def qmQ (K:Ex→Fr→OA):=fun out6=>K (.exit 0) (frOf [(6,(db out6 (some (6,5))))])
def qqJ (n:Nat):Ex→Fr→OA:=qo 0 (E_z32.cutb 0) (kSeq (evCP E_z32 (evLP E_z32 n) (sub C_z32 [1,1,1,1])) (kFnP E_z32 R_z32))
def qwA (charset0:Int) (t1:LI) (out6:LU) (i7:Int):Fr:=frOf [(0,dc charset0),(1,(.dat (.sl (.int .i32)) t1 none)),(6,(db out6 (some (6,5)))),(7,dc i7)]
theorem qAW (K:Ex→Fr→OA):∀ (n:Nat) (charset0:Int) (t1:LI) (out6:LU) (i7:Int),evLP E_z32 n (sub C_z32 [1,1,1,0,1,0,0]) K (qwA charset0 t1 out6 i7)=qpa (qqI K) (qmQ K) n charset0 t1 out6 i7:=by
 intro n;induction n with
 | zero=>intros; rfl
 | succ n IH =>
 intro charset0 t1 out6 i7;have ih:(fun charset0 t1 out6 i7=>evLP E_z32 n (sub C_z32 [1,1,1,0,1,0,0]) K (qwA charset0 t1 out6 i7))=qpa (qqI K) (qmQ K) n:=by
  funext charset0 t1 out6 i7;exact IH charset0 t1 out6 i7
 show _=qfS (qqI K) (qmQ K) (qpa (qqI K) (qmQ K) n) n charset0 t1 out6 i7;rw [← ih];kernel_rfl
theorem qsO (n:Nat) (out6:LU):(qqJ n) (.exit 0) (frOf [(6,(db out6 (some (6,5))))])=qfT n out6:=by
 kernel_rfl
theorem qNR (n:Nat) (charset0:Int) (o0:Lab) (t1:LI) (o1:Lab):evFnP E_z32 n C_z32 R_z32 [de charset0 o0,.dat (.sl (.int .i32)) t1 o1]=qBN n charset0 t1:=by
 unfold qBN;rw [show qpa qgm (qfT n) n=(fun charset0 t1 out6 i7=>evLP E_z32 n (sub C_z32 [1,1,1,0,1,0,0]) (qqJ n) (qwA charset0 t1 out6 i7)) from by
  funext charset0 t1 out6 i7;refine Eq.trans ?_ (qAW (qqJ n) n charset0 t1 out6 i7).symm;rw [show (qmQ (qqJ n))=(qfT n) from by
   funext out6;exact qsO n out6]
  all_goals kernel_rfl]
 kernel_rfl
theorem qAX:qe G Tryz.prog 32 s_z32:=by
 refine sQ (E:=E_z32) (c:=C_z32) rfl (fun w S hg=>(qa (qAV w S hg) qc)) Tryz.func32 ?_;intro avs r h;unfold s_z32 at h;split at h
 ·obtain ⟨hp,rfl⟩:=yj h;obtain ⟨n,hn⟩:=qGs _ _ hp;exact ⟨n,_,(qNR n _ _ _ _).trans hn,.inl rfl⟩
 ·cases h
def E_z72:EnvP:=eQ [] 56 (some [2]) (fun x=>if x=3 then some [0,3,4] else none) (fun x=>if x=0 then some [3] else if x=1 then some [0,3,4] else none) nP
def C_z72:Code:=cO Tryz.f72
def R_z72:Array ResultVar:=Tryz.f72.results
noncomputable def qmR (K:Ex→Fr→OA):=fun out3=>K (.exit 0) (frOf [(3,(db out3 (some (3,5))))])
def qqK (n:Nat):Ex→Fr→OA:=qo 0 (E_z72.cutb 0) (kSeq (evCP E_z72 (evLP E_z72 n) (sub C_z72 [1,1,1])) (kFnP E_z72 R_z72))
def qwB (s0:LU) (out3:LU) (i4:Int):Fr:=frOf [(0,da s0),(3,(db out3 (some (3,5)))),(4,dc i4)]
theorem qAY (K:Ex→Fr→OA):∀ (n:Nat) (s0:LU) (out3:LU) (i4:Int),evLP E_z72 n (sub C_z72 [1,1,0,1,0,0]) K (qwB s0 out3 i4)=qne (qmR K) n s0 out3 i4:=by
 intro n;induction n with
 | zero=>intros; rfl
 | succ n IH =>
 intro s0 out3 i4;have ih:(fun s0 out3 i4=>evLP E_z72 n (sub C_z72 [1,1,0,1,0,0]) K (qwB s0 out3 i4))=qne (qmR K) n:=by
  funext s0 out3 i4;exact IH s0 out3 i4
 show _=qfU (qmR K) (qne (qmR K) n) n s0 out3 i4;rw [← ih];kernel_rfl
theorem qsP (n:Nat) (out3:LU):(qqK n) (.exit 0) (frOf [(3,(db out3 (some (3,5))))])=qiA n out3:=by
 kernel_rfl
theorem qNS (n:Nat) (s0:LU) (o0:Lab):evFnP E_z72 n C_z72 R_z72 [db s0 o0]=qBO n s0:=by
 unfold qBO;rw [show qne (qiA n) n=(fun s0 out3 i4=>evLP E_z72 n (sub C_z72 [1,1,0,1,0,0]) (qqK n) (qwB s0 out3 i4)) from by
  funext s0 out3 i4;refine Eq.trans ?_ (qAY (qqK n) n s0 out3 i4).symm;rw [show (qmR (qqK n))=(qiA n) from by
   funext out3;exact qsP n out3]
  all_goals kernel_rfl]
 kernel_rfl
theorem qAZ:qe G Tryz.prog 72 s_z72:=by
 refine sQ (E:=E_z72) (c:=C_z72) rfl (fun w S hg=>qc) Tryz.func72 ?_;intro avs r h;unfold s_z72 at h;split at h
 ·obtain ⟨hp,rfl⟩:=yj h;obtain ⟨n,hn⟩:=qGO _ hp;exact ⟨n,_,(qNS n _ _).trans hn,.inl rfl⟩
 ·cases h
def qkS:EnvP:=eQ [] 17 (some [4]) (fun x=>if x=2 then some [0,1,5] else none) (fun x=>if x=0 then some [] else if x=1 then some [0,1,5] else none) nP
def qsQ:Code:=cO Tryz.f225
def qKX:Array ResultVar:=Tryz.f225.results
noncomputable def qkT (K:Ex→Fr→OA):=fun s4=>K .ret (frOf [(4,dg s4)])
def qkU (n:Nat):Ex→Fr→OA:=qo 0 (qkS.cutb 0) (kSeq (evCP qkS (evLP qkS n) (sub qsQ [1,1])) (kFnP qkS qKX))
def qoD (s0:LU) (c1:UInt8) (i5:Int):Fr:=frOf [(0,(df s0 none)),(1,dm c1),(5,dc i5)]
theorem qwC (K:Ex→Fr→OA):∀ (n:Nat) (s0:LU) (c1:UInt8) (i5:Int),evLP qkS n (sub qsQ [1,0,1,0,0]) K (qoD s0 c1 i5)=qeS (qkT K) (K (.exit 0) (frOf [])) n s0 c1 i5:=by
 intro n;induction n with
 | zero=>intros; rfl
 | succ n IH =>
 intro s0 c1 i5;have ih:(fun s0 c1 i5=>evLP qkS n (sub qsQ [1,0,1,0,0]) K (qoD s0 c1 i5))=qeS (qkT K) (K (.exit 0) (frOf [])) n:=by
  funext s0 c1 i5;exact IH s0 c1 i5
 show _=qdw (qkT K) (K (.exit 0) (frOf [])) (qeS (qkT K) (K (.exit 0) (frOf [])) n) n s0 c1 i5;rw [← ih];kernel_rfl
theorem qoE (n:Nat)  : (qkU n) (.exit 0) (frOf [])=qeT n  := by
 kernel_rfl
theorem qKY (n:Nat) (s0:LU) (o0:Lab) (c1:UInt8) (o1:Lab):evFnP qkS n qsQ qKX [df s0 o0,dn c1 o1]=qnf n s0 c1:=by
 unfold qnf;rw [show qeS qfV (qeT n) n=(fun s0 c1 i5=>evLP qkS n (sub qsQ [1,0,1,0,0]) (qkU n) (qoD s0 c1 i5)) from by
  funext s0 c1 i5;refine Eq.trans ?_ (qwC (qkU n) n s0 c1 i5).symm;rw [show ((qkU n) (.exit 0) (frOf []))=(qeT n) from by
   exact qoE n ]
  all_goals kernel_rfl]
 kernel_rfl
theorem qwD:qe G Tryz.prog 225 s_z225:=by
 refine sQ (E:=qkS) (c:=qsQ) rfl (fun w S hg=>qc) Tryz.func225 ?_;intro avs r h;unfold s_z225 at h;split at h
 ·obtain ⟨hp,rfl⟩:=yj h;obtain ⟨n,hn⟩:=qBZ _ _ hp;exact ⟨n,_,(qKY n _ _ _ _).trans hn,.inl rfl⟩
 ·cases h
def qbv:EnvP:=eQ [(225,s_z225)] 104 (some [2]) nC nC nP
def qbw:Code:=cO Tryz.f188
def qbK:Array ResultVar:=Tryz.f188.results
def resI:OA→Int→Bool
 | some (dc x),v=>x==v
 | _,_=>false
theorem qKZ {o:OA} {v:Int} (h:resI o v=true):o=some (dc v):=by
 unfold resI at h;split at h
 ·simp only [beq_iff_eq] at h;subst h;rfl
 ·cases h
theorem qNT:∀ i:Fin 16,resI (evFnP qbv 1 qbw qbK [dn (UInt8.ofNat (0+i.val)) none]) (z188 (UInt8.ofNat (0+i.val)))=true:=by decide +kernel
theorem qNU:∀ i:Fin 16,resI (evFnP qbv 1 qbw qbK [dn (UInt8.ofNat (16+i.val)) none]) (z188 (UInt8.ofNat (16+i.val)))=true:=by decide +kernel
theorem qNV:∀ i:Fin 16,resI (evFnP qbv 1 qbw qbK [dn (UInt8.ofNat (32+i.val)) none]) (z188 (UInt8.ofNat (32+i.val)))=true:=by decide +kernel
theorem qNW:∀ i:Fin 16,resI (evFnP qbv 1 qbw qbK [dn (UInt8.ofNat (48+i.val)) none]) (z188 (UInt8.ofNat (48+i.val)))=true:=by decide +kernel
theorem qNX:∀ i:Fin 16,resI (evFnP qbv 1 qbw qbK [dn (UInt8.ofNat (64+i.val)) none]) (z188 (UInt8.ofNat (64+i.val)))=true:=by decide +kernel
theorem qNY:∀ i:Fin 16,resI (evFnP qbv 1 qbw qbK [dn (UInt8.ofNat (80+i.val)) none]) (z188 (UInt8.ofNat (80+i.val)))=true:=by decide +kernel
theorem qNZ:∀ i:Fin 16,resI (evFnP qbv 1 qbw qbK [dn (UInt8.ofNat (96+i.val)) none]) (z188 (UInt8.ofNat (96+i.val)))=true:=by decide +kernel
theorem qOa:∀ i:Fin 16,resI (evFnP qbv 1 qbw qbK [dn (UInt8.ofNat (112+i.val)) none]) (z188 (UInt8.ofNat (112+i.val)))=true:=by decide +kernel
theorem qOb:∀ i:Fin 16,resI (evFnP qbv 1 qbw qbK [dn (UInt8.ofNat (128+i.val)) none]) (z188 (UInt8.ofNat (128+i.val)))=true:=by decide +kernel
theorem qOc:∀ i:Fin 16,resI (evFnP qbv 1 qbw qbK [dn (UInt8.ofNat (144+i.val)) none]) (z188 (UInt8.ofNat (144+i.val)))=true:=by decide +kernel
theorem qLa:∀ i:Fin 16,resI (evFnP qbv 1 qbw qbK [dn (UInt8.ofNat (160+i.val)) none]) (z188 (UInt8.ofNat (160+i.val)))=true:=by decide +kernel
theorem qLb:∀ i:Fin 16,resI (evFnP qbv 1 qbw qbK [dn (UInt8.ofNat (176+i.val)) none]) (z188 (UInt8.ofNat (176+i.val)))=true:=by decide +kernel
theorem qLc:∀ i:Fin 16,resI (evFnP qbv 1 qbw qbK [dn (UInt8.ofNat (192+i.val)) none]) (z188 (UInt8.ofNat (192+i.val)))=true:=by decide +kernel
theorem qLd:∀ i:Fin 16,resI (evFnP qbv 1 qbw qbK [dn (UInt8.ofNat (208+i.val)) none]) (z188 (UInt8.ofNat (208+i.val)))=true:=by decide +kernel
theorem qLe:∀ i:Fin 16,resI (evFnP qbv 1 qbw qbK [dn (UInt8.ofNat (224+i.val)) none]) (z188 (UInt8.ofNat (224+i.val)))=true:=by decide +kernel
theorem qLf:∀ i:Fin 16,resI (evFnP qbv 1 qbw qbK [dn (UInt8.ofNat (240+i.val)) none]) (z188 (UInt8.ofNat (240+i.val)))=true:=by decide +kernel
theorem qFj:∀ i:Fin 256,resI (evFnP qbv 1 qbw qbK [dn (UInt8.ofNat (i.val)) none]) (z188 (UInt8.ofNat (i.val)))=true:=fun ⟨i,hi⟩=>by
 rcases (show i / 16=0∨i / 16=1∨i / 16=2∨i / 16=3∨i / 16=4∨i / 16=5∨i / 16=6∨i / 16=7∨i / 16=8∨i / 16=9∨i / 16=10∨i / 16=11∨i / 16=12∨i / 16=13∨i / 16=14∨i / 16=15 by omega) with e | e | e | e | e | e | e | e | e | e | e | e | e | e | e | e
 ·have h:=qNT ⟨i - 0,by omega⟩;have e2:0+(i - 0)=i:=by omega
  simp only [e2] at h;exact h
 ·have h:=qNU ⟨i - 16,by omega⟩;have e2:16+(i - 16)=i:=by omega
  simp only [e2] at h;exact h
 ·have h:=qNV ⟨i - 32,by omega⟩;have e2:32+(i - 32)=i:=by omega
  simp only [e2] at h;exact h
 ·have h:=qNW ⟨i - 48,by omega⟩;have e2:48+(i - 48)=i:=by omega
  simp only [e2] at h;exact h
 ·have h:=qNX ⟨i - 64,by omega⟩;have e2:64+(i - 64)=i:=by omega
  simp only [e2] at h;exact h
 ·have h:=qNY ⟨i - 80,by omega⟩;have e2:80+(i - 80)=i:=by omega
  simp only [e2] at h;exact h
 ·have h:=qNZ ⟨i - 96,by omega⟩;have e2:96+(i - 96)=i:=by omega
  simp only [e2] at h;exact h
 ·have h:=qOa ⟨i - 112,by omega⟩;have e2:112+(i - 112)=i:=by omega
  simp only [e2] at h;exact h
 ·have h:=qOb ⟨i - 128,by omega⟩;have e2:128+(i - 128)=i:=by omega
  simp only [e2] at h;exact h
 ·have h:=qOc ⟨i - 144,by omega⟩;have e2:144+(i - 144)=i:=by omega
  simp only [e2] at h;exact h
 ·have h:=qLa ⟨i - 160,by omega⟩;have e2:160+(i - 160)=i:=by omega
  simp only [e2] at h;exact h
 ·have h:=qLb ⟨i - 176,by omega⟩;have e2:176+(i - 176)=i:=by omega
  simp only [e2] at h;exact h
 ·have h:=qLc ⟨i - 192,by omega⟩;have e2:192+(i - 192)=i:=by omega
  simp only [e2] at h;exact h
 ·have h:=qLd ⟨i - 208,by omega⟩;have e2:208+(i - 208)=i:=by omega
  simp only [e2] at h;exact h
 ·have h:=qLe ⟨i - 224,by omega⟩;have e2:224+(i - 224)=i:=by omega
  simp only [e2] at h;exact h
 ·have h:=qLf ⟨i - 240,by omega⟩;have e2:240+(i - 240)=i:=by omega
  simp only [e2] at h;exact h
theorem qLg (c:UInt8) (o:Lab):evFnP qbv 1 qbw qbK [dn c o]=some (de (z188 c) none):=by
 have h:resI (evFnP qbv 1 qbw qbK [dn c none]) (z188 c)=true:=qOo (P:=fun c=>resI (evFnP qbv 1 qbw qbK [dn c none]) (z188 c)=true) qFj c;have e:evFnP qbv 1 qbw qbK [dn c o]=evFnP qbv 1 qbw qbK [dn c none]:=by
  unfold evFnP;have:(fun t=>(([dn c o]:List AV).getD t .bad).strip)=fun t=>(([dn c none]:List AV).getD t .bad).strip:=by
   funext t;match t with
   | 0=>rfl
   | t+1=>rfl
  rw [this];rfl
 rw [e];exact qKZ h
theorem qwE:qe G Tryz.prog 188 s_z188:=by
 refine qav G_stays (E:=qbv) (fn:=Tryz.f188) (c:=qbw) (qd rfl qZ) (fun w S hg=>⟨⟨(qa (qwD w S hg) qc),fun f sp h=>qx f sp h w S⟩,qy w S hg,(fun _ _ h=>by cases h),(fun _ _ h=>by cases h),(fun _ _ h=>by cases h),(fun t kt vt h=>qz t kt vt h)⟩) follows Tryz.func188 (by kernel_rfl) (by kernel_rfl) (by kernel_rfl) ?_;intro avs r h;unfold s_z188 at h;split at h
 ·simp only [yb,true_and] at h;subst h;exact ⟨1,_,qLg _ _,.inl rfl⟩
 ·cases h
def qLh:EnvP:=eQ [(188,s_z188)] 10 (some [4]) nC nC nP
def qLi:Code:=cO Tryz.f136
def qOd:Array ResultVar:=Tryz.f136.results
theorem qLj (n:Nat) (c0:UInt8) (o0:Lab) (kinds1:Int) (o1:Lab):evFnP qLh n qLi qOd [dn c0 o0,de kinds1 o1]=qDY n c0 kinds1:=by
 kernel_rfl
theorem qwF:qe G Tryz.prog 136 s_z136:=by
 refine sQ (E:=qLh) (c:=qLi) rfl (fun w S hg=>(qa (qwE w S hg) qc)) Tryz.func136 ?_;intro avs r h;unfold s_z136 at h;split at h <;> cases h
 obtain ⟨n,hn⟩:=qCa _ _;exact ⟨n,_,(qLj n _ _ _ _).trans hn,.inl rfl⟩
def qLk:EnvP:=eQ [] 17 (some [2]) nC nC nP
def qLl:Code:=cO Tryz.f189
def qOe:Array ResultVar:=Tryz.f189.results
theorem qLm (n:Nat) (n0:Int) (o0:Lab):evFnP qLk n qLl qOe [de n0 o0]=qyl n n0:=by
 kernel_rfl
theorem qwG:qe G Tryz.prog 189 s_z189:=by
 refine sQ (E:=qLk) (c:=qLl) rfl (fun w S hg=>qc) Tryz.func189 ?_;intro avs r h;unfold s_z189 at h;split at h
 ·obtain ⟨hp,rfl⟩:=yj h;obtain ⟨n,hn⟩:=qCb _ hp;exact ⟨n,_,(qLm n _ _).trans hn,.inl rfl⟩
 ·cases h
end
end
end Go.Av
