import Derived.Test.YtmdadpepccbpcaaGreatDoorPoEvE
import Derived.Test.YtmdadpepccbpcaaGreatDoorPoD
import Derived.Test.YtmdadpepccbpcaaGreatDoorAvE
import Derived.Test.YtmdadpepccbpcaaGreatDoorProg
import Derived.KernelRfl
namespace Go.Av
set_option linter.unusedSimpArgs false
set_option linter.unusedVariables false
section
open UInt8 (ofNat)
noncomputable section
open Go.Proofs
set_option maxRecDepth 100000
set_option linter.unusedVariables false
theorem qDU:gG 39 s_z39:=sY [(84,s_z84)] 11 (some [2]) (fC qDT fN) Tryz.func39 fun avs r h=>by
 unfold s_z39 at h;split at h
 ·obtain⟨hp,rfl⟩:=yj h;exact eX (qLo _ hp)
 ·cases h
theorem qDV:gG 19 s_z19:=sZ [(37,s_z37),(38,s_z38),(39,s_z39)] 18 (some [4]) nC (fun x=>if x=0 then some [] else none) nP (fC qsc (fC qDP (fC qDU fN))) Tryz.func19 fun avs r h=>by
 unfold s_z19 at h;split at h
 ·obtain⟨hp,rfl⟩:=yj h;exact eX (qLy _ _ hp)
 ·cases h
def qpY:EnvP:=eQ [] 17 (some [4]) (fun x=>if x=2 then some [0,1,5] else none) (fun x=>if x=0 then some [] else if x=1 then some [0,1,5] else none) nP
def qDW:Code:=cO Tryz.f225
def qPQ:Array ResultVar:=Tryz.f225.results
noncomputable def qpZ (K:KT):=fun s4=>K .ret (frOf [(4,dg s4)])
def qKL (n:Nat):KT:=qk 0 (qpY.cutb 0) (kSeq (evCP qpY (evLP qpY n) (sub qDW [1,1])) (kFnP qpY qPQ))
def qKM (s0:LU) (c1:UInt8) (i5:Int):Fr:=frOf [(0,(df s0 none)),(1,dm c1),(5,dc i5)]
theorem qyG (K:KT) (n:Nat):(fun s0 c1 i5=>evLP qpY n (sub qDW [1,0,1,0,0]) K (qKM s0 c1 i5))=qho (qpZ K) (K (.exit 0) (frOf [])) n:=by
 induction n
 kernel_rfl;rename_i n ih;show _=qdZ (qpZ K) (K (.exit 0) (frOf [])) (qho (qpZ K) (K (.exit 0) (frOf [])) n) n;rw[← ih];kernel_rfl
theorem qPR (n:Nat) (s0:LU) (o0:Lab) (c1:UInt8) (o1:Lab):evFnP qpY n qDW qPQ [df s0 o0,dn c1 o1]=qoa n s0 c1:=by
 unfold qoa;rw[(Eq.trans (by kernel_rfl) (qyG (qKL n) n).symm:qho qzM (qlK n) n=_)];kernel_rfl
theorem qyH:gG 225 s_z225:=sQ (E:=qpY) (c:=qDW) rfl fN Tryz.func225 fun avs r h=>by
 unfold s_z225 at h;split at h
 ·obtain⟨hp,rfl⟩:=yj h;exact eX (qFP _ _ hp) fun n=>qPR n _ _ _ _
 ·cases h
def qbT:EnvP:=eQ [(225,s_z225)] 104 (some [2]) nC nC nP
def qcf:Code:=cO Tryz.f188
def qcg:Array ResultVar:=Tryz.f188.results
def resI:OA→Int→Bool
 | some (dc x),v=>x==v
 | _,_=>false
theorem qPS {o:OA} {v:Int} (h:resI o v=true):o=some (dc v):=by
 unfold resI at h;split at h
 ·simp only[beq_iff_eq] at h;subst h;rfl
 ·cases h
theorem qSZ:∀ i:Fin 16,resI (evFnP qbT 1 qcf qcg [dn (ofNat (0+i.val)) none]) (z188 (ofNat (0+i.val)))=true:=by decide +kernel
theorem qTa:∀ i:Fin 16,resI (evFnP qbT 1 qcf qcg [dn (ofNat (16+i.val)) none]) (z188 (ofNat (16+i.val)))=true:=by decide +kernel
theorem qTb:∀ i:Fin 16,resI (evFnP qbT 1 qcf qcg [dn (ofNat (32+i.val)) none]) (z188 (ofNat (32+i.val)))=true:=by decide +kernel
theorem qTc:∀ i:Fin 16,resI (evFnP qbT 1 qcf qcg [dn (ofNat (48+i.val)) none]) (z188 (ofNat (48+i.val)))=true:=by decide +kernel
theorem qTd:∀ i:Fin 16,resI (evFnP qbT 1 qcf qcg [dn (ofNat (64+i.val)) none]) (z188 (ofNat (64+i.val)))=true:=by decide +kernel
theorem qTe:∀ i:Fin 16,resI (evFnP qbT 1 qcf qcg [dn (ofNat (80+i.val)) none]) (z188 (ofNat (80+i.val)))=true:=by decide +kernel
theorem qTf:∀ i:Fin 16,resI (evFnP qbT 1 qcf qcg [dn (ofNat (96+i.val)) none]) (z188 (ofNat (96+i.val)))=true:=by decide +kernel
theorem qTg:∀ i:Fin 16,resI (evFnP qbT 1 qcf qcg [dn (ofNat (112+i.val)) none]) (z188 (ofNat (112+i.val)))=true:=by decide +kernel
theorem qTh:∀ i:Fin 16,resI (evFnP qbT 1 qcf qcg [dn (ofNat (128+i.val)) none]) (z188 (ofNat (128+i.val)))=true:=by decide +kernel
theorem qTi:∀ i:Fin 16,resI (evFnP qbT 1 qcf qcg [dn (ofNat (144+i.val)) none]) (z188 (ofNat (144+i.val)))=true:=by decide +kernel
theorem qPT:∀ i:Fin 16,resI (evFnP qbT 1 qcf qcg [dn (ofNat (160+i.val)) none]) (z188 (ofNat (160+i.val)))=true:=by decide +kernel
theorem qPU:∀ i:Fin 16,resI (evFnP qbT 1 qcf qcg [dn (ofNat (176+i.val)) none]) (z188 (ofNat (176+i.val)))=true:=by decide +kernel
theorem qPV:∀ i:Fin 16,resI (evFnP qbT 1 qcf qcg [dn (ofNat (192+i.val)) none]) (z188 (ofNat (192+i.val)))=true:=by decide +kernel
theorem qPW:∀ i:Fin 16,resI (evFnP qbT 1 qcf qcg [dn (ofNat (208+i.val)) none]) (z188 (ofNat (208+i.val)))=true:=by decide +kernel
theorem qPX:∀ i:Fin 16,resI (evFnP qbT 1 qcf qcg [dn (ofNat (224+i.val)) none]) (z188 (ofNat (224+i.val)))=true:=by decide +kernel
theorem qPY:∀ i:Fin 16,resI (evFnP qbT 1 qcf qcg [dn (ofNat (240+i.val)) none]) (z188 (ofNat (240+i.val)))=true:=by decide +kernel
theorem qKN:∀ i:Fin 256,resI (evFnP qbT 1 qcf qcg [dn (ofNat (i.val)) none]) (z188 (ofNat (i.val)))=true:=fun ⟨i,hi⟩=>by
 rcases (show i / 16=0∨i / 16=1∨i / 16=2∨i / 16=3∨i / 16=4∨i / 16=5∨i / 16=6∨i / 16=7∨i / 16=8∨i / 16=9∨i / 16=10∨i / 16=11∨i / 16=12∨i / 16=13∨i / 16=14∨i / 16=15 by omega) with e | e | e | e | e | e | e | e | e | e | e | e | e | e | e | e
 ·have h:=qSZ ⟨i - 0,by omega⟩;have e2:0+(i - 0)=i:=by omega
  simp only[e2] at h;exact h
 ·have h:=qTa ⟨i - 16,by omega⟩;have e2:16+(i - 16)=i:=by omega
  simp only[e2] at h;exact h
 ·have h:=qTb ⟨i - 32,by omega⟩;have e2:32+(i - 32)=i:=by omega
  simp only[e2] at h;exact h
 ·have h:=qTc ⟨i - 48,by omega⟩;have e2:48+(i - 48)=i:=by omega
  simp only[e2] at h;exact h
 ·have h:=qTd ⟨i - 64,by omega⟩;have e2:64+(i - 64)=i:=by omega
  simp only[e2] at h;exact h
 ·have h:=qTe ⟨i - 80,by omega⟩;have e2:80+(i - 80)=i:=by omega
  simp only[e2] at h;exact h
 ·have h:=qTf ⟨i - 96,by omega⟩;have e2:96+(i - 96)=i:=by omega
  simp only[e2] at h;exact h
 ·have h:=qTg ⟨i - 112,by omega⟩;have e2:112+(i - 112)=i:=by omega
  simp only[e2] at h;exact h
 ·have h:=qTh ⟨i - 128,by omega⟩;have e2:128+(i - 128)=i:=by omega
  simp only[e2] at h;exact h
 ·have h:=qTi ⟨i - 144,by omega⟩;have e2:144+(i - 144)=i:=by omega
  simp only[e2] at h;exact h
 ·have h:=qPT ⟨i - 160,by omega⟩;have e2:160+(i - 160)=i:=by omega
  simp only[e2] at h;exact h
 ·have h:=qPU ⟨i - 176,by omega⟩;have e2:176+(i - 176)=i:=by omega
  simp only[e2] at h;exact h
 ·have h:=qPV ⟨i - 192,by omega⟩;have e2:192+(i - 192)=i:=by omega
  simp only[e2] at h;exact h
 ·have h:=qPW ⟨i - 208,by omega⟩;have e2:208+(i - 208)=i:=by omega
  simp only[e2] at h;exact h
 ·have h:=qPX ⟨i - 224,by omega⟩;have e2:224+(i - 224)=i:=by omega
  simp only[e2] at h;exact h
 ·have h:=qPY ⟨i - 240,by omega⟩;have e2:240+(i - 240)=i:=by omega
  simp only[e2] at h;exact h
theorem qPZ (c:UInt8) (o:Lab):evFnP qbT 1 qcf qcg [dn c o]=some (de (z188 c) none):=by
 have h:resI (evFnP qbT 1 qcf qcg [dn c none]) (z188 c)=true:=qLQ (P:=fun c=>resI (evFnP qbT 1 qcf qcg [dn c none]) (z188 c)=true) qKN c;have e:evFnP qbT 1 qcf qcg [dn c o]=evFnP qbT 1 qcf qcg [dn c none]:=by
  unfold evFnP;have:(fun t=>(([dn c o]:List AV).getD t .bad).strip)=fun t=>(([dn c none]:List AV).getD t .bad).strip:=by
   funext t;match t with
   | 0=>rfl
   | t+1=>rfl
  rw[this];rfl
 rw[e];exact qPS h
theorem qyI:gG 188 s_z188:=sG (E:=qbT) (fun w S hg=>⟨⟨(qc (qyH w S hg) qr),fun f sp h=>qq f sp h w S⟩,qt w S hg,(fun _ _ h=>by cases h),(fun _ _ h=>by cases h),(fun _ _ h=>by cases h),(fun t kt vt h=>qu t kt vt h)⟩) Tryz.func188 fun avs r h=>by
 unfold s_z188 at h;split at h
 ·simp only[yb,true_and] at h;subst h;exact⟨1,_,qPZ _ _,.inl rfl⟩
 ·cases h
theorem qiR:gG 136 s_z136:=sY [(188,s_z188)] 10 (some [4]) (fC qyI fN) Tryz.func136 fun avs r h=>by
 unfold s_z136 at h;split at h <;> cases h
 exact eX (qFQ _ _)
theorem qnG:gG 189 s_z189:=sY [] 17 (some [2]) fN Tryz.func189 fun avs r h=>by
 unfold s_z189 at h;split at h
 ·obtain⟨hp,rfl⟩:=yj h;exact eX (qFR _ hp)
 ·cases h
def qqa:EnvP:=eQ [(189,s_z189)] 25 (some [2,3]) (fun x=>if x=2 then some [0,4] else none) (fun x=>if x=0 then some [] else if x=1 then some [0,4] else none) nP
def qDX:Code:=cO Tryz.f202
def qQa:Array ResultVar:=Tryz.f202.results
noncomputable def qqb (K:KT):=fun s2 s3=>K .ret (frOf [(2,dc s2),(3,dg s3)])
def qKO (n:Nat):KT:=qk 0 (qqa.cutb 0) (kSeq (evCP qqa (evLP qqa n) (sub qDX [1,1])) (kFnP qqa qQa))
def qKP (c0:UInt8) (n4:Int):Fr:=frOf [(0,dm c0),(4,dc n4)]
theorem qyJ (K:KT) (n:Nat):(fun c0 n4=>evLP qqa n (sub qDX [1,0,1,0,0]) K (qKP c0 n4))=qhp (qqb K) (K (.exit 0) (frOf [])) n:=by
 induction n
 kernel_rfl;rename_i n ih;show _=qea (qqb K) (K (.exit 0) (frOf [])) (qhp (qqb K) (K (.exit 0) (frOf [])) n) n;rw[← ih];kernel_rfl
theorem qQb (n:Nat) (c0:UInt8) (o0:Lab):evFnP qqa n qDX qQa [dn c0 o0]=qAu n c0:=by
 unfold qAu;rw[(Eq.trans (by kernel_rfl) (qyJ (qKO n) n).symm:qhp qje (qlL n) n=_)];kernel_rfl
theorem qyK:gG 202 s_z202:=sQ (E:=qqa) (c:=qDX) rfl (fC qnG fN) Tryz.func202 fun avs r h=>by
 unfold s_z202 at h;split at h <;> cases h
 exact eX (qGD _) fun n=>qQb n _ _
theorem qnH:gG 149 s_z149:=sY [(202,s_z202)] 58 (some [6,7]) (fC qyK fN) Tryz.func149 fun avs r h=>by
 unfold s_z149 at h;split at h
 ·obtain⟨hp,rfl⟩:=yj h;exact eX (qGE _ _ _ hp)
 ·cases h
def E_z85:EnvP:=eQ [(136,s_z136),(149,s_z149)] 82 (some [2,3,4]) (fun x=>if x=1 then some [0] else if x=9 then some [0,5,6,7,8] else none) (fun x=>if x=0 then some [0] else if x=1 then some [0] else if x=2 then some [5,6,7] else if x=3 then some [0,5,6,7,8] else none) nP
def C_z85:Code:=cO Tryz.f85
def R_z85:Array ResultVar:=Tryz.f85.results
def qsg (l0:LU):Fr:=frOf [(0,da l0)]
noncomputable def qsh (K:KT):=fun l0=>K (.exit 0) (qsg l0)
noncomputable def qyL (K:KT):=fun soft5 out6 strange7=>K (.exit 2) (frOf [(5,dg soft5),(6,(db out6 (some (6,5)))),(7,dc strange7)])
def qQc (n:Nat):KT:=qk 2 (E_z85.cutb 2) (kSeq (evCP E_z85 (evLP E_z85 n) (sub C_z85 [1,1,1,1,1,1,1])) (kFnP E_z85 R_z85))
def qsi (n:Nat):KT:=qk 0 (E_z85.cutb 0) (kSeq (evCP E_z85 (evLP E_z85 n) (sub C_z85 [1,1])) (kFnP E_z85 R_z85))
def qQd (l0:LU) (soft5:Bool) (out6:LU) (strange7:Int) (i8:Int):Fr:=frOf [(0,da l0),(5,dg soft5),(6,(db out6 (some (6,5)))),(7,dc strange7),(8,dc i8)]
theorem qDY (K:KT) (n:Nat):(fun l0=>evLP E_z85 n (sub C_z85 [1,0,0,0]) K (qsg l0))=qqK (qsh K) n:=by
 induction n
 kernel_rfl;rename_i n ih;show _=qlM (qsh K) (qqK (qsh K) n) n;rw[← ih];kernel_rfl
theorem qDZ (K:KT) (n:Nat):(fun l0 soft5 out6 strange7 i8=>evLP E_z85 n (sub C_z85 [1,1,1,1,1,1,0,1,0,0]) K (qQd l0 soft5 out6 strange7 i8))=qlN (qyL K) n:=by
 induction n
 kernel_rfl;rename_i n ih;show _=qgE (qyL K) (qlN (qyL K) n) n;rw[← ih];kernel_rfl
theorem qux (n:Nat) (l0:LU):(qsi n) (.exit 0) (qsg l0)=qgG n l0:=by
 unfold qgG qcH qaK;rw[(Eq.trans (by kernel_rfl) (qDZ (qQc n) n).symm:qlN (qgF n) n=_)];kernel_rfl
theorem qTj (n:Nat) (l0:LU) (o0:Lab):evFnP E_z85 n C_z85 R_z85 [db l0 o0]=qFw n l0:=by
 unfold qFw;rw[show qqK (qgG n) n=(fun l0=>evLP E_z85 n (sub C_z85 [1,0,0,0]) (qsi n) (qsg l0)) from by
  refine Eq.trans ?_ (qDY (qsi n) n).symm;rw[show (qsh (qsi n))=(qgG n) from by
   funext l0;exact qux n l0]
  all_goals kernel_rfl]
 kernel_rfl
theorem qEa:gG 85 s_z85:=sQ (E:=E_z85) (c:=C_z85) rfl (fC qiR (fC qnH fN)) Tryz.func85 fun avs r h=>by
 unfold s_z85 at h;split at h
 ·obtain⟨hp,rfl⟩:=yj h;exact eX (qMM _ hp) fun n=>qTj n _ _
 ·cases h
def E_z40:EnvP:=eQ [(85,s_z85)] 97 (some [2,3]) (fun x=>if x=4 then some [0,4,5,6,7] else none) (fun x=>if x=0 then some [4,6] else if x=1 then some [0,4,5,6,7] else none) nP
def C_z40:Code:=cO Tryz.f40
def R_z40:Array ResultVar:=Tryz.f40.results
noncomputable def qyM (K:KT):=fun out4 strange6=>K (.exit 0) (frOf [(4,(db out4 (some (4,5)))),(6,dc strange6)])
def qQe (n:Nat):KT:=qk 0 (E_z40.cutb 0) (kSeq (evCP E_z40 (evLP E_z40 n) (sub C_z40 [1,1,1,1])) (kFnP E_z40 R_z40))
def qQf (s0:LU) (out4:LU) (line5:LU) (strange6:Int) (i7:Int):Fr:=frOf [(0,da s0),(4,(db out4 (some (4,5)))),(5,(db line5 (some (5,5)))),(6,dc strange6),(7,dc i7)]
theorem qEb (K:KT) (n:Nat):(fun s0 out4 line5 strange6 i7=>evLP E_z40 n (sub C_z40 [1,1,1,0,1,0,0]) K (qQf s0 out4 line5 strange6 i7))=qjU (qyM K) n:=by
 induction n
 kernel_rfl;rename_i n ih;show _=qlO (qyM K) (qjU (qyM K) n) n;rw[← ih];kernel_rfl
theorem qTk (n:Nat) (s0:LU) (o0:Lab):evFnP E_z40 n C_z40 R_z40 [db s0 o0]=qFx n s0:=by
 unfold qFx;rw[(Eq.trans (by kernel_rfl) (qEb (qQe n) n).symm:qjU (qqL n) n=_)];kernel_rfl
theorem qEc:gG 40 s_z40:=sQ (E:=E_z40) (c:=C_z40) rfl (fC qEa fN) Tryz.func40 fun avs r h=>by
 unfold s_z40 at h;split at h
 ·obtain⟨hp,rfl⟩:=yj h;exact eX (qMP _ hp) fun n=>qTk n _ _
 ·cases h
theorem qyN:gG 191 s_z191:=sZ [] 31 (some [2]) nC (fun x=>if x=0 then some [] else none) nP fN Tryz.func191 fun avs r h=>by
 unfold s_z191 at h;split at h <;> cases h
 exact eX (qGF _)
def qqc:EnvP:=eQ [(191,s_z191)] 14 (some [2,3]) (fun x=>if x=2 then some [0,4] else none) (fun x=>if x=0 then some [] else if x=1 then some [0,4] else none) nP
def qEd:Code:=cO Tryz.f150
def qQg:Array ResultVar:=Tryz.f150.results
noncomputable def qqd (K:KT):=fun s2 s3=>K .ret (frOf [(2,dc s2),(3,dg s3)])
def qKQ (n:Nat):KT:=qk 0 (qqc.cutb 0) (kSeq (evCP qqc (evLP qqc n) (sub qEd [1,1])) (kFnP qqc qQg))
def qKR (c0:UInt8) (n4:Int):Fr:=frOf [(0,dm c0),(4,dc n4)]
theorem qyO (K:KT) (n:Nat):(fun c0 n4=>evLP qqc n (sub qEd [1,0,1,0,0]) K (qKR c0 n4))=qkw (qqd K) (K (.exit 0) (frOf [])) n:=by
 induction n
 kernel_rfl;rename_i n ih;show _=qed (qqd K) (K (.exit 0) (frOf [])) (qkw (qqd K) (K (.exit 0) (frOf [])) n) n;rw[← ih];kernel_rfl
theorem qQh (n:Nat) (c0:UInt8) (o0:Lab):evFnP qqc n qEd qQg [dn c0 o0]=qtb n c0:=by
 unfold qtb;rw[(Eq.trans (by kernel_rfl) (qyO (qKQ n) n).symm:qkw qje (qlP n) n=_)];kernel_rfl
theorem qnI:gG 150 s_z150:=sQ (E:=qqc) (c:=qEd) rfl (fC qyN fN) Tryz.func150 fun avs r h=>by
 unfold s_z150 at h;split at h <;> cases h
 exact eX (qGO _) fun n=>qQh n _ _
def E_z86:EnvP:=eQ [(150,s_z150)] 42 (some [2,3]) (fun x=>if x=4 then some [0,4,5,6] else none) (fun x=>if x=0 then some [4,5] else if x=1 then some [0,4,5,6] else none) nP
def C_z86:Code:=cO Tryz.f86
def R_z86:Array ResultVar:=Tryz.f86.results
noncomputable def qyP (K:KT):=fun out4 strange5=>K (.exit 0) (frOf [(4,(db out4 (some (4,5)))),(5,dc strange5)])
def qQi (n:Nat):KT:=qk 0 (E_z86.cutb 0) (kSeq (evCP E_z86 (evLP E_z86 n) (sub C_z86 [1,1,1,1])) (kFnP E_z86 R_z86))
def qQj (s0:LU) (out4:LU) (strange5:Int) (i6:Int):Fr:=frOf [(0,da s0),(4,(db out4 (some (4,5)))),(5,dc strange5),(6,dc i6)]
theorem qEe (K:KT) (n:Nat):(fun s0 out4 strange5 i6=>evLP E_z86 n (sub C_z86 [1,1,1,0,1,0,0]) K (qQj s0 out4 strange5 i6))=quT (qyP K) n:=by
 induction n
 kernel_rfl;rename_i n ih;show _=qgH (qyP K) (quT (qyP K) n) n;rw[← ih];kernel_rfl
theorem qTl (n:Nat) (s0:LU) (o0:Lab):evFnP E_z86 n C_z86 R_z86 [db s0 o0]=qLG n s0:=by
 unfold qLG;rw[(Eq.trans (by kernel_rfl) (qEe (qQi n) n).symm:quT (qqM n) n=_)];kernel_rfl
theorem qEf:gG 86 s_z86:=sQ (E:=E_z86) (c:=C_z86) rfl (fC qnI fN) Tryz.func86 fun avs r h=>by
 unfold s_z86 at h;split at h
 ·obtain⟨hp,rfl⟩:=yj h;exact eX (qMv _ hp) fun n=>qTl n _ _
 ·cases h
end
end
end Go.Av
