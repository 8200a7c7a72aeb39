import Derived.Test.YtmdadpepccbpcaaGreatDoorPoEvH
import Derived.Test.YtmdadpepccbpcaaGreatDoorPoD
import Derived.Test.YtmdadpepccbpcaaGreatDoorAvE
import Derived.Test.YtmdadpepccbpcaaGreatDoorProg
import Derived.KernelRfl
namespace Go.Av
set_option linter.unusedSimpArgs false
set_option linter.unusedVariables false
section
noncomputable section
open Go.Proofs
set_option maxRecDepth 100000
set_option linter.unusedVariables false
def E_z75:EnvP:=eQ [] 53 (some [2]) (fun x=>if x=3 then some [0,3,4] else none) (fun x=>if x=0 then some [3] else if x=1 then some [0,3,4] else none) nP
def C_z75:Code:=cO Tryz.f75
def R_z75:Array ResultVar:=Tryz.f75.results
noncomputable def qwH (K:KT):=fun n3=>K (.exit 0) (frOf [(3,dc n3)])
def qND (n:Nat):KT:=qk 0 (E_z75.cutb 0) (kSeq (evCP E_z75 (evLP E_z75 n) (sub C_z75 [1,1,1])) (kFnP E_z75 R_z75))
def qNE (s0:LU) (n3:Int) (i4:Int):Fr:=frOf [(0,da s0),(3,dc n3),(4,dc i4)]
theorem qCE (K:KT) (n:Nat):(fun s0 n3 i4=>evLP E_z75 n (sub C_z75 [1,1,0,1,0,0]) K (qNE s0 n3 i4))=qjW (qwH K) n:=by
 induction n
 kernel_rfl;rename_i n ih;show _=qgQ (qwH K) (qjW (qwH K) n) n;rw[← ih];kernel_rfl
theorem qSe (n:Nat) (s0:LU) (o0:Lab):evFnP E_z75 n C_z75 R_z75 [db s0 o0]=qLM n s0:=by
 unfold qLM;rw[(Eq.trans (by kernel_rfl) (qCE (qND n) n).symm:qjW (qqT n) n=_)];kernel_rfl
theorem qCF:gG 75 s_z75:=sQ (E:=E_z75) (c:=C_z75) rfl fN Tryz.func75 fun avs r h=>by
 unfold s_z75 at h;split at h
 ·obtain⟨hp,rfl⟩:=yj h;exact eX (qLj _ hp) fun n=>qSe n _ _
 ·cases h
def qpm:EnvP:=eQ [] 69 (some [2,3]) (fun x=>if x=3 then some [0,4,5] else none) (fun x=>if x=0 then some [4] else if x=1 then some [0,4,5] else none) (fun x=>if x=2 then some (.psl 24 (.osl 5 .byte)) else if x=8 then some (.psl 24 (.osl 5 .byte)) else if x=39 then some (.psl 24 (.osl 5 .byte)) else if x=40 then some (.psl 24 (.osl 5 .byte)) else if x=54 then some (.osl 5 .byte) else none)
def qCG:Code:=cO Tryz.f102
def qNF:Array ResultVar:=Tryz.f102.results
noncomputable def qpn (K:KT):=fun out4=>K (.exit 0) (frOf [(4,(.pv (.psl 24 (.osl 5 .byte)) out4 none))])
def qJP (n:Nat):KT:=qk 0 (qpm.cutb 0) (kSeq (evCP qpm (evLP qpm n) (sub qCG [1,1,1])) (kFnP qpm qNF))
def qJQ (s0:LU) (out4:List LU) (i5:Int):Fr:=frOf [(0,da s0),(4,(.pv (.psl 24 (.osl 5 .byte)) out4 none)),(5,dc i5)]
theorem qwI (K:KT) (n:Nat):(fun s0 out4 i5=>evLP qpm n (sub qCG [1,1,0,1,0,0]) K (qJQ s0 out4 i5))=qhq (qpn K) n:=by
 induction n
 kernel_rfl;rename_i n ih;show _=qhZ (qpn K) (qhq (qpn K) n) n;rw[← ih];kernel_rfl
theorem qNG (n:Nat) (s0:LU) (o0:Lab):evFnP qpm n qCG qNF [db s0 o0]=qtm n s0:=by
 unfold qtm;rw[(Eq.trans (by kernel_rfl) (qwI (qJP n) n).symm:qhq (qia n) n=_)];kernel_rfl
theorem qnk:gG 102 s_z102:=sQ (E:=qpm) (c:=qCG) rfl fN Tryz.func102 fun avs r h=>by
 unfold s_z102 at h;split at h
 ·obtain⟨hp,rfl⟩:=yj h;exact eX (qGX _ hp) fun n=>qNG n _ _
 ·cases h
theorem qCH:gG 76 s_z76:=sY [(102,s_z102)] 11 (some [2]) (fC qnk fN) Tryz.func76 fun avs r h=>by
 unfold s_z76 at h;split at h
 ·obtain⟨hp,rfl⟩:=yj h;exact eX (qMG _ hp)
 ·cases h
def E_z35:EnvP:=eQ [(75,s_z75),(76,s_z76)] 47 (some [4]) (fun x=>if x=3 then some [0,1,5,6] else if x=14 then some [1,7,8] else none) (fun x=>if x=0 then some [0,1,5] else if x=1 then some [0,1,5,6] else if x=2 then some [] else if x=3 then some [1,7,8] else none) nP
def C_z35:Code:=cO Tryz.f35
def R_z35:Array ResultVar:=Tryz.f35.results
noncomputable def qrY (K:KT):=fun s0 most1 high5=>K (.exit 0) (frOf [(0,da s0),(1,dc most1),(5,dg high5)])
noncomputable def qkm (K:KT):=fun s4=>K .ret (frOf [(4,dc s4)])
def qNH (n:Nat):KT:=qk 2 (E_z35.cutb 2) (kSeq (evCP E_z35 (evLP E_z35 n) (sub C_z35 [1,1,1,1,1,1,1])) (kFnP E_z35 R_z35))
def qrZ (n:Nat):KT:=qk 0 (E_z35.cutb 0) (kSeq (evCP E_z35 (evLP E_z35 n) (sub C_z35 [1,1,1])) (kFnP E_z35 R_z35))
def qHD (s0:LU) (most1:Int) (high5:Bool) (i6:Int):Fr:=frOf [(0,da s0),(1,dc most1),(5,dg high5),(6,dc i6)]
def qNI (most1:Int) (l7:List LU) (i8:Int):Fr:=frOf [(1,dc most1),(7,(.dat (.sl (.sl .byte)) l7 none)),(8,dc i8)]
theorem qCI (K:KT) (n:Nat):(fun s0 most1 high5 i6=>evLP E_z35 n (sub C_z35 [1,1,0,1,0,0]) K (qHD s0 most1 high5 i6))=qoj (qkm K) (qrY K) n:=by
 induction n
 kernel_rfl;rename_i n ih;show _=qgR (qkm K) (qrY K) (qoj (qkm K) (qrY K) n) n;rw[← ih];kernel_rfl
theorem qwJ (K:KT) (n:Nat):(fun most1 l7 i8=>evLP E_z35 n (sub C_z35 [1,1,1,1,1,1,0,1,0,0]) K (qNI most1 l7 i8))=qhr (qkm K) (K (.exit 2) (frOf [])) n:=by
 induction n
 kernel_rfl;rename_i n ih;show _=qej (qkm K) (K (.exit 2) (frOf [])) (qhr (qkm K) (K (.exit 2) (frOf [])) n) n;rw[← ih];kernel_rfl
theorem qup (n:Nat) (s0:LU) (most1:Int) (high5:Bool):(qrZ n) (.exit 0) (frOf [(0,da s0),(1,dc most1),(5,dg high5)])=qeY n s0 most1 high5:=by
 unfold qeY;rw[(Eq.trans (by kernel_rfl) (qwJ (qNH n) n).symm:qhr qHL (qme n) n=_)];kernel_rfl
theorem qSf (n:Nat) (s0:LU) (o0:Lab) (most1:Int) (o1:Lab):evFnP E_z35 n C_z35 R_z35 [db s0 o0,de most1 o1]=qLN n s0 most1:=by
 unfold qLN;rw[show qoj qHL (qeY n) n=(fun s0 most1 high5 i6=>evLP E_z35 n (sub C_z35 [1,1,0,1,0,0]) (qrZ n) (qHD s0 most1 high5 i6)) from by
  refine Eq.trans ?_ (qCI (qrZ n) n).symm;rw[show (qrY (qrZ n))=(qeY n) from by
   funext s0 most1 high5;exact qup n s0 most1 high5]
  all_goals kernel_rfl]
 kernel_rfl
theorem qCJ:gG 35 s_z35:=sQ (E:=E_z35) (c:=C_z35) rfl (fC qCF (fC qCH fN)) Tryz.func35 fun avs r h=>by
 unfold s_z35 at h;split at h
 ·obtain⟨hp,rfl⟩:=yj h;exact eX (qLm _ _ hp) fun n=>qSf n _ _ _ _
 ·cases h
def E_z10:EnvP:=eQ [] 26 (some [4]) (fun x=>if x=4 then some [0,1,5] else none) (fun x=>if x=0 then some [] else if x=1 then some [0,1,5] else none) nP
def C_z10:Code:=cO Tryz.f10
def R_z10:Array ResultVar:=Tryz.f10.results
noncomputable def qwK (K:KT):=fun s4=>K .ret (frOf [(4,dg s4)])
def qNJ (n:Nat):KT:=qk 0 (E_z10.cutb 0) (kSeq (evCP E_z10 (evLP E_z10 n) (sub C_z10 [1,1,1])) (kFnP E_z10 R_z10))
def qNK (a0:LU) (b1:LU) (i5:Int):Fr:=frOf [(0,da a0),(1,da b1),(5,dc i5)]
theorem qCK (K:KT) (n:Nat):(fun a0 b1 i5=>evLP E_z10 n (sub C_z10 [1,1,0,1,0,0]) K (qNK a0 b1 i5))=qok (qwK K) (K (.exit 0) (frOf [])) n:=by
 induction n
 kernel_rfl;rename_i n ih;show _=qgS (qwK K) (K (.exit 0) (frOf [])) (qok (qwK K) (K (.exit 0) (frOf [])) n) n;rw[← ih];kernel_rfl
theorem qSg (n:Nat) (a0:LU) (o0:Lab) (b1:LU) (o1:Lab):evFnP E_z10 n C_z10 R_z10 [db a0 o0,db b1 o1]=qFF n a0 b1:=by
 unfold qFF;rw[(Eq.trans (by kernel_rfl) (qCK (qNJ n) n).symm:qok qzM (qAJ n) n=_)];kernel_rfl
theorem qCL:gG 10 s_z10:=sQ (E:=E_z10) (c:=C_z10) rfl fN Tryz.func10 fun avs r h=>by
 unfold s_z10 at h;split at h
 ·obtain⟨hp,rfl⟩:=yj h;exact eX (qLP _ _ hp) fun n=>qSg n _ _ _ _
 ·cases h
theorem qwL:gG 137 s_z137:=sY [(189,s_z189)] 20 (some [6]) (fC qnG fN) Tryz.func137 fun avs r h=>by
 unfold s_z137 at h;split at h
 ·obtain⟨hp,rfl⟩:=yj h;exact eX (qFS _ _ _ hp)
 ·cases h
def qpo:EnvP:=eQ [(10,s_z10),(136,s_z136),(137,s_z137),(149,s_z149)] 70 (some [2]) (fun x=>if x=2 then some [0,3] else none) (fun x=>if x=0 then some [0] else if x=1 then some [0,3] else none) nP
def qCM:Code:=cO Tryz.f103
def qNL:Array ResultVar:=Tryz.f103.results
noncomputable def qpp (K:KT):=fun l0=>K (.exit 0) (frOf [(0,da l0)])
noncomputable def qpq (K:KT):=fun s2=>K .ret (frOf [(2,dg s2)])
def qJR (n:Nat):KT:=qk 0 (qpo.cutb 0) (kSeq (evCP qpo (evLP qpo n) (sub qCM [1,1])) (kFnP qpo qNL))
def qJS (l0:LU) (i3:Int):Fr:=frOf [(0,da l0),(3,dc i3)]
theorem qwM (K:KT) (n:Nat):(fun l0 i3=>evLP qpo n (sub qCM [1,0,1,0,0]) K (qJS l0 i3))=qkB (qpq K) (qpp K) n:=by
 induction n
 kernel_rfl;rename_i n ih;show _=qek (qpq K) (qpp K) (qkB (qpq K) (qpp K) n) n;rw[← ih];kernel_rfl
theorem qNM (n:Nat) (l0:LU) (o0:Lab):evFnP qpo n qCM qNL [db l0 o0]=qtn n l0:=by
 unfold qtn;rw[(Eq.trans (by kernel_rfl) (qwM (qJR n) n).symm:qkB qzM (qfR n) n=_)];kernel_rfl
theorem qwN:gG 103 s_z103:=sQ (E:=qpo) (c:=qCM) rfl (fC qCL (fC qiR (fC qwL (fC qnH fN)))) Tryz.func103 fun avs r h=>by
 unfold s_z103 at h;split at h
 ·obtain⟨hp,rfl⟩:=yj h;exact eX (qHi _ hp) fun n=>qNM n _ _
 ·cases h
def E_z47:EnvP:=eQ [(102,s_z102),(103,s_z103)] 38 (some [2]) (fun x=>if x=3 then some [3,4,5] else none) (fun x=>if x=0 then some [] else if x=1 then some [3,4,5] else none) nP
def C_z47:Code:=cO Tryz.f47
def R_z47:Array ResultVar:=Tryz.f47.results
noncomputable def qwO (K:KT):=fun s2=>K .ret (frOf [(2,dc s2)])
def qNN (n:Nat):KT:=qk 0 (E_z47.cutb 0) (kSeq (evCP E_z47 (evLP E_z47 n) (sub C_z47 [1,1,1])) (kFnP E_z47 R_z47))
def qNO (l3:List LU) (ends4:Bool) (i5:Int):Fr:=frOf [(3,(.dat (.sl (.sl .byte)) l3 none)),(4,dg ends4),(5,dc i5)]
theorem qCN (K:KT) (n:Nat):(fun l3 ends4 i5=>evLP E_z47 n (sub C_z47 [1,1,0,1,0,0]) K (qNO l3 ends4 i5))=qva (qwO K) (K (.exit 0) (frOf [])) n:=by
 induction n
 kernel_rfl;rename_i n ih;show _=qgU (qwO K) (K (.exit 0) (frOf [])) (qva (qwO K) (K (.exit 0) (frOf [])) n) n;rw[← ih];kernel_rfl
theorem qSh (n:Nat) (s0:LU) (o0:Lab):evFnP E_z47 n C_z47 R_z47 [db s0 o0]=qFG n s0:=by
 unfold qFG;rw[(Eq.trans (by kernel_rfl) (qCN (qNN n) n).symm:qva qHL (qqV n) n=_)];kernel_rfl
theorem qCO:gG 47 s_z47:=sQ (E:=E_z47) (c:=C_z47) rfl (fC qnk (fC qwN fN)) Tryz.func47 fun avs r h=>by
 unfold s_z47 at h;split at h
 ·obtain⟨hp,rfl⟩:=yj h;exact eX (qMK _ hp) fun n=>qSh n _ _
 ·cases h
def qpr:EnvP:=eQ [(87,s_z87),(88,s_z88)] 51 (some [1000002,3]) (fun x=>if x=3 then some [0,4,5] else none) (fun x=>if x=0 then some [0,4] else if x=1 then some [0,4,5] else none) nP
def qCP:Code:=cO Tryz.f104
def qNP:Array ResultVar:=Tryz.f104.results
noncomputable def qps (K:KT):=fun s0 end4=>K (.exit 0) (frOf [(0,da s0),(4,dc end4)])
def qJT (n:Nat):KT:=qk 0 (qpr.cutb 0) (kSeq (evCP qpr (evLP qpr n) (sub qCP [1,1,1])) (kFnP qpr qNP))
def qJU (s0:LU) (end4:Int) (k5:Int):Fr:=frOf [(0,da s0),(4,dc end4),(5,dc k5)]
theorem qwP (K:KT) (n:Nat):(fun s0 end4 k5=>evLP qpr n (sub qCP [1,1,0,1,0,0]) K (qJU s0 end4 k5))=qfS (qps K) n:=by
 induction n
 kernel_rfl;rename_i n ih;show _=qel (qps K) (qfS (qps K) n) n;rw[← ih];kernel_rfl
theorem qNQ (n:Nat) (s0:LU) (o0:Lab):evFnP qpr n qCP qNP [db s0 o0]=qAL n s0:=by
 unfold qAL;rw[(Eq.trans (by kernel_rfl) (qwP (qJT n) n).symm:qfS (qbH n) n=_)];kernel_rfl
theorem qwQ:gG 104 s_z104:=sQ (E:=qpr) (c:=qCP) rfl (fC qsl (fC qsm fN)) Tryz.func104 fun avs r h=>by
 unfold s_z104 at h;split at h
 ·obtain⟨hp,rfl⟩:=yj h;exact eX (qGP _ hp) fun n=>qNQ n _ _
 ·cases h
def E_z48:EnvP:=eQ [(104,s_z104)] 61 (some [2,3]) (fun x=>if x=4 then some [0,4,5,6] else none) (fun x=>if x=0 then some [4,5] else if x=1 then some [0,4,5,6] else none) nP
def C_z48:Code:=cO Tryz.f48
def R_z48:Array ResultVar:=Tryz.f48.results
noncomputable def qwR (K:KT):=fun code4 long5=>K (.exit 0) (frOf [(4,(db code4 (some (4,5)))),(5,dc long5)])
noncomputable def qwS (K:KT):=fun s2 s3=>K .ret (frOf [(2,(db s2 (some (2,5)))),(3,dc s3)])
def qNR (n:Nat):KT:=qk 0 (E_z48.cutb 0) (kSeq (evCP E_z48 (evLP E_z48 n) (sub C_z48 [1,1,1,1])) (kFnP E_z48 R_z48))
def qNS (s0:LU) (code4:LU) (long5:Int) (i6:Int):Fr:=frOf [(0,da s0),(4,(db code4 (some (4,5)))),(5,dc long5),(6,dc i6)]
theorem qCQ (K:KT) (n:Nat):(fun s0 code4 long5 i6=>evLP E_z48 n (sub C_z48 [1,1,1,0,1,0,0]) K (qNS s0 code4 long5 i6))=qjy (qwS K) (qwR K) n:=by
 induction n
 kernel_rfl;rename_i n ih;show _=qgW (qwS K) (qwR K) (qjy (qwS K) (qwR K) n) n;rw[← ih];kernel_rfl
theorem qSi (n:Nat) (s0:LU) (o0:Lab):evFnP E_z48 n C_z48 R_z48 [db s0 o0]=qLO n s0:=by
 unfold qLO;rw[(Eq.trans (by kernel_rfl) (qCQ (qNR n) n).symm:qjy qAa (qjz n) n=_)];kernel_rfl
theorem qCR:gG 48 s_z48:=sQ (E:=E_z48) (c:=C_z48) rfl (fC qwQ fN) Tryz.func48 fun avs r h=>by
 unfold s_z48 at h;split at h
 ·obtain⟨hp,rfl⟩:=yj h;exact eX (qLp _ hp) fun n=>qSi n _ _
 ·cases h
theorem qCS:gG 23 s_z23:=sZ [(35,s_z35),(47,s_z47),(48,s_z48)] 24 (some [4]) nC (fun x=>if x=0 then some [] else none) nP (fC qCJ (fC qCO (fC qCR fN))) Tryz.func23 fun avs r h=>by
 unfold s_z23 at h;split at h
 ·obtain⟨hp,rfl⟩:=yj h;exact eX (qLz _ _ hp)
 ·cases h
theorem qJV:gG 6 s_z6:=sY [(7,s_z7),(11,s_z11),(12,s_z12),(19,s_z19),(20,s_z20),(21,s_z21),(22,s_z22),(23,s_z23)] 65 (some [6]) (fC qKE (fC qsf (fC qhQ (fC qDV (fC qsn (fC qED (fC qEO (fC qCS fN)))))))) Tryz.func6 fun avs r h=>by
 unfold s_z6 at h;split at h <;> cases h
 exact eX (qQY _ _ _)
end
end
end Go.Av
