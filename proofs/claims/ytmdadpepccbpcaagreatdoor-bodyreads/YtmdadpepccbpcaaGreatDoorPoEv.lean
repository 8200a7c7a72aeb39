import Derived.Test.YtmdadpepccbpcaaGreatDoorPoEvH
import Derived.Test.YtmdadpepccbpcaaGreatDoorPoD
import Derived.Test.YtmdadpepccbpcaaGreatDoorAvE
import Derived.Test.YtmdadpepccbpcaaGreatDoorProg
import Derived.KernelRfl
namespace Go.Av
set_option linter.unusedSimpArgs false
set_option linter.unusedVariables false
section
noncomputable section
open Go.Proofs
set_option maxRecDepth 100000
set_option linter.unusedVariables false
def E_z75:EnvP:=eQ [] 53 (some [2]) (fun x=>if x=3 then some [0,3,4] else none) (fun x=>if x=0 then some [3] else if x=1 then some [0,3,4] else none) nP
def C_z75:Code:=cO Tryz.f75
def R_z75:Array ResultVar:=Tryz.f75.results
noncomputable def qwL (K:KT):=fun n3=>K (.exit 0) (frOf [(3,dc n3)])
def qNH (n:Nat):KT:=qk 0 (E_z75.cutb 0) (kSeq (evCP E_z75 (evLP E_z75 n) (sub C_z75 [1,1,1])) (kFnP E_z75 R_z75))
def qNI (s0:LU) (n3:Int) (i4:Int):Fr:=frOf [(0,da s0),(3,dc n3),(4,dc i4)]
theorem qCI (K:KT) (n:Nat):(fun s0 n3 i4=>evLP E_z75 n (sub C_z75 [1,1,0,1,0,0]) K (qNI s0 n3 i4))=qjX (qwL K) n:=by
 induction n
 kernel_rfl;rename_i n ih;show _=qgQ (qwL K) (qjX (qwL K) n) n;rw[← ih];kernel_rfl
theorem qSi (n:Nat) (s0:LU) (o0:Lab):evFnP E_z75 n C_z75 R_z75 [db s0 o0]=qLQ n s0:=by
 unfold qLQ;rw[(Eq.trans (by kernel_rfl) (qCI (qNH n) n).symm:qjX (qqW n) n=_)];kernel_rfl
theorem qCJ:gG 75 s_z75:=sQ (E:=E_z75) (c:=C_z75) rfl fN Tryz.func75 fun avs r h=>by
 unfold s_z75 at h;split at h
 ·obtain⟨hp,rfl⟩:=yj h;exact eX (qLn _ hp) fun n=>qSi n _ _
 ·cases h
def qpp:EnvP:=eQ [] 69 (some [2,3]) (fun x=>if x=3 then some [0,4,5] else none) (fun x=>if x=0 then some [4] else if x=1 then some [0,4,5] else none) (fun x=>if x=2 then some (.psl 24 (.osl 5 .byte)) else if x=8 then some (.psl 24 (.osl 5 .byte)) else if x=39 then some (.psl 24 (.osl 5 .byte)) else if x=40 then some (.psl 24 (.osl 5 .byte)) else if x=54 then some (.osl 5 .byte) else none)
def qCK:Code:=cO Tryz.f102
def qNJ:Array ResultVar:=Tryz.f102.results
noncomputable def qpq (K:KT):=fun out4=>K (.exit 0) (frOf [(4,(.pv (.psl 24 (.osl 5 .byte)) out4 none))])
def qJT (n:Nat):KT:=qk 0 (qpp.cutb 0) (kSeq (evCP qpp (evLP qpp n) (sub qCK [1,1,1])) (kFnP qpp qNJ))
def qJU (s0:LU) (out4:List LU) (i5:Int):Fr:=frOf [(0,da s0),(4,(.pv (.psl 24 (.osl 5 .byte)) out4 none)),(5,dc i5)]
theorem qwM (K:KT) (n:Nat):(fun s0 out4 i5=>evLP qpp n (sub qCK [1,1,0,1,0,0]) K (qJU s0 out4 i5))=qhq (qpq K) n:=by
 induction n
 kernel_rfl;rename_i n ih;show _=qhZ (qpq K) (qhq (qpq K) n) n;rw[← ih];kernel_rfl
theorem qNK (n:Nat) (s0:LU) (o0:Lab):evFnP qpp n qCK qNJ [db s0 o0]=qtq n s0:=by
 unfold qtq;rw[(Eq.trans (by kernel_rfl) (qwM (qJT n) n).symm:qhq (qia n) n=_)];kernel_rfl
theorem qnl:gG 102 s_z102:=sQ (E:=qpp) (c:=qCK) rfl fN Tryz.func102 fun avs r h=>by
 unfold s_z102 at h;split at h
 ·obtain⟨hp,rfl⟩:=yj h;exact eX (qHb _ hp) fun n=>qNK n _ _
 ·cases h
theorem qCL:gG 76 s_z76:=sY [(102,s_z102)] 11 (some [2]) (fC qnl fN) Tryz.func76 fun avs r h=>by
 unfold s_z76 at h;split at h
 ·obtain⟨hp,rfl⟩:=yj h;exact eX (qMK _ hp) fun n=>by kernel_rfl
 ·cases h
def E_z35:EnvP:=eQ [(75,s_z75),(76,s_z76)] 47 (some [4]) (fun x=>if x=3 then some [0,1,5,6] else if x=14 then some [1,7,8] else none) (fun x=>if x=0 then some [0,1,5] else if x=1 then some [0,1,5,6] else if x=2 then some [] else if x=3 then some [1,7,8] else none) nP
def C_z35:Code:=cO Tryz.f35
def R_z35:Array ResultVar:=Tryz.f35.results
noncomputable def qsc (K:KT):=fun s0 most1 high5=>K (.exit 0) (frOf [(0,da s0),(1,dc most1),(5,dg high5)])
noncomputable def qkn (K:KT):=fun s4=>K .ret (frOf [(4,dc s4)])
def qNL (n:Nat):KT:=qk 2 (E_z35.cutb 2) (kSeq (evCP E_z35 (evLP E_z35 n) (sub C_z35 [1,1,1,1,1,1,1])) (kFnP E_z35 R_z35))
def qsd (n:Nat):KT:=qk 0 (E_z35.cutb 0) (kSeq (evCP E_z35 (evLP E_z35 n) (sub C_z35 [1,1,1])) (kFnP E_z35 R_z35))
def qHH (s0:LU) (most1:Int) (high5:Bool) (i6:Int):Fr:=frOf [(0,da s0),(1,dc most1),(5,dg high5),(6,dc i6)]
def qNM (most1:Int) (l7:List LU) (i8:Int):Fr:=frOf [(1,dc most1),(7,(.dat (.sl (.sl .byte)) l7 none)),(8,dc i8)]
theorem qCM (K:KT) (n:Nat):(fun s0 most1 high5 i6=>evLP E_z35 n (sub C_z35 [1,1,0,1,0,0]) K (qHH s0 most1 high5 i6))=qok (qkn K) (qsc K) n:=by
 induction n
 kernel_rfl;rename_i n ih;show _=qgR (qkn K) (qsc K) (qok (qkn K) (qsc K) n) n;rw[← ih];kernel_rfl
theorem qwN (K:KT) (n:Nat):(fun most1 l7 i8=>evLP E_z35 n (sub C_z35 [1,1,1,1,1,1,0,1,0,0]) K (qNM most1 l7 i8))=qhr (qkn K) (K (.exit 2) (frOf [])) n:=by
 induction n
 kernel_rfl;rename_i n ih;show _=qek (qkn K) (K (.exit 2) (frOf [])) (qhr (qkn K) (K (.exit 2) (frOf [])) n) n;rw[← ih];kernel_rfl
theorem qut (n:Nat) (s0:LU) (most1:Int) (high5:Bool):(qsd n) (.exit 0) (frOf [(0,da s0),(1,dc most1),(5,dg high5)])=qfa n s0 most1 high5:=by
 unfold qfa;rw[(Eq.trans (by kernel_rfl) (qwN (qNL n) n).symm:qhr qHP (qmf n) n=_)];kernel_rfl
theorem qSj (n:Nat) (s0:LU) (o0:Lab) (most1:Int) (o1:Lab):evFnP E_z35 n C_z35 R_z35 [db s0 o0,de most1 o1]=qLR n s0 most1:=by
 unfold qLR;rw[show qok qHP (qfa n) n=(fun s0 most1 high5 i6=>evLP E_z35 n (sub C_z35 [1,1,0,1,0,0]) (qsd n) (qHH s0 most1 high5 i6)) from by
  refine Eq.trans ?_ (qCM (qsd n) n).symm;rw[show (qsc (qsd n))=(qfa n) from by
   funext s0 most1 high5;exact qut n s0 most1 high5]
  all_goals kernel_rfl]
 kernel_rfl
theorem qCN:gG 35 s_z35:=sQ (E:=E_z35) (c:=C_z35) rfl (fC qCJ (fC qCL fN)) Tryz.func35 fun avs r h=>by
 unfold s_z35 at h;split at h
 ·obtain⟨hp,rfl⟩:=yj h;exact eX (qLq _ _ hp) fun n=>qSj n _ _ _ _
 ·cases h
def E_z10:EnvP:=eQ [] 26 (some [4]) (fun x=>if x=4 then some [0,1,5] else none) (fun x=>if x=0 then some [] else if x=1 then some [0,1,5] else none) nP
def C_z10:Code:=cO Tryz.f10
def R_z10:Array ResultVar:=Tryz.f10.results
noncomputable def qwO (K:KT):=fun s4=>K .ret (frOf [(4,dg s4)])
def qNN (n:Nat):KT:=qk 0 (E_z10.cutb 0) (kSeq (evCP E_z10 (evLP E_z10 n) (sub C_z10 [1,1,1])) (kFnP E_z10 R_z10))
def qNO (a0:LU) (b1:LU) (i5:Int):Fr:=frOf [(0,da a0),(1,da b1),(5,dc i5)]
theorem qCO (K:KT) (n:Nat):(fun a0 b1 i5=>evLP E_z10 n (sub C_z10 [1,1,0,1,0,0]) K (qNO a0 b1 i5))=qol (qwO K) (K (.exit 0) (frOf [])) n:=by
 induction n
 kernel_rfl;rename_i n ih;show _=qgS (qwO K) (K (.exit 0) (frOf [])) (qol (qwO K) (K (.exit 0) (frOf [])) n) n;rw[← ih];kernel_rfl
theorem qSk (n:Nat) (a0:LU) (o0:Lab) (b1:LU) (o1:Lab):evFnP E_z10 n C_z10 R_z10 [db a0 o0,db b1 o1]=qFJ n a0 b1:=by
 unfold qFJ;rw[(Eq.trans (by kernel_rfl) (qCO (qNN n) n).symm:qol qzQ (qAN n) n=_)];kernel_rfl
theorem qCP:gG 10 s_z10:=sQ (E:=E_z10) (c:=C_z10) rfl fN Tryz.func10 fun avs r h=>by
 unfold s_z10 at h;split at h
 ·obtain⟨hp,rfl⟩:=yj h;exact eX (qLT _ _ hp) fun n=>qSk n _ _ _ _
 ·cases h
theorem qwP:gG 137 s_z137:=sY [(189,s_z189)] 20 (some [6]) (fC qnH fN) Tryz.func137 fun avs r h=>by
 unfold s_z137 at h;split at h
 ·obtain⟨hp,rfl⟩:=yj h;exact eX (qFW _ _ _ hp) fun n=>by kernel_rfl
 ·cases h
def qpr:EnvP:=eQ [(10,s_z10),(136,s_z136),(137,s_z137),(149,s_z149)] 70 (some [2]) (fun x=>if x=2 then some [0,3] else none) (fun x=>if x=0 then some [0] else if x=1 then some [0,3] else none) nP
def qCQ:Code:=cO Tryz.f103
def qNP:Array ResultVar:=Tryz.f103.results
noncomputable def qps (K:KT):=fun l0=>K (.exit 0) (frOf [(0,da l0)])
noncomputable def qpt (K:KT):=fun s2=>K .ret (frOf [(2,dg s2)])
def qJV (n:Nat):KT:=qk 0 (qpr.cutb 0) (kSeq (evCP qpr (evLP qpr n) (sub qCQ [1,1])) (kFnP qpr qNP))
def qJW (l0:LU) (i3:Int):Fr:=frOf [(0,da l0),(3,dc i3)]
theorem qwQ (K:KT) (n:Nat):(fun l0 i3=>evLP qpr n (sub qCQ [1,0,1,0,0]) K (qJW l0 i3))=qkC (qpt K) (qps K) n:=by
 induction n
 kernel_rfl;rename_i n ih;show _=qel (qpt K) (qps K) (qkC (qpt K) (qps K) n) n;rw[← ih];kernel_rfl
theorem qNQ (n:Nat) (l0:LU) (o0:Lab):evFnP qpr n qCQ qNP [db l0 o0]=qtr n l0:=by
 unfold qtr;rw[(Eq.trans (by kernel_rfl) (qwQ (qJV n) n).symm:qkC qzQ (qfS n) n=_)];kernel_rfl
theorem qwR:gG 103 s_z103:=sQ (E:=qpr) (c:=qCQ) rfl (fC qCP (fC qiS (fC qwP (fC qnI fN)))) Tryz.func103 fun avs r h=>by
 unfold s_z103 at h;split at h
 ·obtain⟨hp,rfl⟩:=yj h;exact eX (qHm _ hp) fun n=>qNQ n _ _
 ·cases h
def E_z47:EnvP:=eQ [(102,s_z102),(103,s_z103)] 38 (some [2]) (fun x=>if x=3 then some [3,4,5] else none) (fun x=>if x=0 then some [] else if x=1 then some [3,4,5] else none) nP
def C_z47:Code:=cO Tryz.f47
def R_z47:Array ResultVar:=Tryz.f47.results
noncomputable def qwS (K:KT):=fun s2=>K .ret (frOf [(2,dc s2)])
def qNR (n:Nat):KT:=qk 0 (E_z47.cutb 0) (kSeq (evCP E_z47 (evLP E_z47 n) (sub C_z47 [1,1,1])) (kFnP E_z47 R_z47))
def qNS (l3:List LU) (ends4:Bool) (i5:Int):Fr:=frOf [(3,(.dat (.sl (.sl .byte)) l3 none)),(4,dg ends4),(5,dc i5)]
theorem qCR (K:KT) (n:Nat):(fun l3 ends4 i5=>evLP E_z47 n (sub C_z47 [1,1,0,1,0,0]) K (qNS l3 ends4 i5))=qve (qwS K) (K (.exit 0) (frOf [])) n:=by
 induction n
 kernel_rfl;rename_i n ih;show _=qgU (qwS K) (K (.exit 0) (frOf [])) (qve (qwS K) (K (.exit 0) (frOf [])) n) n;rw[← ih];kernel_rfl
theorem qSl (n:Nat) (s0:LU) (o0:Lab):evFnP E_z47 n C_z47 R_z47 [db s0 o0]=qFK n s0:=by
 unfold qFK;rw[(Eq.trans (by kernel_rfl) (qCR (qNR n) n).symm:qve qHP (qqY n) n=_)];kernel_rfl
theorem qCS:gG 47 s_z47:=sQ (E:=E_z47) (c:=C_z47) rfl (fC qnl (fC qwR fN)) Tryz.func47 fun avs r h=>by
 unfold s_z47 at h;split at h
 ·obtain⟨hp,rfl⟩:=yj h;exact eX (qMO _ hp) fun n=>qSl n _ _
 ·cases h
def qpu:EnvP:=eQ [(87,s_z87),(88,s_z88)] 51 (some [1000002,3]) (fun x=>if x=3 then some [0,4,5] else none) (fun x=>if x=0 then some [0,4] else if x=1 then some [0,4,5] else none) nP
def qCT:Code:=cO Tryz.f104
def qNT:Array ResultVar:=Tryz.f104.results
noncomputable def qpv (K:KT):=fun s0 end4=>K (.exit 0) (frOf [(0,da s0),(4,dc end4)])
def qJX (n:Nat):KT:=qk 0 (qpu.cutb 0) (kSeq (evCP qpu (evLP qpu n) (sub qCT [1,1,1])) (kFnP qpu qNT))
def qJY (s0:LU) (end4:Int) (k5:Int):Fr:=frOf [(0,da s0),(4,dc end4),(5,dc k5)]
theorem qwT (K:KT) (n:Nat):(fun s0 end4 k5=>evLP qpu n (sub qCT [1,1,0,1,0,0]) K (qJY s0 end4 k5))=qfT (qpv K) n:=by
 induction n
 kernel_rfl;rename_i n ih;show _=qem (qpv K) (qfT (qpv K) n) n;rw[← ih];kernel_rfl
theorem qNU (n:Nat) (s0:LU) (o0:Lab):evFnP qpu n qCT qNT [db s0 o0]=qAP n s0:=by
 unfold qAP;rw[(Eq.trans (by kernel_rfl) (qwT (qJX n) n).symm:qfT (qbH n) n=_)];kernel_rfl
theorem qwU:gG 104 s_z104:=sQ (E:=qpu) (c:=qCT) rfl (fC qsp (fC qsq fN)) Tryz.func104 fun avs r h=>by
 unfold s_z104 at h;split at h
 ·obtain⟨hp,rfl⟩:=yj h;exact eX (qGT _ hp) fun n=>qNU n _ _
 ·cases h
def E_z48:EnvP:=eQ [(104,s_z104)] 61 (some [2,3]) (fun x=>if x=4 then some [0,4,5,6] else none) (fun x=>if x=0 then some [4,5] else if x=1 then some [0,4,5,6] else none) nP
def C_z48:Code:=cO Tryz.f48
def R_z48:Array ResultVar:=Tryz.f48.results
noncomputable def qwV (K:KT):=fun code4 long5=>K (.exit 0) (frOf [(4,(db code4 (some (4,5)))),(5,dc long5)])
noncomputable def qwW (K:KT):=fun s2 s3=>K .ret (frOf [(2,(db s2 (some (2,5)))),(3,dc s3)])
def qNV (n:Nat):KT:=qk 0 (E_z48.cutb 0) (kSeq (evCP E_z48 (evLP E_z48 n) (sub C_z48 [1,1,1,1])) (kFnP E_z48 R_z48))
def qNW (s0:LU) (code4:LU) (long5:Int) (i6:Int):Fr:=frOf [(0,da s0),(4,(db code4 (some (4,5)))),(5,dc long5),(6,dc i6)]
theorem qCU (K:KT) (n:Nat):(fun s0 code4 long5 i6=>evLP E_z48 n (sub C_z48 [1,1,1,0,1,0,0]) K (qNW s0 code4 long5 i6))=qjz (qwW K) (qwV K) n:=by
 induction n
 kernel_rfl;rename_i n ih;show _=qgW (qwW K) (qwV K) (qjz (qwW K) (qwV K) n) n;rw[← ih];kernel_rfl
theorem qSm (n:Nat) (s0:LU) (o0:Lab):evFnP E_z48 n C_z48 R_z48 [db s0 o0]=qLS n s0:=by
 unfold qLS;rw[(Eq.trans (by kernel_rfl) (qCU (qNV n) n).symm:qjz qAe (qjA n) n=_)];kernel_rfl
theorem qCV:gG 48 s_z48:=sQ (E:=E_z48) (c:=C_z48) rfl (fC qwU fN) Tryz.func48 fun avs r h=>by
 unfold s_z48 at h;split at h
 ·obtain⟨hp,rfl⟩:=yj h;exact eX (qLt _ hp) fun n=>qSm n _ _
 ·cases h
theorem qCW:gG 23 s_z23:=sZ [(35,s_z35),(47,s_z47),(48,s_z48)] 24 (some [4]) nC (fun x=>if x=0 then some [] else none) nP (fC qCN (fC qCS (fC qCV fN))) Tryz.func23 fun avs r h=>by
 unfold s_z23 at h;split at h
 ·obtain⟨hp,rfl⟩:=yj h;exact eX (qLD _ _ hp) fun n=>by kernel_rfl
 ·cases h
theorem qJZ:gG 6 s_z6:=sY [(7,s_z7),(11,s_z11),(12,s_z12),(19,s_z19),(20,s_z20),(21,s_z21),(22,s_z22),(23,s_z23)] 65 (some [6]) (fC qKI (fC qsj (fC qhQ (fC qDZ (fC qsr (fC qEH (fC qES (fC qCW fN)))))))) Tryz.func6 fun avs r h=>by
 unfold s_z6 at h;split at h <;> cases h
 exact eX (qRc _ _ _) fun n=>by kernel_rfl
end
end
end Go.Av
