import Derived.Test.YtmdadpepccbpcaaGreatDoorPoEvE
import Derived.Test.YtmdadpepccbpcaaGreatDoorPoD
import Derived.Test.YtmdadpepccbpcaaGreatDoorAvE
import Derived.Test.YtmdadpepccbpcaaGreatDoorProg
import Derived.KernelRfl
namespace Go.Av
set_option linter.unusedSimpArgs false
set_option linter.unusedVariables false
section
noncomputable section
open Go.Proofs
set_option maxRecDepth 100000
set_option linter.unusedVariables false
def E_z33:EnvP:=eQ [(72,s_z72),(73,s_z73)] 65 (some [2]) (fun x=>if x=5 then some [3,4,5,6] else none) (fun x=>if x=0 then some [4,5] else if x=1 then some [3,4,5,6] else none) nP
def C_z33:Code:=cO Tryz.f33
def R_z33:Array ResultVar:=Tryz.f33.results
noncomputable def qAR (K:KT):=fun out4 long5=>K (.exit 0) (frOf [(4,(db out4 (some (4,5)))),(5,dc long5)])
def qTV (n:Nat):KT:=qf 0 (E_z33.cutb 0) (kSeq (evCP E_z33 (evLP E_z33 n) (sub C_z33 [1,1,1,1,1])) (kFnP E_z33 R_z33))
def qTW (b3:LU) (out4:LU) (long5:Int) (i6:Int):Fr:=frOf [(3,(db b3 (some (3,5)))),(4,(db out4 (some (4,5)))),(5,dc long5),(6,dc i6)]
theorem qGU (K:KT) (n:Nat):(fun b3 out4 long5 i6=>evLP E_z33 n (sub C_z33 [1,1,1,1,0,1,0,0]) K (qTW b3 out4 long5 i6))=qpf (qAR K) n:=by
 induction n
 kernel_rfl;rename_i n ih;show _=qgU (qAR K) (qpf (qAR K) n) n;rw[← ih];kernel_rfl
theorem qXh (n:Nat) (s0:LU) (o0:Lab):evFnP E_z33 n C_z33 R_z33 [db s0 o0]=qIb n s0:=by
 unfold qIb;rw[(Eq.trans (by kernel_rfl) (qGU (qTV n) n).symm:qpf (qmG n) n=_)];kernel_rfl
theorem qGV:gG 33 s_z33:=sQ (E:=E_z33) (c:=C_z33) rfl (fC qGR (fC qGT fN)) Tryz.func33 fun avs r h=>by
 unfold s_z33 at h;split at h
 ·obtain⟨hp,rfl⟩:=yj h;exact eX (qQC _ hp) fun n=>qXh n _ _
 ·cases h
def qrn:EnvP:=eQ [] 19 (some [2]) (fun x=>if x=3 then some [0,3,4] else none) (fun x=>if x=0 then some [3] else if x=1 then some [0,3,4] else none) nP
def qGW:Code:=cO Tryz.f151
def qTX:Array ResultVar:=Tryz.f151.results
noncomputable def qro (K:KT):=fun n3=>K (.exit 0) (frOf [(3,dc n3)])
def qOv (n:Nat):KT:=qf 0 (qrn.cutb 0) (kSeq (evCP qrn (evLP qrn n) (sub qGW [1,1,1])) (kFnP qrn qTX))
def qOw (l0:LI) (n3:Int) (i4:Int):Fr:=frOf [(0,(.dat (.sl (.int .i64)) l0 none)),(3,dc n3),(4,dc i4)]
theorem qAS (K:KT) (n:Nat):(fun l0 n3 i4=>evLP qrn n (sub qGW [1,1,0,1,0,0]) K (qOw l0 n3 i4))=qkQ (qro K) n:=by
 induction n
 kernel_rfl;rename_i n ih;show _=qeq (qro K) (qkQ (qro K) n) n;rw[← ih];kernel_rfl
theorem qTY (n:Nat) (l0:LI) (o0:Lab):evFnP qrn n qGW qTX [.dat (.sl (.int .i64)) l0 o0]=quz n l0:=by
 unfold quz;rw[(Eq.trans (by kernel_rfl) (qAS (qOv n) n).symm:qkQ (qmH n) n=_)];kernel_rfl
theorem qoI:gG 151 s_z151:=sQ (E:=qrn) (c:=qGW) rfl fN Tryz.func151 fun avs r h=>by
 unfold s_z151 at h;split at h
 ·obtain⟨hp,rfl⟩:=yj h;exact eX (qJC _ hp) fun n=>qTY n _ _
 ·cases h
def qeY:EnvP:=eQ [] 28 (some [2]) (fun x=>if x=3 then some [0,3,4] else if x=6 then some [0,3,4,5] else none) (fun x=>if x=0 then some [3] else if x=1 then some [0,3,4] else if x=2 then some [0,3,4] else if x=3 then some [0,3,4,5] else none) nP
def qoJ:Code:=cO Tryz.f190
def qTZ:Array ResultVar:=Tryz.f190.results
def qrp (s0:LU) (out3:LI) (i4:Int):Fr:=frOf [(0,da s0),(3,(.dat (.sl (.int .i64)) out3 (some (3,3)))),(4,dc i4)]
noncomputable def qrq (K:KT):=fun s0 out3 i4=>K (.exit 2) (qrp s0 out3 i4)
noncomputable def qma (K:KT):=fun out3=>K (.exit 0) (frOf [(3,(.dat (.sl (.int .i64)) out3 (some (3,3))))])
def qOx (n:Nat) (K:KT):KT:=qf 2 (qeY.cutb 2) (qf 1 (qeY.cutb 1) (kSeq (evCP qeY (evLP qeY n) (sub qoJ [1,1,0,1,0,0,1,1])) (kSeq (fun K fr=>evLP qeY n (sub qoJ [1,1,0,1,0,0]) K (cutFP (qeY.cuts 3) fr)) K)))
def qOy (n:Nat):KT:=qf 0 (qeY.cutb 0) (kSeq (evCP qeY (evLP qeY n) (sub qoJ [1,1,1])) (kFnP qeY qTZ))
def qOz (s0:LU) (out3:LI) (i4:Int) (k5:Int):Fr:=frOf [(0,da s0),(3,(.dat (.sl (.int .i64)) out3 (some (3,3)))),(4,dc i4),(5,dc k5)]
theorem qAT (K:KT) (n:Nat):(fun s0 out3 i4 k5=>evLP qeY n (sub qoJ [1,1,0,1,0,0,1,0,0,1,0,0]) K (qOz s0 out3 i4 k5))=qhA (qrq K) n:=by
 induction n
 kernel_rfl;rename_i n ih;show _=qer (qrq K) (qhA (qrq K) n) n;rw[← ih];kernel_rfl
theorem qAU (K:KT) (n:Nat):(fun s0 out3 i4=>evLP qeY n (sub qoJ [1,1,0,1,0,0]) K (qrp s0 out3 i4))=qkR (qma K) n:=by
 induction n
 kernel_rfl;rename_i n ih;funext s0 out3 i4;show _=qdb (qma K) (qkR (qma K) n) n s0 out3 i4;rw[← ih];unfold qdb;rw[(Eq.trans (by kernel_rfl) (qAT (qOx n K) n).symm:qhA (qmI (qma K) (fun s0 out3 i4=>evLP qeY n (sub qoJ [1,1,0,1,0,0]) K (qrp s0 out3 i4)) n) n=_)];kernel_rfl
theorem qUa (n:Nat) (s0:LU) (o0:Lab):evFnP qeY n qoJ qTZ [db s0 o0]=quA n s0:=by
 unfold quA;rw[(Eq.trans (by kernel_rfl) (qAU (qOy n) n).symm:qkR (qmJ n) n=_)];kernel_rfl
theorem qAV:gG 190 s_z190:=sQ (E:=qeY) (c:=qoJ) rfl fN Tryz.func190 fun avs r h=>by
 unfold s_z190 at h;split at h
 ·obtain⟨hp,rfl⟩:=yj h;exact eX (qJD _ hp) fun n=>qUa n _ _
 ·cases h
theorem qoK:gG 191 s_z191:=sZ [] 31 (some [2]) nC (fun x=>if x=0 then some [] else none) nP fN Tryz.func191 fun avs r h=>by
 unfold s_z191 at h;split at h <;> cases h
 exact eX (qJB _)
def qgx:EnvP:=eQ [(151,s_z151),(190,s_z190),(191,s_z191)] 32 (some [2]) (fun x=>if x=2 then some [3] else if x=6 then some [3,4,5] else none) (fun x=>if x=0 then some [3] else if x=1 then some [3] else if x=2 then some [4] else if x=3 then some [3,4,5] else none) nP
def qrr:Code:=cO Tryz.f138
def qOA:Array ResultVar:=Tryz.f138.results
def qmb (l3:LI):Fr:=frOf [(3,(.dat (.sl (.int .i64)) l3 (some (3,3))))]
noncomputable def qmc (K:KT):=fun l3=>K (.exit 0) (qmb l3)
noncomputable def qrs (K:KT):=fun out4=>K (.exit 2) (frOf [(4,(db out4 (some (4,5))))])
def qOB (n:Nat):KT:=qf 2 (qgx.cutb 2) (kSeq (evCP qgx (evLP qgx n) (sub qrr [1,1,1,1,1])) (kFnP qgx qOA))
def qmd (n:Nat):KT:=qf 0 (qgx.cutb 0) (kSeq (evCP qgx (evLP qgx n) (sub qrr [1,1,1])) (kFnP qgx qOA))
def qOC (l3:LI) (out4:LU) (i5:Int):Fr:=frOf [(3,(.dat (.sl (.int .i64)) l3 (some (3,3)))),(4,(db out4 (some (4,5)))),(5,dc i5)]
theorem qAW (K:KT) (n:Nat):(fun l3=>evLP qgx n (sub qrr [1,1,0,0,0]) K (qmb l3))=qkS (qmc K) n:=by
 induction n
 kernel_rfl;rename_i n ih;show _=qij (qmc K) (qkS (qmc K) n) n;rw[← ih];kernel_rfl
theorem qAX (K:KT) (n:Nat):(fun l3 out4 i5=>evLP qgx n (sub qrr [1,1,1,1,0,1,0,0]) K (qOC l3 out4 i5))=qkT (qrs K) n:=by
 induction n
 kernel_rfl;rename_i n ih;show _=qes (qrs K) (qkT (qrs K) n) n;rw[← ih];kernel_rfl
theorem qrt (n:Nat) (l3:LI):(qmd n) (.exit 0) (qmb l3)=qbC n l3:=by
 unfold qbC;rw[(Eq.trans (by kernel_rfl) (qAX (qOB n) n).symm:qkT (qmK n) n=_)];kernel_rfl
theorem qUb (n:Nat) (s0:LU) (o0:Lab):evFnP qgx n qrr qOA [db s0 o0]=quB n s0:=by
 unfold quB;rw[show qkS (qbC n) n=(fun l3=>evLP qgx n (sub qrr [1,1,0,0,0]) (qmd n) (qmb l3)) from by
  refine Eq.trans ?_ (qAW (qmd n) n).symm;rw[show (qmc (qmd n))=(qbC n) from by
   funext l3;exact qrt n l3]
  all_goals kernel_rfl]
 kernel_rfl
theorem qAY:gG 138 s_z138:=sQ (E:=qgx) (c:=qrr) rfl (fC qoI (fC qAV (fC qoK fN))) Tryz.func138 fun avs r h=>by
 unfold s_z138 at h;split at h
 ·obtain⟨hp,rfl⟩:=yj h;exact eX (qJE _ hp) fun n=>qUb n _ _
 ·cases h
def E_z74:EnvP:=eQ [(138,s_z138)] 14 (some [2]) (fun x=>if x=2 then some [3] else none) (fun x=>if x=0 then some [3] else if x=1 then some [3] else none) nP
def C_z74:Code:=cO Tryz.f74
def R_z74:Array ResultVar:=Tryz.f74.results
def qKL (out3:LU):Fr:=frOf [(3,(db out3 (some (3,5))))]
noncomputable def qAZ (K:KT):=fun out3=>K (.exit 0) (qKL out3)
def qUc (n:Nat):KT:=qf 0 (E_z74.cutb 0) (kSeq (evCP E_z74 (evLP E_z74 n) (sub C_z74 [1,1,1])) (kFnP E_z74 R_z74))
theorem qGX (K:KT) (n:Nat):(fun out3=>evLP E_z74 n (sub C_z74 [1,1,0,0,0]) K (qKL out3))=qwC (qAZ K) n:=by
 induction n
 kernel_rfl;rename_i n ih;show _=qmL (qAZ K) (qwC (qAZ K) n) n;rw[← ih];kernel_rfl
theorem qXi (n:Nat) (s0:LU) (o0:Lab):evFnP E_z74 n C_z74 R_z74 [db s0 o0]=qIc n s0:=by
 unfold qIc;rw[(Eq.trans (by kernel_rfl) (qGX (qUc n) n).symm:qwC (qmM n) n=_)];kernel_rfl
theorem qGY:gG 74 s_z74:=sQ (E:=E_z74) (c:=C_z74) rfl (fC qAY fN) Tryz.func74 fun avs r h=>by
 unfold s_z74 at h;split at h
 ·obtain⟨hp,rfl⟩:=yj h;exact eX (qQg _ hp) fun n=>qXi n _ _
 ·cases h
def E_z34:EnvP:=eQ [(74,s_z74)] 35 (some [2]) (fun x=>if x=4 then some [3,4,5] else none) (fun x=>if x=0 then some [4] else if x=1 then some [3,4,5] else none) nP
def C_z34:Code:=cO Tryz.f34
def R_z34:Array ResultVar:=Tryz.f34.results
noncomputable def qBa (K:KT):=fun out4=>K (.exit 0) (frOf [(4,(db out4 (some (4,5))))])
def qUd (n:Nat):KT:=qf 0 (E_z34.cutb 0) (kSeq (evCP E_z34 (evLP E_z34 n) (sub C_z34 [1,1,1,1])) (kFnP E_z34 R_z34))
def qUe (c3:LU) (out4:LU) (i5:Int):Fr:=frOf [(3,(db c3 (some (3,5)))),(4,(db out4 (some (4,5)))),(5,dc i5)]
theorem qGZ (K:KT) (n:Nat):(fun c3 out4 i5=>evLP E_z34 n (sub C_z34 [1,1,1,0,1,0,0]) K (qUe c3 out4 i5))=qpg (qBa K) n:=by
 induction n
 kernel_rfl;rename_i n ih;show _=qgV (qBa K) (qpg (qBa K) n) n;rw[← ih];kernel_rfl
theorem qXj (n:Nat) (s0:LU) (o0:Lab):evFnP E_z34 n C_z34 R_z34 [db s0 o0]=qId n s0:=by
 unfold qId;rw[(Eq.trans (by kernel_rfl) (qGZ (qUd n) n).symm:qpg (qrX n) n=_)];kernel_rfl
theorem qHa:gG 34 s_z34:=sQ (E:=E_z34) (c:=C_z34) rfl (fC qGY fN) Tryz.func34 fun avs r h=>by
 unfold s_z34 at h;split at h
 ·obtain⟨hp,rfl⟩:=yj h;exact eX (qOU _ hp) fun n=>qXj n _ _
 ·cases h
def E_z75:EnvP:=eQ [] 53 (some [2]) (fun x=>if x=3 then some [0,3,4] else none) (fun x=>if x=0 then some [3] else if x=1 then some [0,3,4] else none) nP
def C_z75:Code:=cO Tryz.f75
def R_z75:Array ResultVar:=Tryz.f75.results
noncomputable def qBb (K:KT):=fun n3=>K (.exit 0) (frOf [(3,dc n3)])
def qUf (n:Nat):KT:=qf 0 (E_z75.cutb 0) (kSeq (evCP E_z75 (evLP E_z75 n) (sub C_z75 [1,1,1])) (kFnP E_z75 R_z75))
def qUg (s0:LU) (n3:Int) (i4:Int):Fr:=frOf [(0,da s0),(3,dc n3),(4,dc i4)]
theorem qHb (K:KT) (n:Nat):(fun s0 n3 i4=>evLP E_z75 n (sub C_z75 [1,1,0,1,0,0]) K (qUg s0 n3 i4))=qkh (qBb K) n:=by
 induction n
 kernel_rfl;rename_i n ih;show _=qgW (qBb K) (qkh (qBb K) n) n;rw[← ih];kernel_rfl
theorem qXk (n:Nat) (s0:LU) (o0:Lab):evFnP E_z75 n C_z75 R_z75 [db s0 o0]=qPm n s0:=by
 unfold qPm;rw[(Eq.trans (by kernel_rfl) (qHb (qUf n) n).symm:qkh (qrY n) n=_)];kernel_rfl
theorem qHc:gG 75 s_z75:=sQ (E:=E_z75) (c:=C_z75) rfl fN Tryz.func75 fun avs r h=>by
 unfold s_z75 at h;split at h
 ·obtain⟨hp,rfl⟩:=yj h;exact eX (qOO _ hp) fun n=>qXk n _ _
 ·cases h
def qru:EnvP:=eQ [] 69 (some [2,3]) (fun x=>if x=3 then some [0,4,5] else none) (fun x=>if x=0 then some [4] else if x=1 then some [0,4,5] else none) (fun x=>if x=2 then some (.psl 24 (.osl 5 .byte)) else if x=8 then some (.psl 24 (.osl 5 .byte)) else if x=39 then some (.psl 24 (.osl 5 .byte)) else if x=40 then some (.psl 24 (.osl 5 .byte)) else if x=54 then some (.osl 5 .byte) else none)
def qHd:Code:=cO Tryz.f102
def qUh:Array ResultVar:=Tryz.f102.results
noncomputable def qrv (K:KT):=fun out4=>K (.exit 0) (frOf [(4,(.pv (.psl 24 (.osl 5 .byte)) out4 none))])
def qOD (n:Nat):KT:=qf 0 (qru.cutb 0) (kSeq (evCP qru (evLP qru n) (sub qHd [1,1,1])) (kFnP qru qUh))
def qOE (s0:LU) (out4:List LU) (i5:Int):Fr:=frOf [(0,da s0),(4,(.pv (.psl 24 (.osl 5 .byte)) out4 none)),(5,dc i5)]
theorem qBc (K:KT) (n:Nat):(fun s0 out4 i5=>evLP qru n (sub qHd [1,1,0,1,0,0]) K (qOE s0 out4 i5))=qhB (qrv K) n:=by
 induction n
 kernel_rfl;rename_i n ih;show _=qik (qrv K) (qhB (qrv K) n) n;rw[← ih];kernel_rfl
theorem qUi (n:Nat) (s0:LU) (o0:Lab):evFnP qru n qHd qUh [db s0 o0]=quC n s0:=by
 unfold quC;rw[(Eq.trans (by kernel_rfl) (qBc (qOD n) n).symm:qhB (qil n) n=_)];kernel_rfl
theorem qBd:gG 102 s_z102:=sQ (E:=qru) (c:=qHd) rfl fN Tryz.func102 fun avs r h=>by
 unfold s_z102 at h;split at h
 ·obtain⟨hp,rfl⟩:=yj h;exact eX (qJR _ hp) fun n=>qUi n _ _
 ·cases h
theorem qHe:gG 76 s_z76:=sY [(102,s_z102)] 11 (some [2]) (fC qBd fN) Tryz.func76 fun avs r h=>by
 unfold s_z76 at h;split at h
 ·obtain⟨hp,rfl⟩:=yj h;exact eX (qQu _ hp)
 ·cases h
def E_z35:EnvP:=eQ [(75,s_z75),(76,s_z76)] 47 (some [4]) (fun x=>if x=3 then some [0,1,5,6] else if x=14 then some [1,7,8] else none) (fun x=>if x=0 then some [0,1,5] else if x=1 then some [0,1,5,6] else if x=2 then some [] else if x=3 then some [1,7,8] else none) nP
def C_z35:Code:=cO Tryz.f35
def R_z35:Array ResultVar:=Tryz.f35.results
noncomputable def qtF (K:KT):=fun s0 most1 high5=>K (.exit 0) (frOf [(0,da s0),(1,dc most1),(5,dg high5)])
noncomputable def qkx (K:KT):=fun s4=>K .ret (frOf [(4,dc s4)])
def qUj (n:Nat):KT:=qf 2 (E_z35.cutb 2) (kSeq (evCP E_z35 (evLP E_z35 n) (sub C_z35 [1,1,1,1,1,1,1])) (kFnP E_z35 R_z35))
def qtG (n:Nat):KT:=qf 0 (E_z35.cutb 0) (kSeq (evCP E_z35 (evLP E_z35 n) (sub C_z35 [1,1,1])) (kFnP E_z35 R_z35))
def qKM (s0:LU) (most1:Int) (high5:Bool) (i6:Int):Fr:=frOf [(0,da s0),(1,dc most1),(5,dg high5),(6,dc i6)]
def qUk (most1:Int) (l7:List LU) (i8:Int):Fr:=frOf [(1,dc most1),(7,(.dat (.sl (.sl .byte)) l7 none)),(8,dc i8)]
theorem qHf (K:KT) (n:Nat):(fun s0 most1 high5 i6=>evLP E_z35 n (sub C_z35 [1,1,0,1,0,0]) K (qKM s0 most1 high5 i6))=qph (qkx K) (qtF K) n:=by
 induction n
 kernel_rfl;rename_i n ih;show _=qgX (qkx K) (qtF K) (qph (qkx K) (qtF K) n) n;rw[← ih];kernel_rfl
theorem qBe (K:KT) (n:Nat):(fun most1 l7 i8=>evLP E_z35 n (sub C_z35 [1,1,1,1,1,1,0,1,0,0]) K (qUk most1 l7 i8))=qhC (qkx K) (K (.exit 2) (frOf [])) n:=by
 induction n
 kernel_rfl;rename_i n ih;show _=qet (qkx K) (K (.exit 2) (frOf [])) (qhC (qkx K) (K (.exit 2) (frOf [])) n) n;rw[← ih];kernel_rfl
theorem qvW (n:Nat) (s0:LU) (most1:Int) (high5:Bool):(qtG n) (.exit 0) (frOf [(0,da s0),(1,dc most1),(5,dg high5)])=qfd n s0 most1 high5:=by
 unfold qfd;rw[(Eq.trans (by kernel_rfl) (qBe (qUj n) n).symm:qhC qKR (qmN n) n=_)];kernel_rfl
theorem qXl (n:Nat) (s0:LU) (o0:Lab) (most1:Int) (o1:Lab):evFnP E_z35 n C_z35 R_z35 [db s0 o0,de most1 o1]=qPn n s0 most1:=by
 unfold qPn;rw[show qph qKR (qfd n) n=(fun s0 most1 high5 i6=>evLP E_z35 n (sub C_z35 [1,1,0,1,0,0]) (qtG n) (qKM s0 most1 high5 i6)) from by
  refine Eq.trans ?_ (qHf (qtG n) n).symm;rw[show (qtF (qtG n))=(qfd n) from by
   funext s0 most1 high5;exact qvW n s0 most1 high5]
  all_goals kernel_rfl]
 kernel_rfl
theorem qHg:gG 35 s_z35:=sQ (E:=E_z35) (c:=C_z35) rfl (fC qHc (fC qHe fN)) Tryz.func35 fun avs r h=>by
 unfold s_z35 at h;split at h
 ·obtain⟨hp,rfl⟩:=yj h;exact eX (qOR _ _ hp) fun n=>qXl n _ _ _ _
 ·cases h
theorem qHh:gG 14 s_z14:=sZ [(32,s_z32),(33,s_z33),(34,s_z34),(35,s_z35)] 41 (some [1000006,7]) nC (fun x=>if x=0 then some [8] else none) nP (fC qGP (fC qGV (fC qHa (fC qHg fN)))) Tryz.func14 fun avs r h=>by
 unfold s_z14 at h;split at h
 ·obtain⟨hp,rfl⟩:=yj h;exact eX (qPb _ _ _ hp)
 ·cases h
def qrw:EnvP:=eQ [(189,s_z189)] 25 (some [2,3]) (fun x=>if x=2 then some [0,4] else none) (fun x=>if x=0 then some [] else if x=1 then some [0,4] else none) nP
def qHi:Code:=cO Tryz.f202
def qUl:Array ResultVar:=Tryz.f202.results
noncomputable def qrx (K:KT):=fun s2 s3=>K .ret (frOf [(2,dc s2),(3,dg s3)])
def qOF (n:Nat):KT:=qf 0 (qrw.cutb 0) (kSeq (evCP qrw (evLP qrw n) (sub qHi [1,1])) (kFnP qrw qUl))
def qOG (c0:UInt8) (n4:Int):Fr:=frOf [(0,dn c0),(4,dc n4)]
theorem qBf (K:KT) (n:Nat):(fun c0 n4=>evLP qrw n (sub qHi [1,0,1,0,0]) K (qOG c0 n4))=qhE (qrx K) (K (.exit 0) (frOf [])) n:=by
 induction n
 kernel_rfl;rename_i n ih;show _=qeu (qrx K) (K (.exit 0) (frOf [])) (qhE (qrx K) (K (.exit 0) (frOf [])) n) n;rw[← ih];kernel_rfl
theorem qUm (n:Nat) (c0:UInt8) (o0:Lab):evFnP qrw n qHi qUl [dp c0 o0]=qCF n c0:=by
 unfold qCF;rw[(Eq.trans (by kernel_rfl) (qBf (qOF n) n).symm:qhE qjk (qmO n) n=_)];kernel_rfl
theorem qBg:gG 202 s_z202:=sQ (E:=qrw) (c:=qHi) rfl (fC qoH fN) Tryz.func202 fun avs r h=>by
 unfold s_z202 at h;split at h <;> cases h
 exact eX (qJz _) fun n=>qUm n _ _
theorem qBh:gG 149 s_z149:=sY [(202,s_z202)] 58 (some [6,7]) (fC qBg fN) Tryz.func149 fun avs r h=>by
 unfold s_z149 at h;split at h
 ·obtain⟨hp,rfl⟩:=yj h;exact eX (qJA _ _ _ hp)
 ·cases h
def E_z85:EnvP:=eQ [(136,s_z136),(149,s_z149)] 82 (some [2,3,4]) (fun x=>if x=1 then some [0] else if x=9 then some [0,5,6,7,8] else none) (fun x=>if x=0 then some [0] else if x=1 then some [0] else if x=2 then some [5,6,7] else if x=3 then some [0,5,6,7,8] else none) nP
def C_z85:Code:=cO Tryz.f85
def R_z85:Array ResultVar:=Tryz.f85.results
def qtH (l0:LU):Fr:=frOf [(0,da l0)]
noncomputable def qtI (K:KT):=fun l0=>K (.exit 0) (qtH l0)
noncomputable def qBi (K:KT):=fun soft5 out6 strange7=>K (.exit 2) (frOf [(5,dg soft5),(6,(db out6 (some (6,5)))),(7,dc strange7)])
def qUn (n:Nat):KT:=qf 2 (E_z85.cutb 2) (kSeq (evCP E_z85 (evLP E_z85 n) (sub C_z85 [1,1,1,1,1,1,1])) (kFnP E_z85 R_z85))
def qtJ (n:Nat):KT:=qf 0 (E_z85.cutb 0) (kSeq (evCP E_z85 (evLP E_z85 n) (sub C_z85 [1,1])) (kFnP E_z85 R_z85))
def qUo (l0:LU) (soft5:Bool) (out6:LU) (strange7:Int) (i8:Int):Fr:=frOf [(0,da l0),(5,dg soft5),(6,(db out6 (some (6,5)))),(7,dc strange7),(8,dc i8)]
theorem qHj (K:KT) (n:Nat):(fun l0=>evLP E_z85 n (sub C_z85 [1,0,0,0]) K (qtH l0))=qsa (qtI K) n:=by
 induction n
 kernel_rfl;rename_i n ih;show _=qmP (qtI K) (qsa (qtI K) n) n;rw[← ih];kernel_rfl
theorem qHk (K:KT) (n:Nat):(fun l0 soft5 out6 strange7 i8=>evLP E_z85 n (sub C_z85 [1,1,1,1,1,1,0,1,0,0]) K (qUo l0 soft5 out6 strange7 i8))=qmQ (qBi K) n:=by
 induction n
 kernel_rfl;rename_i n ih;show _=qgY (qBi K) (qmQ (qBi K) n) n;rw[← ih];kernel_rfl
theorem qvX (n:Nat) (l0:LU):(qtJ n) (.exit 0) (qtH l0)=qha n l0:=by
 unfold qha qcL qaI;rw[(Eq.trans (by kernel_rfl) (qHk (qUn n) n).symm:qmQ (qgZ n) n=_)];kernel_rfl
theorem qXm (n:Nat) (l0:LU) (o0:Lab):evFnP E_z85 n C_z85 R_z85 [db l0 o0]=qIe n l0:=by
 unfold qIe;rw[show qsa (qha n) n=(fun l0=>evLP E_z85 n (sub C_z85 [1,0,0,0]) (qtJ n) (qtH l0)) from by
  refine Eq.trans ?_ (qHj (qtJ n) n).symm;rw[show (qtI (qtJ n))=(qha n) from by
   funext l0;exact qvX n l0]
  all_goals kernel_rfl]
 kernel_rfl
theorem qHl:gG 85 s_z85:=sQ (E:=E_z85) (c:=C_z85) rfl (fC qoG (fC qBh fN)) Tryz.func85 fun avs r h=>by
 unfold s_z85 at h;split at h
 ·obtain⟨hp,rfl⟩:=yj h;exact eX (qQE _ hp) fun n=>qXm n _ _
 ·cases h
def E_z40:EnvP:=eQ [(85,s_z85)] 97 (some [2,3]) (fun x=>if x=4 then some [0,4,5,6,7] else none) (fun x=>if x=0 then some [4,6] else if x=1 then some [0,4,5,6,7] else none) nP
def C_z40:Code:=cO Tryz.f40
def R_z40:Array ResultVar:=Tryz.f40.results
noncomputable def qBj (K:KT):=fun out4 strange6=>K (.exit 0) (frOf [(4,(db out4 (some (4,5)))),(6,dc strange6)])
def qUp (n:Nat):KT:=qf 0 (E_z40.cutb 0) (kSeq (evCP E_z40 (evLP E_z40 n) (sub C_z40 [1,1,1,1])) (kFnP E_z40 R_z40))
def qUq (s0:LU) (out4:LU) (line5:LU) (strange6:Int) (i7:Int):Fr:=frOf [(0,da s0),(4,(db out4 (some (4,5)))),(5,(db line5 (some (5,5)))),(6,dc strange6),(7,dc i7)]
theorem qHm (K:KT) (n:Nat):(fun s0 out4 line5 strange6 i7=>evLP E_z40 n (sub C_z40 [1,1,1,0,1,0,0]) K (qUq s0 out4 line5 strange6 i7))=qki (qBj K) n:=by
 induction n
 kernel_rfl;rename_i n ih;show _=qmR (qBj K) (qki (qBj K) n) n;rw[← ih];kernel_rfl
theorem qXn (n:Nat) (s0:LU) (o0:Lab):evFnP E_z40 n C_z40 R_z40 [db s0 o0]=qIf n s0:=by
 unfold qIf;rw[(Eq.trans (by kernel_rfl) (qHm (qUp n) n).symm:qki (qsb n) n=_)];kernel_rfl
theorem qHn:gG 40 s_z40:=sQ (E:=E_z40) (c:=C_z40) rfl (fC qHl fN) Tryz.func40 fun avs r h=>by
 unfold s_z40 at h;split at h
 ·obtain⟨hp,rfl⟩:=yj h;exact eX (qQH _ hp) fun n=>qXn n _ _
 ·cases h
def qry:EnvP:=eQ [(191,s_z191)] 14 (some [2,3]) (fun x=>if x=2 then some [0,4] else none) (fun x=>if x=0 then some [] else if x=1 then some [0,4] else none) nP
def qHo:Code:=cO Tryz.f150
def qUr:Array ResultVar:=Tryz.f150.results
noncomputable def qrz (K:KT):=fun s2 s3=>K .ret (frOf [(2,dc s2),(3,dg s3)])
def qOH (n:Nat):KT:=qf 0 (qry.cutb 0) (kSeq (evCP qry (evLP qry n) (sub qHo [1,1])) (kFnP qry qUr))
def qOI (c0:UInt8) (n4:Int):Fr:=frOf [(0,dn c0),(4,dc n4)]
theorem qBk (K:KT) (n:Nat):(fun c0 n4=>evLP qry n (sub qHo [1,0,1,0,0]) K (qOI c0 n4))=qkU (qrz K) (K (.exit 0) (frOf [])) n:=by
 induction n
 kernel_rfl;rename_i n ih;show _=qex (qrz K) (K (.exit 0) (frOf [])) (qkU (qrz K) (K (.exit 0) (frOf [])) n) n;rw[← ih];kernel_rfl
theorem qUs (n:Nat) (c0:UInt8) (o0:Lab):evFnP qry n qHo qUr [dp c0 o0]=quD n c0:=by
 unfold quD;rw[(Eq.trans (by kernel_rfl) (qBk (qOH n) n).symm:qkU qjk (qmS n) n=_)];kernel_rfl
theorem qoL:gG 150 s_z150:=sQ (E:=qry) (c:=qHo) rfl (fC qoK fN) Tryz.func150 fun avs r h=>by
 unfold s_z150 at h;split at h <;> cases h
 exact eX (qJM _) fun n=>qUs n _ _
end
end
end Go.Av
