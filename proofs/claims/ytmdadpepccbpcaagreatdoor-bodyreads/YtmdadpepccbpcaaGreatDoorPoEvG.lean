import Derived.Test.YtmdadpepccbpcaaGreatDoorPoEvF
import Derived.Test.YtmdadpepccbpcaaGreatDoorPoD
import Derived.Test.YtmdadpepccbpcaaGreatDoorAvE
import Derived.Test.YtmdadpepccbpcaaGreatDoorProg
import Derived.KernelRfl
namespace Go.Av
set_option linter.unusedSimpArgs false
set_option linter.unusedVariables false
section
noncomputable section
open Go.Proofs
set_option maxRecDepth 100000
set_option linter.unusedVariables false
def E_z87:EnvP:=eQ [(150,s_z150)] 37 (some [2,3]) (fun x=>if x=3 then some [0,4,5] else if x=9 then some [0,4,5,6,8] else none) (fun x=>if x=0 then some [4] else if x=1 then some [0,4,5] else if x=2 then some [0,4,5] else if x=3 then some [0,4,5,6,8] else none) nP
def C_z87:Code:=cO Tryz.f87
def R_z87:Array ResultVar:=Tryz.f87.results
def qyU (s0:LU) (out4:LI) (i5:Int):Fr:=frOf [(0,da s0),(4,(.dat (.sl (.int .i64)) out4 (some (4,3)))),(5,dc i5)]
noncomputable def qyV (K:KT):=fun s0 out4 i5=>K (.exit 2) (qyU s0 out4 i5)
noncomputable def qsn (K:KT):=fun s2 s3=>K .ret (frOf [(2,(.dat (.sl (.int .i64)) s2 (some (2,3)))),(3,dg s3)])
noncomputable def qso (K:KT):=fun out4=>K (.exit 0) (frOf [(4,(.dat (.sl (.int .i64)) out4 (some (4,3))))])
def qQo (n:Nat) (K:KT):KT:=qk 2 (E_z87.cutb 2) (qk 1 (E_z87.cutb 1) (kSeq (evCP E_z87 (evLP E_z87 n) (sub C_z87 [1,1,0,1,0,0,1,1])) (kSeq (fun K fr=>evLP E_z87 n (sub C_z87 [1,1,0,1,0,0]) K (cutFP (E_z87.cuts 3) fr)) K)))
def qQp (n:Nat):KT:=qk 0 (E_z87.cutb 0) (kSeq (evCP E_z87 (evLP E_z87 n) (sub C_z87 [1,1,1])) (kFnP E_z87 R_z87))
def qQq (s0:LU) (out4:LI) (i5:Int) (n6:Int) (k8:Int):Fr:=frOf [(0,da s0),(4,(.dat (.sl (.int .i64)) out4 (some (4,3)))),(5,dc i5),(6,dc n6),(8,dc k8)]
theorem qEk (K:KT) (n:Nat):(fun s0 out4 i5 n6 k8=>evLP E_z87 n (sub C_z87 [1,1,0,1,0,0,1,0,0,1,1,1,0,0]) K (qQq s0 out4 i5 n6 k8))=qlS (qyV K) n:=by
 induction n
 kernel_rfl;rename_i n ih;show _=qlR (qyV K) (qlS (qyV K) n) n;rw[← ih];kernel_rfl
theorem qEl (K:KT) (n:Nat):(fun s0 out4 i5=>evLP E_z87 n (sub C_z87 [1,1,0,1,0,0]) K (qyU s0 out4 i5))=qoc (qsn K) (qso K) n:=by
 induction n
 kernel_rfl;rename_i n ih;funext s0 out4 i5;show _=qeR (qsn K) (qso K) (qoc (qsn K) (qso K) n) n s0 out4 i5;rw[← ih];unfold qeR;rw[(Eq.trans (by kernel_rfl) (qEk (qQo n K) n).symm:qlS (qAA (qsn K) (qso K) (fun s0 out4 i5=>evLP E_z87 n (sub C_z87 [1,1,0,1,0,0]) K (qyU s0 out4 i5)) n) n=_)];kernel_rfl
theorem qTq (n:Nat) (s0:LU) (o0:Lab):evFnP E_z87 n C_z87 R_z87 [db s0 o0]=qLL n s0:=by
 unfold qLL;rw[(Eq.trans (by kernel_rfl) (qEl (qQp n) n).symm:qoc qdF (qju n) n=_)];kernel_rfl
theorem qsp:gG 87 s_z87:=sQ (E:=E_z87) (c:=C_z87) rfl (fC qnJ fN) Tryz.func87 fun avs r h=>by
 unfold s_z87 at h;split at h
 ·obtain⟨hp,rfl⟩:=yj h;exact eX (qMB _ hp) fun n=>qTq n _ _
 ·cases h
def qqh:EnvP:=eQ [] 19 (some [2]) (fun x=>if x=3 then some [0,3,4] else none) (fun x=>if x=0 then some [3] else if x=1 then some [0,3,4] else none) nP
def qEm:Code:=cO Tryz.f151
def qQr:Array ResultVar:=Tryz.f151.results
noncomputable def qqi (K:KT):=fun n3=>K (.exit 0) (frOf [(3,dc n3)])
def qKW (n:Nat):KT:=qk 0 (qqh.cutb 0) (kSeq (evCP qqh (evLP qqh n) (sub qEm [1,1,1])) (kFnP qqh qQr))
def qKX (l0:LI) (n3:Int) (i4:Int):Fr:=frOf [(0,(.dat (.sl (.int .i64)) l0 none)),(3,dc n3),(4,dc i4)]
theorem qyW (K:KT) (n:Nat):(fun l0 n3 i4=>evLP qqh n (sub qEm [1,1,0,1,0,0]) K (qKX l0 n3 i4))=qky (qqi K) n:=by
 induction n
 kernel_rfl;rename_i n ih;show _=qef (qqi K) (qky (qqi K) n) n;rw[← ih];kernel_rfl
theorem qQs (n:Nat) (l0:LI) (o0:Lab):evFnP qqh n qEm qQr [.dat (.sl (.int .i64)) l0 o0]=qtg n l0:=by
 unfold qtg;rw[(Eq.trans (by kernel_rfl) (qyW (qKW n) n).symm:qky (qlT n) n=_)];kernel_rfl
theorem qyX:gG 151 s_z151:=sQ (E:=qqh) (c:=qEm) rfl fN Tryz.func151 fun avs r h=>by
 unfold s_z151 at h;split at h
 ·obtain⟨hp,rfl⟩:=yj h;exact eX (qGK _ hp) fun n=>qQs n _ _
 ·cases h
def E_z88:EnvP:=eQ [(151,s_z151)] 29 (some [2,3]) (fun x=>if x=3 then some [0,4,5] else none) (fun x=>if x=0 then some [0,4,5] else if x=1 then some [0,4,5] else none) nP
def C_z88:Code:=cO Tryz.f88
def R_z88:Array ResultVar:=Tryz.f88.results
def qHK (l0:LI) (out4:LU) (i5:Int):Fr:=frOf [(0,(.dat (.sl (.int .i64)) l0 none)),(4,(db out4 (some (4,5)))),(5,dc i5)]
noncomputable def qyY (K:KT):=fun l0 out4 i5=>K (.exit 0) (qHK l0 out4 i5)
def qQt (n:Nat):KT:=qk 0 (E_z88.cutb 0) (kSeq (evCP E_z88 (evLP E_z88 n) (sub C_z88 [1,1,1,1])) (kFnP E_z88 R_z88))
theorem qEn (K:KT) (n:Nat):(fun l0 out4 i5=>evLP E_z88 n (sub C_z88 [1,1,1,0,0,0]) K (qHK l0 out4 i5))=quY (qyY K) n:=by
 induction n
 kernel_rfl;rename_i n ih;show _=qgI (qyY K) (quY (qyY K) n) n;rw[← ih];kernel_rfl
theorem qTr (n:Nat) (l0:LI) (o0:Lab):evFnP E_z88 n C_z88 R_z88 [.dat (.sl (.int .i64)) l0 o0]=qLM n l0:=by
 unfold qLM;rw[(Eq.trans (by kernel_rfl) (qEn (qQt n) n).symm:quY (qlU n) n=_)];kernel_rfl
theorem qsq:gG 88 s_z88:=sQ (E:=E_z88) (c:=C_z88) rfl (fC qyX fN) Tryz.func88 fun avs r h=>by
 unfold s_z88 at h;split at h
 ·obtain⟨hp,rfl⟩:=yj h;exact eX (qMC _ hp) fun n=>qTr n _ _
 ·cases h
theorem qEo:gG 41 s_z41:=sY [(86,s_z86),(87,s_z87),(88,s_z88)] 29 (some [2,3]) (fC qEj (fC qsp (fC qsq fN))) Tryz.func41 fun avs r h=>by
 unfold s_z41 at h;split at h
 ·obtain⟨hp,rfl⟩:=yj h;exact eX (qMD _ hp) fun n=>by kernel_rfl
 ·cases h
theorem qnK:gG 204 s_z204:=sY [] 23 (some [2]) fN Tryz.func204 fun avs r h=>by
 unfold s_z204 at h;split at h <;> cases h
 exact eX (qGO _) fun n=>by kernel_rfl
theorem qyZ:gG 232 s_z232:=sY [] 12 (some [2,3]) fN Tryz.func232 fun avs r h=>by
 unfold s_z232 at h;split at h <;> cases h
 exact eX (qGP _) fun n=>by kernel_rfl
def qqj:EnvP:=eQ [(204,s_z204),(232,s_z232)] 55 (some [2]) (fun x=>if x=4 then some [0,3] else none) (fun x=>if x=0 then some [3] else if x=1 then some [0,3] else none) nP
def qEp:Code:=cO Tryz.f203
def qQu:Array ResultVar:=Tryz.f203.results
noncomputable def qqk (K:KT):=fun n3=>K (.exit 0) (frOf [(3,dc n3)])
noncomputable def qql (K:KT):=fun s2=>K .ret (frOf [(2,dc s2)])
def qKY (n:Nat):KT:=qk 0 (qqj.cutb 0) (kSeq (evCP qqj (evLP qqj n) (sub qEp [1,1,1,1])) (kFnP qqj qQu))
def qKZ (s0:LU) (n3:Int):Fr:=frOf [(0,da s0),(3,dc n3)]
theorem qza (K:KT) (n:Nat):(fun s0 n3=>evLP qqj n (sub qEp [1,1,1,0,0,0]) K (qKZ s0 n3))=qjv (qql K) (qqk K) n:=by
 induction n
 kernel_rfl;rename_i n ih;show _=qeg (qql K) (qqk K) (qjv (qql K) (qqk K) n) n;rw[← ih];kernel_rfl
theorem qQv (n:Nat) (s0:LU) (o0:Lab):evFnP qqj n qEp qQu [db s0 o0]=qth n s0:=by
 unfold qth;rw[(Eq.trans (by kernel_rfl) (qza (qKY n) n).symm:qjv qHP (qhX n) n=_)];kernel_rfl
theorem qzb:gG 203 s_z203:=sQ (E:=qqj) (c:=qEp) rfl (fC qnK (fC qyZ fN)) Tryz.func203 fun avs r h=>by
 unfold s_z203 at h;split at h
 ·obtain⟨hp,rfl⟩:=yj h;exact eX (qGQ _ hp) fun n=>qQv n _ _
 ·cases h
def qlz:EnvP:=eQ [(203,s_z203),(204,s_z204)] 58 (some [2,3,4]) (fun x=>if x=8 then some [0,5,7,8] else none) (fun x=>if x=0 then some [5,7] else if x=1 then some [0,5,7,8] else none) nP
def qzc:Code:=cO Tryz.f152
def qQw:Array ResultVar:=Tryz.f152.results
noncomputable def qqm (K:KT):=fun n5 c7=>K (.exit 0) (frOf [(5,dc n5),(7,dc c7)])
def qLa (n:Nat):KT:=qk 0 (qlz.cutb 0) (kSeq (evCP qlz (evLP qlz n) (sub qzc [1,1,1,0,1,0,1,1,1])) (kSeq (evCP qlz (evLP qlz n) (sub qzc [1,1,1,1])) (kFnP qlz qQw)))
def qLb (s0:LU) (n5:Int) (c7:Int) (i8:Int):Fr:=frOf [(0,da s0),(5,dc n5),(7,dc c7),(8,dc i8)]
theorem qzd (K:KT) (n:Nat):(fun s0 n5 c7 i8=>evLP qlz n (sub qzc [1,1,1,0,1,0,1,1,0,1,0,0]) K (qLb s0 n5 c7 i8))=qkz (qqm K) n:=by
 induction n
 kernel_rfl;rename_i n ih;show _=qeh (qqm K) (qkz (qqm K) n) n;rw[← ih];kernel_rfl
theorem qQx (n:Nat) (s0:LU) (o0:Lab):evFnP qlz n qzc qQw [db s0 o0]=qti n s0:=by
 unfold qti;rw[(Eq.trans (by kernel_rfl) (qzd (qLa n) n).symm:qkz (qlV n) n=_)];kernel_rfl
theorem qze:gG 152 s_z152:=sQ (E:=qlz) (c:=qzc) rfl (fC qzb (fC qnK fN)) Tryz.func152 fun avs r h=>by
 unfold s_z152 at h;split at h
 ·obtain⟨hp,rfl⟩:=yj h;exact eX (qGR _ hp) fun n=>qQx n _ _
 ·cases h
def E_z89:EnvP:=eQ [(152,s_z152)] 42 (some [2,3,4]) (fun x=>if x=4 then some [0,5,6,7,8] else none) (fun x=>if x=0 then some [5,6,7] else if x=1 then some [0,5,6,7,8] else none) nP
def C_z89:Code:=cO Tryz.f89
def R_z89:Array ResultVar:=Tryz.f89.results
noncomputable def qzf (K:KT):=fun out5 broken6 first7=>K (.exit 0) (frOf [(5,(.dat (.sl (.int .i32)) out5 (some (5,21)))),(6,dc broken6),(7,dc first7)])
def qQy (n:Nat):KT:=qk 0 (E_z89.cutb 0) (kSeq (evCP E_z89 (evLP E_z89 n) (sub C_z89 [1,1,1,1])) (kFnP E_z89 R_z89))
def qQz (s0:LU) (out5:LI) (broken6:Int) (first7:Int) (at8:Int):Fr:=frOf [(0,da s0),(5,(.dat (.sl (.int .i32)) out5 (some (5,21)))),(6,dc broken6),(7,dc first7),(8,dc at8)]
theorem qEq (K:KT) (n:Nat):(fun s0 out5 broken6 first7 at8=>evLP E_z89 n (sub C_z89 [1,1,1,0,1,0,0]) K (qQz s0 out5 broken6 first7 at8))=qqQ (qzf K) n:=by
 induction n
 kernel_rfl;rename_i n ih;show _=qlW (qzf K) (qqQ (qzf K) n) n;rw[← ih];kernel_rfl
theorem qTs (n:Nat) (s0:LU) (o0:Lab):evFnP E_z89 n C_z89 R_z89 [db s0 o0]=qLN n s0:=by
 unfold qLN;rw[(Eq.trans (by kernel_rfl) (qEq (qQy n) n).symm:qqQ (qlX n) n=_)];kernel_rfl
theorem qEr:gG 89 s_z89:=sQ (E:=E_z89) (c:=C_z89) rfl (fC qze fN) Tryz.func89 fun avs r h=>by
 unfold s_z89 at h;split at h
 ·obtain⟨hp,rfl⟩:=yj h;exact eX (qMx _ hp) fun n=>qTs n _ _
 ·cases h
theorem qEs:gG 90 s_z90:=sZ [] 22 (some [2]) nC (fun x=>if x=0 then some [0] else none) nP fN Tryz.func90 fun avs r h=>by
 unfold s_z90 at h;split at h <;> cases h
 exact eX (qLY _) fun n=>by kernel_rfl
theorem qEt:gG 91 s_z91:=sY [] 18 (some [2]) fN Tryz.func91 fun avs r h=>by
 unfold s_z91 at h;split at h <;> cases h
 exact eX (qLZ _) fun n=>by kernel_rfl
def E_z42:EnvP:=eQ [(89,s_z89),(90,s_z90),(91,s_z91)] 69 (some [1000004]) (fun x=>if x=6 then some [0,1,8,9] else none) (fun x=>if x=0 then some [8] else if x=1 then some [0,1,8,9] else if x=2 then some [0,1,8,9] else none) nP
def C_z42:Code:=cO Tryz.f42
def R_z42:Array ResultVar:=Tryz.f42.results
noncomputable def qzg (K:KT):=fun out8=>K (.exit 0) (frOf [(8,(.dat (.sl (.int .i32)) out8 (some (8,21))))])
def qQA (n:Nat):KT:=qk 0 (E_z42.cutb 0) (kSeq (evCP E_z42 (evLP E_z42 n) (sub C_z42 [1,1,1,1])) (kFnP E_z42 R_z42))
def qQB (charset0:Int) (s1:LU) (out8:LI) (i9:Int):Fr:=frOf [(0,dc charset0),(1,da s1),(8,(.dat (.sl (.int .i32)) out8 (some (8,21)))),(9,dc i9)]
theorem qEu (K:KT) (n:Nat):(fun charset0 s1 out8 i9=>evLP E_z42 n (sub C_z42 [1,1,1,0,1,0,0]) K (qQB charset0 s1 out8 i9))=quZ (qzg K) n:=by
 induction n
 kernel_rfl;rename_i n ih;show _=qgK (qzg K) (quZ (qzg K) n) n;rw[← ih];kernel_rfl
theorem qTt (n:Nat) (charset0:Int) (o0:Lab) (s1:LU) (o1:Lab):evFnP E_z42 n C_z42 R_z42 [de charset0 o0,db s1 o1]=qFC n charset0 s1:=by
 unfold qFC;rw[(Eq.trans (by kernel_rfl) (qEu (qQA n) n).symm:quZ (qlZ n) n=_)];kernel_rfl
theorem qEv:gG 42 s_z42:=sQ (E:=E_z42) (c:=C_z42) rfl (fC qEr (fC qEs (fC qEt fN))) Tryz.func42 fun avs r h=>by
 unfold s_z42 at h;split at h
 ·obtain⟨hp,rfl⟩:=yj h;exact eX (qMy _ _ hp) fun n=>qTt n _ _ _ _
 ·cases h
theorem qsr:gG 20 s_z20:=sZ [(40,s_z40),(41,s_z41),(42,s_z42)] 25 (some [6]) nC (fun x=>if x=0 then some [1,2] else none) nP (fC qEg (fC qEo (fC qEv fN))) Tryz.func20 fun avs r h=>by
 unfold s_z20 at h;split at h
 ·obtain⟨hp,rfl⟩:=yj h;exact eX (qLz _ _ _ hp) fun n=>by kernel_rfl
 ·cases h
def E_z92:EnvP:=eQ [(153,s_z153),(154,s_z154)] 22 (some [2]) (fun x=>if x=3 then some [3,8,9,10] else none) (fun x=>if x=0 then some [3] else if x=1 then some [3,8,9,10] else none) (fun x=>if x=7 then some (.psl 5 (.leaf .byte)) else none)
def C_z92:Code:=cO Tryz.f92
def R_z92:Array ResultVar:=Tryz.f92.results
noncomputable def qzh (K:KT):=fun out3=>K (.exit 0) (frOf [(3,(.pv (.psl 5 (.leaf .byte)) out3 none))])
def qQC (n:Nat):KT:=qk 0 (E_z92.cutb 0) (kSeq (evCP E_z92 (evLP E_z92 n) (sub C_z92 [1,1,1])) (kFnP E_z92 R_z92))
def qQD (out3:LU) (s9:Int) (s10:Int):Fr:=frOf [(3,(.pv (.psl 5 (.leaf .byte)) out3 none)),(8,(.pval 3 [])),(9,dc s9),(10,dc s10)]
theorem qEw (K:KT) (n:Nat):(fun out3 s9 s10=>evLP E_z92 n (sub C_z92 [1,1,0,1,0,0]) K (qQD out3 s9 s10))=qof (qzh K) n:=by
 induction n
 kernel_rfl;rename_i n ih;show _=qgL (qzh K) (qof (qzh K) n) n;rw[← ih];kernel_rfl
theorem qTu (n:Nat) (s0:LU) (o0:Lab):evFnP E_z92 n C_z92 R_z92 [db s0 o0]=qFD n s0:=by
 unfold qFD;rw[(Eq.trans (by kernel_rfl) (qEw (qQC n) n).symm:qof (qqR n) n=_)];kernel_rfl
theorem qss:gG 92 s_z92:=sQ (E:=E_z92) (c:=C_z92) rfl (fC qfB (fC qnv fN)) Tryz.func92 fun avs r h=>by
 unfold s_z92 at h;split at h
 ·obtain⟨hp,rfl⟩:=yj h;exact eX (qMb _ hp) fun n=>qTu n _ _
 ·cases h
def qqn:EnvP:=eQ [] 21 (some [1000004]) (fun x=>if x=1 then some [0,1] else none) (fun x=>if x=0 then some [0] else if x=1 then some [0,1] else none) nP
def qEx:Code:=cO Tryz.f205
def qQE:Array ResultVar:=Tryz.f205.results
noncomputable def qqo (K:KT):=fun s0=>K (.exit 0) (frOf [(0,da s0)])
def qLc (n:Nat):KT:=qk 0 (qqn.cutb 0) (kSeq (evCP qqn (evLP qqn n) (sub qEx [1,1])) (kFnP qqn qQE))
def qLd (s0:LU) (c1:UInt8):Fr:=frOf [(0,da s0),(1,dm c1)]
theorem qzi (K:KT) (n:Nat):(fun s0 c1=>evLP qqn n (sub qEx [1,0,0,0]) K (qLd s0 c1))=qog (qqo K) n:=by
 induction n
 kernel_rfl;rename_i n ih;show _=qtl (qqo K) (qog (qqo K) n) n;rw[← ih];kernel_rfl
theorem qQF (n:Nat) (s0:LU) (o0:Lab) (c1:UInt8) (o1:Lab):evFnP qqn n qEx qQE [db s0 o0,dn c1 o1]=qAD n s0 c1:=by
 unfold qAD;rw[(Eq.trans (by kernel_rfl) (qzi (qLc n) n).symm:qog (qtm n) n=_)];kernel_rfl
theorem qzj:gG 205 s_z205:=sQ (E:=qqn) (c:=qEx) rfl fN Tryz.func205 fun avs r h=>by
 unfold s_z205 at h;split at h
 ·obtain⟨hp,rfl⟩:=yj h;exact eX (qGf _ _ hp) fun n=>qQF n _ _ _ _
 ·cases h
def qqp:EnvP:=eQ [(168,s_z168)] 20 (some [1000004]) (fun x=>if x=1 then some [0,1] else none) (fun x=>if x=0 then some [0] else if x=1 then some [0,1] else none) nP
def qEy:Code:=cO Tryz.f207
def qQG:Array ResultVar:=Tryz.f207.results
noncomputable def qqq (K:KT):=fun s0=>K (.exit 0) (frOf [(0,da s0)])
def qLe (n:Nat):KT:=qk 0 (qqp.cutb 0) (kSeq (evCP qqp (evLP qqp n) (sub qEy [1,1])) (kFnP qqp qQG))
def qLf (s0:LU) (as1:List Bool):Fr:=frOf [(0,da s0),(1,(.adr (.arr 256 .bool) as1))]
theorem qzk (K:KT) (n:Nat):(fun s0 as1=>evLP qqp n (sub qEy [1,0,0,0]) K (qLf s0 as1))=qjw (qqq K) n:=by
 induction n
 kernel_rfl;rename_i n ih;show _=qhY (qqq K) (qjw (qqq K) n) n;rw[← ih];kernel_rfl
theorem qQH (n:Nat) (s0:LU) (o0:Lab) (as1:List Bool):evFnP qqp n qEy qQG [db s0 o0,.adr (.arr 256 .bool) as1]=qtn n s0 as1:=by
 unfold qtn;rw[(Eq.trans (by kernel_rfl) (qzk (qLe n) n).symm:qjw (qma n) n=_)];kernel_rfl
theorem qzl:gG 207 s_z207:=sQ (E:=qqp) (c:=qEy) rfl (fC qiQ fN) Tryz.func207 fun avs r h=>by
 unfold s_z207 at h;split at h
 ·obtain⟨hp,rfl⟩:=yj h;exact eX (qGi _ _ hp) fun n=>qQH n _ _ _
 ·cases h
end
end
end Go.Av
