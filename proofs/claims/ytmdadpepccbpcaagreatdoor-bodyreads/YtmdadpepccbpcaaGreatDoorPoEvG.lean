import Derived.Test.YtmdadpepccbpcaaGreatDoorPoEvF
import Derived.Test.YtmdadpepccbpcaaGreatDoorPoD
import Derived.Test.YtmdadpepccbpcaaGreatDoorAvE
import Derived.Test.YtmdadpepccbpcaaGreatDoorProg
import Derived.KernelRfl
namespace Go.Av
set_option linter.unusedSimpArgs false
set_option linter.unusedVariables false
section
noncomputable section
open Go.Proofs
set_option maxRecDepth 100000
set_option linter.unusedVariables false
def E_z87:EnvP:=eQ [(150,s_z150)] 37 (some [2,3]) (fun x=>if x=3 then some [0,4,5] else if x=9 then some [0,4,5,6,8] else none) (fun x=>if x=0 then some [4] else if x=1 then some [0,4,5] else if x=2 then some [0,4,5] else if x=3 then some [0,4,5,6,8] else none) nP
def C_z87:Code:=cO Tryz.f87
def R_z87:Array ResultVar:=Tryz.f87.results
def qyQ (s0:LU) (out4:LI) (i5:Int):Fr:=frOf [(0,da s0),(4,(.dat (.sl (.int .i64)) out4 (some (4,3)))),(5,dc i5)]
noncomputable def qyR (K:KT):=fun s0 out4 i5=>K (.exit 2) (qyQ s0 out4 i5)
noncomputable def qsj (K:KT):=fun s2 s3=>K .ret (frOf [(2,(.dat (.sl (.int .i64)) s2 (some (2,3)))),(3,dg s3)])
noncomputable def qsk (K:KT):=fun out4=>K (.exit 0) (frOf [(4,(.dat (.sl (.int .i64)) out4 (some (4,3))))])
def qQk (n:Nat) (K:KT):KT:=qk 2 (E_z87.cutb 2) (qk 1 (E_z87.cutb 1) (kSeq (evCP E_z87 (evLP E_z87 n) (sub C_z87 [1,1,0,1,0,0,1,1])) (kSeq (fun K fr=>evLP E_z87 n (sub C_z87 [1,1,0,1,0,0]) K (cutFP (E_z87.cuts 3) fr)) K)))
def qQl (n:Nat):KT:=qk 0 (E_z87.cutb 0) (kSeq (evCP E_z87 (evLP E_z87 n) (sub C_z87 [1,1,1])) (kFnP E_z87 R_z87))
def qQm (s0:LU) (out4:LI) (i5:Int) (n6:Int) (k8:Int):Fr:=frOf [(0,da s0),(4,(.dat (.sl (.int .i64)) out4 (some (4,3)))),(5,dc i5),(6,dc n6),(8,dc k8)]
theorem qEg (K:KT) (n:Nat):(fun s0 out4 i5 n6 k8=>evLP E_z87 n (sub C_z87 [1,1,0,1,0,0,1,0,0,1,1,1,0,0]) K (qQm s0 out4 i5 n6 k8))=qlR (qyR K) n:=by
 induction n
 kernel_rfl;rename_i n ih;show _=qlQ (qyR K) (qlR (qyR K) n) n;rw[← ih];kernel_rfl
theorem qEh (K:KT) (n:Nat):(fun s0 out4 i5=>evLP E_z87 n (sub C_z87 [1,1,0,1,0,0]) K (qyQ s0 out4 i5))=qob (qsj K) (qsk K) n:=by
 induction n
 kernel_rfl;rename_i n ih;funext s0 out4 i5;show _=qeP (qsj K) (qsk K) (qob (qsj K) (qsk K) n) n s0 out4 i5;rw[← ih];unfold qeP;rw[(Eq.trans (by kernel_rfl) (qEg (qQk n K) n).symm:qlR (qAw (qsj K) (qsk K) (fun s0 out4 i5=>evLP E_z87 n (sub C_z87 [1,1,0,1,0,0]) K (qyQ s0 out4 i5)) n) n=_)];kernel_rfl
theorem qTm (n:Nat) (s0:LU) (o0:Lab):evFnP E_z87 n C_z87 R_z87 [db s0 o0]=qLH n s0:=by
 unfold qLH;rw[(Eq.trans (by kernel_rfl) (qEh (qQl n) n).symm:qob qdF (qjt n) n=_)];kernel_rfl
theorem qsl:gG 87 s_z87:=sQ (E:=E_z87) (c:=C_z87) rfl (fC qnI fN) Tryz.func87 fun avs r h=>by
 unfold s_z87 at h;split at h
 ·obtain⟨hp,rfl⟩:=yj h;exact eX (qMx _ hp) fun n=>qTm n _ _
 ·cases h
def qqe:EnvP:=eQ [] 19 (some [2]) (fun x=>if x=3 then some [0,3,4] else none) (fun x=>if x=0 then some [3] else if x=1 then some [0,3,4] else none) nP
def qEi:Code:=cO Tryz.f151
def qQn:Array ResultVar:=Tryz.f151.results
noncomputable def qqf (K:KT):=fun n3=>K (.exit 0) (frOf [(3,dc n3)])
def qKS (n:Nat):KT:=qk 0 (qqe.cutb 0) (kSeq (evCP qqe (evLP qqe n) (sub qEi [1,1,1])) (kFnP qqe qQn))
def qKT (l0:LI) (n3:Int) (i4:Int):Fr:=frOf [(0,(.dat (.sl (.int .i64)) l0 none)),(3,dc n3),(4,dc i4)]
theorem qyS (K:KT) (n:Nat):(fun l0 n3 i4=>evLP qqe n (sub qEi [1,1,0,1,0,0]) K (qKT l0 n3 i4))=qkx (qqf K) n:=by
 induction n
 kernel_rfl;rename_i n ih;show _=qee (qqf K) (qkx (qqf K) n) n;rw[← ih];kernel_rfl
theorem qQo (n:Nat) (l0:LI) (o0:Lab):evFnP qqe n qEi qQn [.dat (.sl (.int .i64)) l0 o0]=qtc n l0:=by
 unfold qtc;rw[(Eq.trans (by kernel_rfl) (qyS (qKS n) n).symm:qkx (qlS n) n=_)];kernel_rfl
theorem qyT:gG 151 s_z151:=sQ (E:=qqe) (c:=qEi) rfl fN Tryz.func151 fun avs r h=>by
 unfold s_z151 at h;split at h
 ·obtain⟨hp,rfl⟩:=yj h;exact eX (qGG _ hp) fun n=>qQo n _ _
 ·cases h
def E_z88:EnvP:=eQ [(151,s_z151)] 29 (some [2,3]) (fun x=>if x=3 then some [0,4,5] else none) (fun x=>if x=0 then some [0,4,5] else if x=1 then some [0,4,5] else none) nP
def C_z88:Code:=cO Tryz.f88
def R_z88:Array ResultVar:=Tryz.f88.results
def qHG (l0:LI) (out4:LU) (i5:Int):Fr:=frOf [(0,(.dat (.sl (.int .i64)) l0 none)),(4,(db out4 (some (4,5)))),(5,dc i5)]
noncomputable def qyU (K:KT):=fun l0 out4 i5=>K (.exit 0) (qHG l0 out4 i5)
def qQp (n:Nat):KT:=qk 0 (E_z88.cutb 0) (kSeq (evCP E_z88 (evLP E_z88 n) (sub C_z88 [1,1,1,1])) (kFnP E_z88 R_z88))
theorem qEj (K:KT) (n:Nat):(fun l0 out4 i5=>evLP E_z88 n (sub C_z88 [1,1,1,0,0,0]) K (qHG l0 out4 i5))=quU (qyU K) n:=by
 induction n
 kernel_rfl;rename_i n ih;show _=qgI (qyU K) (quU (qyU K) n) n;rw[← ih];kernel_rfl
theorem qTn (n:Nat) (l0:LI) (o0:Lab):evFnP E_z88 n C_z88 R_z88 [.dat (.sl (.int .i64)) l0 o0]=qLI n l0:=by
 unfold qLI;rw[(Eq.trans (by kernel_rfl) (qEj (qQp n) n).symm:quU (qlT n) n=_)];kernel_rfl
theorem qsm:gG 88 s_z88:=sQ (E:=E_z88) (c:=C_z88) rfl (fC qyT fN) Tryz.func88 fun avs r h=>by
 unfold s_z88 at h;split at h
 ·obtain⟨hp,rfl⟩:=yj h;exact eX (qMy _ hp) fun n=>qTn n _ _
 ·cases h
theorem qEk:gG 41 s_z41:=sY [(86,s_z86),(87,s_z87),(88,s_z88)] 29 (some [2,3]) (fC qEf (fC qsl (fC qsm fN))) Tryz.func41 fun avs r h=>by
 unfold s_z41 at h;split at h
 ·obtain⟨hp,rfl⟩:=yj h;exact eX (qMz _ hp)
 ·cases h
theorem qnJ:gG 204 s_z204:=sY [] 23 (some [2]) fN Tryz.func204 fun avs r h=>by
 unfold s_z204 at h;split at h <;> cases h
 exact eX (qGK _)
theorem qyV:gG 232 s_z232:=sY [] 12 (some [2,3]) fN Tryz.func232 fun avs r h=>by
 unfold s_z232 at h;split at h <;> cases h
 exact eX (qGL _)
def qqg:EnvP:=eQ [(204,s_z204),(232,s_z232)] 55 (some [2]) (fun x=>if x=4 then some [0,3] else none) (fun x=>if x=0 then some [3] else if x=1 then some [0,3] else none) nP
def qEl:Code:=cO Tryz.f203
def qQq:Array ResultVar:=Tryz.f203.results
noncomputable def qqh (K:KT):=fun n3=>K (.exit 0) (frOf [(3,dc n3)])
noncomputable def qqi (K:KT):=fun s2=>K .ret (frOf [(2,dc s2)])
def qKU (n:Nat):KT:=qk 0 (qqg.cutb 0) (kSeq (evCP qqg (evLP qqg n) (sub qEl [1,1,1,1])) (kFnP qqg qQq))
def qKV (s0:LU) (n3:Int):Fr:=frOf [(0,da s0),(3,dc n3)]
theorem qyW (K:KT) (n:Nat):(fun s0 n3=>evLP qqg n (sub qEl [1,1,1,0,0,0]) K (qKV s0 n3))=qju (qqi K) (qqh K) n:=by
 induction n
 kernel_rfl;rename_i n ih;show _=qef (qqi K) (qqh K) (qju (qqi K) (qqh K) n) n;rw[← ih];kernel_rfl
theorem qQr (n:Nat) (s0:LU) (o0:Lab):evFnP qqg n qEl qQq [db s0 o0]=qtd n s0:=by
 unfold qtd;rw[(Eq.trans (by kernel_rfl) (qyW (qKU n) n).symm:qju qHL (qhX n) n=_)];kernel_rfl
theorem qyX:gG 203 s_z203:=sQ (E:=qqg) (c:=qEl) rfl (fC qnJ (fC qyV fN)) Tryz.func203 fun avs r h=>by
 unfold s_z203 at h;split at h
 ·obtain⟨hp,rfl⟩:=yj h;exact eX (qGM _ hp) fun n=>qQr n _ _
 ·cases h
def qly:EnvP:=eQ [(203,s_z203),(204,s_z204)] 58 (some [2,3,4]) (fun x=>if x=8 then some [0,5,7,8] else none) (fun x=>if x=0 then some [5,7] else if x=1 then some [0,5,7,8] else none) nP
def qyY:Code:=cO Tryz.f152
def qQs:Array ResultVar:=Tryz.f152.results
noncomputable def qqj (K:KT):=fun n5 c7=>K (.exit 0) (frOf [(5,dc n5),(7,dc c7)])
def qKW (n:Nat):KT:=qk 0 (qly.cutb 0) (kSeq (evCP qly (evLP qly n) (sub qyY [1,1,1,0,1,0,1,1,1])) (kSeq (evCP qly (evLP qly n) (sub qyY [1,1,1,1])) (kFnP qly qQs)))
def qKX (s0:LU) (n5:Int) (c7:Int) (i8:Int):Fr:=frOf [(0,da s0),(5,dc n5),(7,dc c7),(8,dc i8)]
theorem qyZ (K:KT) (n:Nat):(fun s0 n5 c7 i8=>evLP qly n (sub qyY [1,1,1,0,1,0,1,1,0,1,0,0]) K (qKX s0 n5 c7 i8))=qky (qqj K) n:=by
 induction n
 kernel_rfl;rename_i n ih;show _=qeg (qqj K) (qky (qqj K) n) n;rw[← ih];kernel_rfl
theorem qQt (n:Nat) (s0:LU) (o0:Lab):evFnP qly n qyY qQs [db s0 o0]=qte n s0:=by
 unfold qte;rw[(Eq.trans (by kernel_rfl) (qyZ (qKW n) n).symm:qky (qlU n) n=_)];kernel_rfl
theorem qza:gG 152 s_z152:=sQ (E:=qly) (c:=qyY) rfl (fC qyX (fC qnJ fN)) Tryz.func152 fun avs r h=>by
 unfold s_z152 at h;split at h
 ·obtain⟨hp,rfl⟩:=yj h;exact eX (qGN _ hp) fun n=>qQt n _ _
 ·cases h
def E_z89:EnvP:=eQ [(152,s_z152)] 42 (some [2,3,4]) (fun x=>if x=4 then some [0,5,6,7,8] else none) (fun x=>if x=0 then some [5,6,7] else if x=1 then some [0,5,6,7,8] else none) nP
def C_z89:Code:=cO Tryz.f89
def R_z89:Array ResultVar:=Tryz.f89.results
noncomputable def qzb (K:KT):=fun out5 broken6 first7=>K (.exit 0) (frOf [(5,(.dat (.sl (.int .i32)) out5 (some (5,21)))),(6,dc broken6),(7,dc first7)])
def qQu (n:Nat):KT:=qk 0 (E_z89.cutb 0) (kSeq (evCP E_z89 (evLP E_z89 n) (sub C_z89 [1,1,1,1])) (kFnP E_z89 R_z89))
def qQv (s0:LU) (out5:LI) (broken6:Int) (first7:Int) (at8:Int):Fr:=frOf [(0,da s0),(5,(.dat (.sl (.int .i32)) out5 (some (5,21)))),(6,dc broken6),(7,dc first7),(8,dc at8)]
theorem qEm (K:KT) (n:Nat):(fun s0 out5 broken6 first7 at8=>evLP E_z89 n (sub C_z89 [1,1,1,0,1,0,0]) K (qQv s0 out5 broken6 first7 at8))=qqN (qzb K) n:=by
 induction n
 kernel_rfl;rename_i n ih;show _=qlV (qzb K) (qqN (qzb K) n) n;rw[← ih];kernel_rfl
theorem qTo (n:Nat) (s0:LU) (o0:Lab):evFnP E_z89 n C_z89 R_z89 [db s0 o0]=qLJ n s0:=by
 unfold qLJ;rw[(Eq.trans (by kernel_rfl) (qEm (qQu n) n).symm:qqN (qlW n) n=_)];kernel_rfl
theorem qEn:gG 89 s_z89:=sQ (E:=E_z89) (c:=C_z89) rfl (fC qza fN) Tryz.func89 fun avs r h=>by
 unfold s_z89 at h;split at h
 ·obtain⟨hp,rfl⟩:=yj h;exact eX (qMt _ hp) fun n=>qTo n _ _
 ·cases h
theorem qEo:gG 90 s_z90:=sZ [] 22 (some [2]) nC (fun x=>if x=0 then some [0] else none) nP fN Tryz.func90 fun avs r h=>by
 unfold s_z90 at h;split at h <;> cases h
 exact eX (qLU _)
theorem qEp:gG 91 s_z91:=sY [] 18 (some [2]) fN Tryz.func91 fun avs r h=>by
 unfold s_z91 at h;split at h <;> cases h
 exact eX (qLV _)
def E_z42:EnvP:=eQ [(89,s_z89),(90,s_z90),(91,s_z91)] 69 (some [1000004]) (fun x=>if x=6 then some [0,1,8,9] else none) (fun x=>if x=0 then some [8] else if x=1 then some [0,1,8,9] else if x=2 then some [0,1,8,9] else none) nP
def C_z42:Code:=cO Tryz.f42
def R_z42:Array ResultVar:=Tryz.f42.results
noncomputable def qzc (K:KT):=fun out8=>K (.exit 0) (frOf [(8,(.dat (.sl (.int .i32)) out8 (some (8,21))))])
def qQw (n:Nat):KT:=qk 0 (E_z42.cutb 0) (kSeq (evCP E_z42 (evLP E_z42 n) (sub C_z42 [1,1,1,1])) (kFnP E_z42 R_z42))
def qQx (charset0:Int) (s1:LU) (out8:LI) (i9:Int):Fr:=frOf [(0,dc charset0),(1,da s1),(8,(.dat (.sl (.int .i32)) out8 (some (8,21)))),(9,dc i9)]
theorem qEq (K:KT) (n:Nat):(fun charset0 s1 out8 i9=>evLP E_z42 n (sub C_z42 [1,1,1,0,1,0,0]) K (qQx charset0 s1 out8 i9))=quV (qzc K) n:=by
 induction n
 kernel_rfl;rename_i n ih;show _=qgK (qzc K) (quV (qzc K) n) n;rw[← ih];kernel_rfl
theorem qTp (n:Nat) (charset0:Int) (o0:Lab) (s1:LU) (o1:Lab):evFnP E_z42 n C_z42 R_z42 [de charset0 o0,db s1 o1]=qFy n charset0 s1:=by
 unfold qFy;rw[(Eq.trans (by kernel_rfl) (qEq (qQw n) n).symm:quV (qlY n) n=_)];kernel_rfl
theorem qEr:gG 42 s_z42:=sQ (E:=E_z42) (c:=C_z42) rfl (fC qEn (fC qEo (fC qEp fN))) Tryz.func42 fun avs r h=>by
 unfold s_z42 at h;split at h
 ·obtain⟨hp,rfl⟩:=yj h;exact eX (qMu _ _ hp) fun n=>qTp n _ _ _ _
 ·cases h
theorem qsn:gG 20 s_z20:=sZ [(40,s_z40),(41,s_z41),(42,s_z42)] 25 (some [6]) nC (fun x=>if x=0 then some [1,2] else none) nP (fC qEc (fC qEk (fC qEr fN))) Tryz.func20 fun avs r h=>by
 unfold s_z20 at h;split at h
 ·obtain⟨hp,rfl⟩:=yj h;exact eX (qLv _ _ _ hp)
 ·cases h
def E_z92:EnvP:=eQ [(153,s_z153),(154,s_z154)] 22 (some [2]) (fun x=>if x=3 then some [3,8,9,10] else none) (fun x=>if x=0 then some [3] else if x=1 then some [3,8,9,10] else none) (fun x=>if x=7 then some (.psl 5 (.leaf .byte)) else none)
def C_z92:Code:=cO Tryz.f92
def R_z92:Array ResultVar:=Tryz.f92.results
noncomputable def qzd (K:KT):=fun out3=>K (.exit 0) (frOf [(3,(.pv (.psl 5 (.leaf .byte)) out3 none))])
def qQy (n:Nat):KT:=qk 0 (E_z92.cutb 0) (kSeq (evCP E_z92 (evLP E_z92 n) (sub C_z92 [1,1,1])) (kFnP E_z92 R_z92))
def qQz (out3:LU) (s9:Int) (s10:Int):Fr:=frOf [(3,(.pv (.psl 5 (.leaf .byte)) out3 none)),(8,(.pval 3 [])),(9,dc s9),(10,dc s10)]
theorem qEs (K:KT) (n:Nat):(fun out3 s9 s10=>evLP E_z92 n (sub C_z92 [1,1,0,1,0,0]) K (qQz out3 s9 s10))=qoe (qzd K) n:=by
 induction n
 kernel_rfl;rename_i n ih;show _=qgL (qzd K) (qoe (qzd K) n) n;rw[← ih];kernel_rfl
theorem qTq (n:Nat) (s0:LU) (o0:Lab):evFnP E_z92 n C_z92 R_z92 [db s0 o0]=qFz n s0:=by
 unfold qFz;rw[(Eq.trans (by kernel_rfl) (qEs (qQy n) n).symm:qoe (qqO n) n=_)];kernel_rfl
theorem qso:gG 92 s_z92:=sQ (E:=E_z92) (c:=C_z92) rfl (fC qfA (fC qnu fN)) Tryz.func92 fun avs r h=>by
 unfold s_z92 at h;split at h
 ·obtain⟨hp,rfl⟩:=yj h;exact eX (qLX _ hp) fun n=>qTq n _ _
 ·cases h
def qqk:EnvP:=eQ [] 21 (some [1000004]) (fun x=>if x=1 then some [0,1] else none) (fun x=>if x=0 then some [0] else if x=1 then some [0,1] else none) nP
def qEt:Code:=cO Tryz.f205
def qQA:Array ResultVar:=Tryz.f205.results
noncomputable def qql (K:KT):=fun s0=>K (.exit 0) (frOf [(0,da s0)])
def qKY (n:Nat):KT:=qk 0 (qqk.cutb 0) (kSeq (evCP qqk (evLP qqk n) (sub qEt [1,1])) (kFnP qqk qQA))
def qKZ (s0:LU) (c1:UInt8):Fr:=frOf [(0,da s0),(1,dm c1)]
theorem qze (K:KT) (n:Nat):(fun s0 c1=>evLP qqk n (sub qEt [1,0,0,0]) K (qKZ s0 c1))=qof (qql K) n:=by
 induction n
 kernel_rfl;rename_i n ih;show _=qth (qql K) (qof (qql K) n) n;rw[← ih];kernel_rfl
theorem qQB (n:Nat) (s0:LU) (o0:Lab) (c1:UInt8) (o1:Lab):evFnP qqk n qEt qQA [db s0 o0,dn c1 o1]=qAz n s0 c1:=by
 unfold qAz;rw[(Eq.trans (by kernel_rfl) (qze (qKY n) n).symm:qof (qti n) n=_)];kernel_rfl
theorem qzf:gG 205 s_z205:=sQ (E:=qqk) (c:=qEt) rfl fN Tryz.func205 fun avs r h=>by
 unfold s_z205 at h;split at h
 ·obtain⟨hp,rfl⟩:=yj h;exact eX (qGb _ _ hp) fun n=>qQB n _ _ _ _
 ·cases h
def qqm:EnvP:=eQ [(168,s_z168)] 20 (some [1000004]) (fun x=>if x=1 then some [0,1] else none) (fun x=>if x=0 then some [0] else if x=1 then some [0,1] else none) nP
def qEu:Code:=cO Tryz.f207
def qQC:Array ResultVar:=Tryz.f207.results
noncomputable def qqn (K:KT):=fun s0=>K (.exit 0) (frOf [(0,da s0)])
def qLa (n:Nat):KT:=qk 0 (qqm.cutb 0) (kSeq (evCP qqm (evLP qqm n) (sub qEu [1,1])) (kFnP qqm qQC))
def qLb (s0:LU) (as1:List Bool):Fr:=frOf [(0,da s0),(1,(.adr (.arr 256 .bool) as1))]
theorem qzg (K:KT) (n:Nat):(fun s0 as1=>evLP qqm n (sub qEu [1,0,0,0]) K (qLb s0 as1))=qjv (qqn K) n:=by
 induction n
 kernel_rfl;rename_i n ih;show _=qhY (qqn K) (qjv (qqn K) n) n;rw[← ih];kernel_rfl
theorem qQD (n:Nat) (s0:LU) (o0:Lab) (as1:List Bool):evFnP qqm n qEu qQC [db s0 o0,.adr (.arr 256 .bool) as1]=qtj n s0 as1:=by
 unfold qtj;rw[(Eq.trans (by kernel_rfl) (qzg (qLa n) n).symm:qjv (qlZ n) n=_)];kernel_rfl
theorem qzh:gG 207 s_z207:=sQ (E:=qqm) (c:=qEu) rfl (fC qiP fN) Tryz.func207 fun avs r h=>by
 unfold s_z207 at h;split at h
 ·obtain⟨hp,rfl⟩:=yj h;exact eX (qGe _ _ hp) fun n=>qQD n _ _ _
 ·cases h
end
end
end Go.Av
