import Derived.Test.YtmageajchmoomaaGreatDoorCbEvD
import Derived.Test.YtmageajchmoomaaGreatDoorCbD
import Derived.Test.YtmageajchmoomaaGreatDoorAvE
import Derived.Test.YtmageajchmoomaaGreatDoorProg
import Derived.KernelRfl
namespace Go.Av
set_option linter.unusedSimpArgs false
set_option linter.unusedVariables false
section
noncomputable section
open Go.Proofs Go.Proofs.Tryz
set_option maxRecDepth 100000
set_option linter.unusedVariables false
def E_z10:EnvP:=eQ [] 26 (some [2]) (fun x=>if x=3 then some [2,3,12,13,14] else none) (fun x=>if x=0 then some [2,3] else if x=1 then some [2,3,12,13,14] else none) (fun x=>if x=3 then some (.ppair (.leaf (.sl .byte)) (.ppair (.leaf (.sl .byte)) (.ppair (.osl 51 (.pair (.sl .byte) (.pair (.sl (.int .i32)) .unit))) (.leaf .unit)))) else if x=10 then some (.ppair (.leaf (.sl .byte)) (.ppair (.leaf (.sl .byte)) (.ppair (.osl 51 (.pair (.sl .byte) (.pair (.sl (.int .i32)) .unit))) (.leaf .unit)))) else if x=22 then some (.osl 51 (.pair (.sl .byte) (.pair (.sl (.int .i32)) .unit))) else none)
def C_z10:Code:=cO f10
def R_z10:Array ResultVar:=f10.results
noncomputable def qxJ (K:KT):=fun s2 x3=>K (.exit 0) (frOf [(2,(.box (.pair (.sl .byte) (.pair (.sl .byte) (.pair (.sl (.pair (.sl .byte) (.pair (.sl (.int .i32)) .unit))) .unit))) s2)),(3,(.pbox (.ppair (.leaf (.sl .byte)) (.ppair (.leaf (.sl .byte)) (.ppair (.osl 51 (.pair (.sl .byte) (.pair (.sl (.int .i32)) .unit))) (.leaf .unit)))) x3 none))])
def qPm (n:Nat):KT:=qn 0 (E_z10.cutb 0) (kSeq (evCP E_z10 (evLP E_z10 n) (sub C_z10 [1,1,1])) (kFnP E_z10 R_z10))
def qPn (s2:LU×(LU×((List (LU×(LI×Unit)))×Unit))) (x3:LU×(LU×((List (LU×(LI×Unit)))×Unit))) (s12:List (LU×(LI×Unit))) (s13:Int) (s14:Int):Fr:=frOf [(2,(.box (.pair (.sl .byte) (.pair (.sl .byte) (.pair (.sl (.pair (.sl .byte) (.pair (.sl (.int .i32)) .unit))) .unit))) s2)),(3,(.pbox (.ppair (.leaf (.sl .byte)) (.ppair (.leaf (.sl .byte)) (.ppair (.osl 51 (.pair (.sl .byte) (.pair (.sl (.int .i32)) .unit))) (.leaf .unit)))) x3 none)),(12,(.dat (.sl (.pair (.sl .byte) (.pair (.sl (.int .i32)) .unit))) s12 none)),(13,dc s13),(14,dc s14)]
theorem qDj (K:KT) (n:Nat):(fun s2 x3 s12 s13 s14=>evLP E_z10 n (sub C_z10 [1,1,0,1,0,0]) K (qPn s2 x3 s12 s13 s14))=qnl (qxJ K) n:=by
 induction n
 kernel_rfl;rename_i n ih;show _=qgh (qxJ K) (qnl (qxJ K) n) n;rw[← ih];kernel_rfl
theorem qSF (n:Nat) (t0:LU×(LU×((List (LU×(LI×Unit)))×Unit))) (o0:Lab):evFnP E_z10 n C_z10 R_z10 [.dat (.pair (.sl .byte) (.pair (.sl .byte) (.pair (.sl (.pair (.sl .byte) (.pair (.sl (.int .i32)) .unit))) .unit))) t0 o0]=qKE n t0:=by
 unfold qKE;rw[(Eq.trans (by kernel_rfl) (qDj (qPm n) n).symm:qnl (qew n) n=_)];kernel_rfl
theorem qDk:gG 10 s_z10:=sQ (E:=E_z10) (c:=C_z10) rfl fN func10 fun avs r h=>by
 unfold s_z10 at h;split at h
 ·obtain⟨hp,rfl⟩:=yj h;exact eX (qMv _ hp) fun n=>qSF n _ _
 ·cases h
theorem qrv:gG 19 s_z19:=sY [(31,s_z31)] 10 (some [2]) (fC qhs fN) func19 fun avs r h=>by
 unfold s_z19 at h;split at h
 ·obtain⟨hp,rfl⟩:=yj h;exact eX (qLD _ hp)
 ·cases h
theorem qDl:gG 64 s_z64:=sY [(31,s_z31)] 15 (some [2]) (fC qhs fN) func64 fun avs r h=>by
 unfold s_z64 at h;split at h
 ·obtain⟨hp,rfl⟩:=yj h;exact eX (qLH _ hp)
 ·cases h
theorem qDm:gG 95 s_z95:=sY [] 9 (some [2]) fN func95 fun avs r h=>by
 unfold s_z95 at h;split at h <;> cases h
 exact eX (qLJ _)
theorem qxK:gG 155 s_z155:=sY [] 9 (some [2]) fN func155 fun avs r h=>by
 unfold s_z155 at h;split at h <;> cases h
 exact eX (qEX _)
theorem qiw:gG 129 s_z129:=sY [(155,s_z155)] 11 (some [2]) (fC qxK fN) func129 fun avs r h=>by
 unfold s_z129 at h;split at h <;> cases h
 exact eX (qEY _)
theorem qxL:gG 128 s_z128:=sY [(129,s_z129)] 6 (some [2]) (fC qiw fN) func128 fun avs r h=>by
 unfold s_z128 at h;split at h <;> cases h
 exact eX (qEZ _)
def qcF:EnvP:=eQ [(128,s_z128)] 19 (some [4]) (fun x=>if x=2 then some [0,1,7,8] else none) (fun x=>if x=0 then some [] else if x=1 then some [0,1,7,8] else none) nP
def qle:Code:=cO f127
def qrw:Array ResultVar:=f127.results
noncomputable def qfX (K:KT):=fun s4=>K .ret (frOf [(4,dc s4)])
def qtZ (n:Nat):KT:=qn 0 (qcF.cutb 0) (kSeq (evCP qcF (evLP qcF n) (sub qle [1,1])) (kFnP qcF qrw))
def qua (s0:LI) (s7:Int) (s8:Int):Fr:=frOf [(0,(.dat (.sl (.int .i32)) s0 none)),(1,(.fn 128 [])),(7,dc s7),(8,dc s8)]
theorem qmN (K:KT) (n:Nat):(fun s0 s7 s8=>evLP qcF n (sub qle [1,0,1,0,0]) K (qua s0 s7 s8))=qcq (qfX K) (K (.exit 0) (frOf [])) n:=by
 induction n
 kernel_rfl;rename_i n ih;show _=qbd (qfX K) (K (.exit 0) (frOf [])) (qcq (qfX K) (K (.exit 0) (frOf [])) n) n;rw[← ih];kernel_rfl
theorem qxM (n:Nat) (s0:LI) (o0:Lab):evFnP qcF n qle qrw [.dat (.sl (.int .i32)) s0 o0,.fn 128 []]=qfr n s0:=by
 unfold qfr;rw[(Eq.trans (by kernel_rfl) (qmN (qtZ n) n).symm:qcq qyD (qex n) n=_)];kernel_rfl
def qcG:EnvP:=eQ [(95,s_z95)] 19 (some [4]) (fun x=>if x=2 then some [0,1,7,8] else none) (fun x=>if x=0 then some [] else if x=1 then some [0,1,7,8] else none) nP
def qlf:Code:=cO f127
def qrx:Array ResultVar:=f127.results
noncomputable def qfY (K:KT):=fun s4=>K .ret (frOf [(4,dc s4)])
def qub (n:Nat):KT:=qn 0 (qcG.cutb 0) (kSeq (evCP qcG (evLP qcG n) (sub qlf [1,1])) (kFnP qcG qrx))
def quc (s0:LI) (s7:Int) (s8:Int):Fr:=frOf [(0,(.dat (.sl (.int .i32)) s0 none)),(1,(.fn 95 [])),(7,dc s7),(8,dc s8)]
theorem qmO (K:KT) (n:Nat):(fun s0 s7 s8=>evLP qcG n (sub qlf [1,0,1,0,0]) K (quc s0 s7 s8))=qcs (qfY K) (K (.exit 0) (frOf [])) n:=by
 induction n
 kernel_rfl;rename_i n ih;show _=qbe (qfY K) (K (.exit 0) (frOf [])) (qcs (qfY K) (K (.exit 0) (frOf [])) n) n;rw[← ih];kernel_rfl
theorem qxN (n:Nat) (s0:LI) (o0:Lab):evFnP qcG n qlf qrx [.dat (.sl (.int .i32)) s0 o0,.fn 95 []]=qfs n s0:=by
 unfold qfs;rw[(Eq.trans (by kernel_rfl) (qmO (qub n) n).symm:qcs qyD (qey n) n=_)];kernel_rfl
theorem qmP:gG 127 s_z127:=fun w S hg=>by
 have h0:qcZ G prog 127 s_z127_v0:=by
  refine sG (E:=qcF) (fun w S hg=>⟨⟨(qv (qxL w S hg) qJ),fun f sp h=>qI f sp h w S⟩,qW w S hg,(fun _ _ h=>by cases h),(fun _ _ h=>by cases h),(fun _ _ h=>by cases h),(fun t kt vt h=>qR t kt vt h)⟩) func127 ?_;intro avs r h;unfold s_z127_v0 at h;split at h
  ·simp only[yb] at h;obtain⟨hp,rfl⟩:=h;exact eX (qqg _ hp) fun n=>qxM n _ _
  ·cases h
 have h1:qcZ G prog 127 s_z127_v1:=by
  refine sG (E:=qcG) (fun w S hg=>⟨⟨(qv (qDm w S hg) qJ),fun f sp h=>qI f sp h w S⟩,qW w S hg,(fun _ _ h=>by cases h),(fun _ _ h=>by cases h),(fun _ _ h=>by cases h),(fun t kt vt h=>qR t kt vt h)⟩) func127 ?_;intro avs r h;unfold s_z127_v1 at h;split at h
  ·simp only[yb] at h;obtain⟨hp,rfl⟩:=h;exact eX (qqj _ hp) fun n=>qxN n _ _
  ·cases h
 intro vals avs r h hS ha;unfold s_z127 at h;split at h
 ·rename_i a0 o f;cases e:(f==128) with
  | true =>
   rw[e] at h;obtain rfl:=of_decide_eq_true e;exact h0 w S hg vals [.dat (.sl (.int .i32)) a0 o,.fn 128 []] r h hS ha
  | false =>
   rw[e] at h;cases e2:(f==95) with
   | true =>
    rw[e2] at h;obtain rfl:=of_decide_eq_true e2;exact h1 w S hg vals [.dat (.sl (.int .i32)) a0 o,.fn 95 []] r h hS ha
   | false=>rw[e2] at h;cases h
 ·cases h
theorem qDn:gG 92 s_z92:=sY [(127,s_z127)] 5 (some [2]) (fC qmP fN) func92 fun avs r h=>by
 unfold s_z92 at h;split at h
 ·obtain⟨hp,rfl⟩:=yj h;exact eX (qLl _ hp)
 ·cases h
theorem qry:gG 65 s_z65:=sY [(92,s_z92)] 6 (some [2]) (fC qDn fN) func65 fun avs r h=>by
 unfold s_z65 at h;split at h
 ·obtain⟨hp,rfl⟩:=yj h;exact eX (qLm _ hp)
 ·cases h
def E_z93:EnvP:=eQ [] 19 (some [4]) (fun x=>if x=2 then some [0,1,7,8] else none) (fun x=>if x=0 then some [] else if x=1 then some [0,1,7,8] else none) nP
def C_z93:Code:=cO f93
def R_z93:Array ResultVar:=f93.results
noncomputable def qxO (K:KT):=fun s4=>K .ret (frOf [(4,dc s4)])
def qPo (n:Nat):KT:=qn 0 (E_z93.cutb 0) (kSeq (evCP E_z93 (evLP E_z93 n) (sub C_z93 [1,1])) (kFnP E_z93 R_z93))
def qPp (s0:LI) (v1:Int) (s7:Int) (s8:Int):Fr:=frOf [(0,(.dat (.sl (.int .i32)) s0 none)),(1,(di v1 none)),(7,dc s7),(8,dc s8)]
theorem qDo (K:KT) (n:Nat):(fun s0 v1 s7 s8=>evLP E_z93 n (sub C_z93 [1,0,1,0,0]) K (qPp s0 v1 s7 s8))=qum (qxO K) (K (.exit 0) (frOf [])) n:=by
 induction n
 kernel_rfl;rename_i n ih;show _=qgi (qxO K) (K (.exit 0) (frOf [])) (qum (qxO K) (K (.exit 0) (frOf [])) n) n;rw[← ih];kernel_rfl
theorem qSG (n:Nat) (s0:LI) (o0:Lab) (v1:Int) (o1:Lab):evFnP E_z93 n C_z93 R_z93 [.dat (.sl (.int .i32)) s0 o0,di v1 o1]=qEc n s0 v1:=by
 unfold qEc;rw[(Eq.trans (by kernel_rfl) (qDo (qPo n) n).symm:qum qyD (qpU n) n=_)];kernel_rfl
theorem qrz:gG 93 s_z93:=sQ (E:=E_z93) (c:=C_z93) rfl fN func93 fun avs r h=>by
 unfold s_z93 at h;split at h
 ·obtain⟨hp,rfl⟩:=yj h;exact eX (qLj _ _ hp) fun n=>qSG n _ _ _ _
 ·cases h
theorem qDp:gG 66 s_z66:=sY [(93,s_z93)] 9 (some [4]) (fC qrz fN) func66 fun avs r h=>by
 unfold s_z66 at h;split at h
 ·obtain⟨hp,rfl⟩:=yj h;exact eX (qLI _ _ hp)
 ·cases h
theorem qDq:gG 47 s_z47:=sZ [(64,s_z64),(65,s_z65),(66,s_z66)] 16 (some [4]) nC (fun x=>if x=0 then some [] else none) nP (fC qDl (fC qry (fC qDp fN))) func47 fun avs r h=>by
 unfold s_z47 at h;split at h
 ·obtain⟨hp,rfl⟩:=yj h;exact eX (qLM _ _ hp)
 ·cases h
theorem qDr:gG 94 s_z94:=sY [(127,s_z127)] 9 (some [4]) (fC qmP fN) func94 fun avs r h=>by
 unfold s_z94 at h;split at h
 ·obtain⟨hp,rfl⟩:=yj h;exact eX (qLK _ hp)
 ·cases h
theorem qDs:gG 67 s_z67:=sY [(94,s_z94)] 6 (some [2]) (fC qDr fN) func67 fun avs r h=>by
 unfold s_z67 at h;split at h
 ·obtain⟨hp,rfl⟩:=yj h;exact eX (qLL _ hp)
 ·cases h
theorem qmQ:gG 130 s_z130:=sY [] 6 (some [2]) fN func130 fun avs r h=>by
 unfold s_z130 at h;split at h <;> cases h
 exact eX (qFi _)
def E_z96:EnvP:=eQ [(130,s_z130)] 17 (some [2]) (fun x=>if x=2 then some [0,5,6] else none) (fun x=>if x=0 then some [] else if x=1 then some [0,5,6] else none) nP
def C_z96:Code:=cO f96
def R_z96:Array ResultVar:=f96.results
noncomputable def qxP (K:KT):=fun s2=>K .ret (frOf [(2,dc s2)])
def qPq (n:Nat):KT:=qn 0 (E_z96.cutb 0) (kSeq (evCP E_z96 (evLP E_z96 n) (sub C_z96 [1,1])) (kFnP E_z96 R_z96))
def qPr (t0:LI) (s5:Int) (s6:Int):Fr:=frOf [(0,(.dat (.sl (.int .i32)) t0 none)),(5,dc s5),(6,dc s6)]
theorem qDt (K:KT) (n:Nat):(fun t0 s5 s6=>evLP E_z96 n (sub C_z96 [1,0,1,0,0]) K (qPr t0 s5 s6))=qun (qxP K) (K (.exit 0) (frOf [])) n:=by
 induction n
 kernel_rfl;rename_i n ih;show _=qgj (qxP K) (K (.exit 0) (frOf [])) (qun (qxP K) (K (.exit 0) (frOf [])) n) n;rw[← ih];kernel_rfl
theorem qSH (n:Nat) (t0:LI) (o0:Lab):evFnP E_z96 n C_z96 R_z96 [.dat (.sl (.int .i32)) t0 o0]=qEd n t0:=by
 unfold qEd;rw[(Eq.trans (by kernel_rfl) (qDt (qPq n) n).symm:qun qyD (qpV n) n=_)];kernel_rfl
theorem qDu:gG 96 s_z96:=sQ (E:=E_z96) (c:=C_z96) rfl (fC qmQ fN) func96 fun avs r h=>by
 unfold s_z96 at h;split at h
 ·obtain⟨hp,rfl⟩:=yj h;exact eX (qLk _ hp) fun n=>qSH n _ _
 ·cases h
def E_z68:EnvP:=eQ [(96,s_z96)] 27 (some [2,3]) (fun x=>if x=5 then some [4,13,14,15] else none) (fun x=>if x=0 then some [4] else if x=1 then some [4,13,14,15] else none) (fun x=>if x=12 then some (.psl 5 (.leaf .byte)) else none)
def C_z68:Code:=cO f68
def R_z68:Array ResultVar:=f68.results
noncomputable def qxQ (K:KT):=fun s4=>K (.exit 0) (frOf [(4,(.pv (.psl 5 (.leaf .byte)) s4 none))])
def qPs (n:Nat):KT:=qn 0 (E_z68.cutb 0) (kSeq (evCP E_z68 (evLP E_z68 n) (sub C_z68 [1,1,1,1])) (kFnP E_z68 R_z68))
def qPt (s4:LU) (s13:LI) (s14:Int) (s15:Int):Fr:=frOf [(4,(.pv (.psl 5 (.leaf .byte)) s4 none)),(13,(.dat (.sl (.int .i32)) s13 none)),(14,dc s14),(15,dc s15)]
theorem qDv (K:KT) (n:Nat):(fun s4 s13 s14 s15=>evLP E_z68 n (sub C_z68 [1,1,1,0,1,0,0]) K (qPt s4 s13 s14 s15))=qnp (qxQ K) n:=by
 induction n
 kernel_rfl;rename_i n ih;show _=qgk (qxQ K) (qnp (qxQ K) n) n;rw[← ih];kernel_rfl
theorem qSI (n:Nat) (t0:LI) (o0:Lab):evFnP E_z68 n C_z68 R_z68 [.dat (.sl (.int .i32)) t0 o0]=qEe n t0:=by
 unfold qEe;rw[(Eq.trans (by kernel_rfl) (qDv (qPs n) n).symm:qnp (qlr n) n=_)];kernel_rfl
theorem qrA:gG 68 s_z68:=sQ (E:=E_z68) (c:=C_z68) rfl (fC qDu fN) func68 fun avs r h=>by
 unfold s_z68 at h;split at h
 ·obtain⟨hp,rfl⟩:=yj h;exact eX (qLn _ hp) fun n=>qSI n _ _
 ·cases h
def E_z97:EnvP:=eQ [] 28 (some [2]) (fun x=>if x=3 then some [3,7,8,9] else none) (fun x=>if x=0 then some [3] else if x=1 then some [3,7,8,9] else if x=2 then some [3,7,8,9] else if x=3 then some [3,5,7,8,9] else if x=4 then some [3,5,7,8,9] else none) nP
def C_z97:Code:=cO f97
def R_z97:Array ResultVar:=f97.results
noncomputable def qxR (K:KT):=fun out3=>K (.exit 0) (frOf [(3,(db out3 (some (3,5))))])
def qPu (n:Nat):KT:=qn 0 (E_z97.cutb 0) (kSeq (evCP E_z97 (evLP E_z97 n) (sub C_z97 [1,1,1])) (kFnP E_z97 R_z97))
def qPv (out3:LU) (s7:LU) (s8:Int) (s9:Int):Fr:=frOf [(3,(db out3 (some (3,5)))),(7,da s7),(8,dc s8),(9,dc s9)]
theorem qDw (K:KT) (n:Nat):(fun out3 s7 s8 s9=>evLP E_z97 n (sub C_z97 [1,1,0,1,0,0]) K (qPv out3 s7 s8 s9))=qup (qxR K) n:=by
 induction n
 kernel_rfl;rename_i n ih;show _=qgl (qxR K) (qup (qxR K) n) n;rw[← ih];kernel_rfl
theorem qSJ (n:Nat) (s0:LU) (o0:Lab):evFnP E_z97 n C_z97 R_z97 [db s0 o0]=qEf n s0:=by
 unfold qEf;rw[(Eq.trans (by kernel_rfl) (qDw (qPu n) n).symm:qup (qiN n) n=_)];kernel_rfl
theorem qDx:gG 97 s_z97:=sQ (E:=E_z97) (c:=C_z97) rfl fN func97 fun avs r h=>by
 unfold s_z97 at h;split at h
 ·obtain⟨hp,rfl⟩:=yj h;exact eX (qLC _ hp) fun n=>qSJ n _ _
 ·cases h
theorem qDy:gG 69 s_z69:=sY [(19,s_z19),(20,s_z20),(97,s_z97)] 9 (some [2]) (fC qrv (fC qaO (fC qDx fN))) func69 fun avs r h=>by
 unfold s_z69 at h;split at h
 ·obtain⟨hp,rfl⟩:=yj h;exact eX (qLE _ hp)
 ·cases h
theorem qDz:gG 48 s_z48:=sY [(20,s_z20),(67,s_z67),(68,s_z68),(69,s_z69)] 28 (some [4,5]) (fC qaO (fC qDs (fC qrA (fC qDy fN)))) func48 fun avs r h=>by
 unfold s_z48 at h;split at h
 ·obtain⟨hp,rfl⟩:=yj h;exact eX (qLN _ _ hp)
 ·cases h
def qpm:EnvP:=eQ [(158,s_z158)] 31 (some [2,3]) (fun x=>if x=2 then some [0,6,7] else none) (fun x=>if x=0 then some [0] else if x=1 then some [0,6,7] else if x=2 then some [0,6,7] else none) nP
def qDA:Code:=cO f137
def qPw:Array ResultVar:=f137.results
noncomputable def qpn (K:KT):=fun s2 s3=>K .ret (frOf [(2,dm s2),(3,dg s3)])
noncomputable def qpo (K:KT):=fun c0=>K (.exit 0) (frOf [(0,(di c0 none))])
def qJZ (n:Nat):KT:=qn 0 (qpm.cutb 0) (kSeq (evCP qpm (evLP qpm n) (sub qDA [1,1])) (kFnP qpm qPw))
def qKa (c0:Int) (s6:List (UInt8×(Int×Unit))) (s7:Int):Fr:=frOf [(0,(di c0 none)),(6,(.dat (.arr 8 (.pair .byte (.pair (.int .i32) .unit))) s6 none)),(7,dc s7)]
theorem qxS (K:KT) (n:Nat):(fun c0 s6 s7=>evLP qpm n (sub qDA [1,0,1,0,0]) K (qKa c0 s6 s7))=qnq (qpn K) (qpo K) n:=by
 induction n
 kernel_rfl;rename_i n ih;show _=qsk (qpn K) (qpo K) (qnq (qpn K) (qpo K) n) n;rw[← ih];kernel_rfl
theorem qPx (n:Nat) (c0:Int) (o0:Lab):evFnP qpm n qDA qPw [di c0 o0]=qzp n c0:=by
 unfold qzp;rw[(Eq.trans (by kernel_rfl) (qxS (qJZ n) n).symm:qnq qll (qhF n) n=_)];kernel_rfl
theorem qmR:gG 137 s_z137:=sQ (E:=qpm) (c:=qDA) rfl (fC qmK fN) func137 fun avs r h=>by
 unfold s_z137 at h;split at h <;> cases h
 exact eX (qFe _) fun n=>qPx n _ _
end
end
end Go.Av
