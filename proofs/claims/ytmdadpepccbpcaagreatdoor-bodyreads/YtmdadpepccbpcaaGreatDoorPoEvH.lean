import Derived.Test.YtmdadpepccbpcaaGreatDoorPoEvG
import Derived.Test.YtmdadpepccbpcaaGreatDoorPoD
import Derived.Test.YtmdadpepccbpcaaGreatDoorAvE
import Derived.Test.YtmdadpepccbpcaaGreatDoorProg
import Derived.KernelRfl
namespace Go.Av
set_option linter.unusedSimpArgs false
set_option linter.unusedVariables false
section
noncomputable section
open Go.Proofs Go.Proofs.Tryz
set_option maxRecDepth 100000
set_option linter.unusedVariables false
def qQE:EnvP:=⟨⟨tiOf tis,fnsOf [(167,s_z167),(205,s_z205),(206,s_z206),(207,s_z207),(208,s_z208),(209,s_z209),(210,s_z210)],cnsOf [],[],42,(fun _=>none),(fun _=>none),some [1000004]⟩,fun _=>none,fun _=>none,(fun x=>if x=500009 then [5] else []),fun _=>none,fun _=>none,fun _=>none,fun _=>none⟩
def qTr:Code:=cO f155
def qTs:Array ResultVar:=f155.results
theorem qQF (n:Nat) (s0:LU) (o0:Lab) (cutset1:LU) (o1:Lab):evFnP qQE n qTr qTs [db s0 o0,df cutset1 o1]=qAA n s0 cutset1:=by
 kernel_rfl
theorem qzi:gG 155 s_z155:=sG (E:=qQE) (fun w S hg=>⟨⟨(qc (qiO w S hg) (qc (qzf w S hg) (qc (qnq w S hg) (qc (qzh w S hg) (qc (qnr w S hg) (qc (qwZ w S hg) (qc (qnn w S hg) qr))))))),fun f sp h=>qq f sp h w S⟩,qt w S hg,(fun _ _ h=>by cases h),(fun f sp h=>qv f sp h),(fun f it h=>qw f it h),(fun t kt vt h=>qu t kt vt h)⟩) func155 fun avs r h=>by
 unfold s_z155 at h;split at h
 ·obtain⟨hp,rfl⟩:=yj h;exact eX (qGf _ _ hp) fun n=>qQF n _ _ _ _
 ·cases h
theorem qsp:gG 93 s_z93:=sY [(153,s_z153),(155,s_z155)] 6 (some [2]) (fC qfA (fC qzi fN)) func93 fun avs r h=>by
 unfold s_z93 at h;split at h
 ·obtain⟨hp,rfl⟩:=yj h;exact eX (qLY _ hp)
 ·cases h
theorem qEv:gG 94 s_z94:=sZ [] 10 (some [2]) nC (fun x=>if x=0 then some [] else none) nP fN func94 fun avs r h=>by
 unfold s_z94 at h;split at h <;> cases h
 exact eX (qLq _)
def E_z43:EnvP:=eQ [(92,s_z92),(93,s_z93),(94,s_z94)] 19 (some [2,3]) (fun x=>if x=3 then some [4,5] else none) (fun x=>if x=0 then some [] else if x=1 then some [4,5] else none) nP
def C_z43:Code:=cO f43
def R_z43:Array ResultVar:=f43.results
noncomputable def qzj (K:KT):=fun s2 s3=>K .ret (frOf [(2,dc s2),(3,dc s3)])
def qQG (n:Nat):KT:=qk 0 (E_z43.cutb 0) (kSeq (evCP E_z43 (evLP E_z43 n) (sub C_z43 [1,1,1])) (kFnP E_z43 R_z43))
def qQH (name4:LU) (n5:Int):Fr:=frOf [(4,(df name4 none)),(5,dc n5)]
theorem qEw (K:KT) (n:Nat):(fun name4 n5=>evLP E_z43 n (sub C_z43 [1,1,0,1,0,0]) K (qQH name4 n5))=quW (qzj K) (K (.exit 0) (frOf [])) n:=by
 induction n
 kernel_rfl;rename_i n ih;show _=qeQ (qzj K) (K (.exit 0) (frOf [])) (quW (qzj K) (K (.exit 0) (frOf [])) n) n;rw[← ih];kernel_rfl
theorem qTt (n:Nat) (s0:LU) (o0:Lab):evFnP E_z43 n C_z43 R_z43 [db s0 o0]=qFA n s0:=by
 unfold qFA;rw[(Eq.trans (by kernel_rfl) (qEw (qQG n) n).symm:quW qfO (qeR n) n=_)];kernel_rfl
theorem qEx:gG 43 s_z43:=sQ (E:=E_z43) (c:=C_z43) rfl (fC qso (fC qsp (fC qEv fN))) func43 fun avs r h=>by
 unfold s_z43 at h;split at h
 ·obtain⟨hp,rfl⟩:=yj h;exact eX (qLs _ hp) fun n=>qTt n _ _
 ·cases h
theorem qzk:gG 156 s_z156:=sZ [] 19 (some [2]) nC (fun x=>if x=0 then some [] else none) nP fN func156 fun avs r h=>by
 unfold s_z156 at h;split at h <;> cases h
 exact eX (qFW _)
def E_z95:EnvP:=⟨⟨tiOf tis,fnsOf [(156,s_z156)],cnsOf [],[],22,(fun x=>if x=3 then some [1,2] else if x=6 then some [1,2,11,12,13] else none),(fun x=>if x=0 then some [1] else if x=1 then some [1,2] else if x=2 then some [1,2] else if x=3 then some [1,2,11,12,13] else none),none⟩,fun _=>none,fun _=>none,fun _=>[],fun _=>none,fun _=>none,fun _=>none,(fun x=>if x=99 then some (9,3) else none)⟩
def C_z95:Code:=cO f95
def R_z95:Array ResultVar:=f95.results
def qzl (m1:List (LU×Int)) (n2:Int):Fr:=frOf [(1,(.abs (.sl (.pair .str (.int .i64))) (qoX .str (.int .i64)) m1)),(2,dc n2)]
noncomputable def qzm (K:KT):=fun m1 n2=>K (.exit 2) (qzl m1 n2)
noncomputable def qsq (K:KT):=fun m1=>K (.exit 0) (frOf [(1,(.abs (.sl (.pair .str (.int .i64))) (qoX .str (.int .i64)) m1))])
def qQI (n:Nat) (K:KT):KT:=qk 2 (E_z95.cutb 2) (qk 1 (E_z95.cutb 1) (kSeq (evCP E_z95 (evLP E_z95 n) (sub C_z95 [1,1,0,1,0,0,1,1])) (kSeq (fun K fr=>evLP E_z95 n (sub C_z95 [1,1,0,1,0,0]) K (cutFP (E_z95.cuts 3) fr)) K)))
def qQJ (n:Nat):KT:=qk 0 (E_z95.cutb 0) (kSeq (evCP E_z95 (evLP E_z95 n) (sub C_z95 [1,1,1])) (kFnR R_z95))
def qQK (m1:List (LU×Int)) (n2:Int) (s11:List LU) (s12:Int) (s13:Int):Fr:=frOf [(1,(.abs (.sl (.pair .str (.int .i64))) (qoX .str (.int .i64)) m1)),(2,dc n2),(11,(.dat (.sl .str) s11 (some (11,9)))),(12,dc s12),(13,dc s13)]
theorem qEy (K:KT) (n:Nat):(fun m1 n2 s11 s12 s13=>evLP E_z95 n (sub C_z95 [1,1,0,1,0,0,1,0,0,1,0,0]) K (qQK m1 n2 s11 s12 s13))=qAC (qzm K) n:=by
 induction n
 kernel_rfl;rename_i n ih;show _=qAB (qzm K) (qAC (qzm K) n) n;rw[← ih];kernel_rfl
theorem qEz (K:KT) (n:Nat):(fun m1 n2=>evLP E_z95 n (sub C_z95 [1,1,0,1,0,0]) K (qzl m1 n2))=qAE (qsq K) n:=by
 induction n
 kernel_rfl;rename_i n ih;funext m1 n2;show _=qqR (qsq K) (qAE (qsq K) n) n m1 n2;rw[← ih];unfold qqR;rw[(Eq.trans (by kernel_rfl) (qEy (qQI n K) n).symm:qAC (qAD (qsq K) (fun m1 n2=>evLP E_z95 n (sub C_z95 [1,1,0,1,0,0]) K (qzl m1 n2)) n) n=_)];kernel_rfl
theorem qTu (n:Nat)  : evFnR E_z95 n C_z95 R_z95 []=qLK n  := by
 unfold qLK;rw[(Eq.trans (by kernel_rfl) (qEz (qQJ n) n).symm:qAE (qAF n) n=_)];kernel_rfl
theorem qEA:qCb G prog 95 s_z95:=by
 refine qey G_stays (E:=E_z95) (fn:=f95) (c:=C_z95) (qb rfl qT) (fun w S hg=>⟨⟨(qc (qzk w S hg) qr),fun f sp h=>qq f sp h w S⟩,qt w S hg,(fun _ _ h=>by cases h),(fun f sp h=>qv f sp h),(fun f it h=>qw f it h),(fun t kt vt h=>(qvm (by kernel_rfl) qu) t kt vt h)⟩) follows func95 (by kernel_rfl) (by kernel_rfl) (by kernel_rfl) ?_;intro avs r h;unfold s_z95 at h;split at h <;> cases h
 obtain⟨n,hn⟩:=qMf;exact⟨n,(qTu n ).trans hn⟩
theorem qEB:gG 96 s_z96:=sY [(80,s_z80),(93,s_z93)] 13 (some [2]) (fC qsa (fC qsp fN)) func96 fun avs r h=>by
 unfold s_z96 at h;split at h
 ·obtain⟨hp,rfl⟩:=yj h;exact eX (qMg _ hp)
 ·cases h
def E_z44:EnvP:=⟨⟨tiOf tis,fnsOf [(92,s_z92),(96,s_z96)],cnsOf [],[],18,(fun _=>none),(fun _=>none),some [2,3]⟩,fun _=>none,fun _=>none,fun _=>[],fun _=>none,(fun x=>if x=95 then some s_z95 else none),fun _=>none,(fun x=>if x=99 then some (9,3) else none)⟩
def C_z44:Code:=cO f44
def R_z44:Array ResultVar:=f44.results
theorem qTv (n:Nat) (s0:LU) (o0:Lab):evFnP E_z44 n C_z44 R_z44 [db s0 o0]=qLL n s0:=by
 kernel_rfl
theorem qEC:gG 44 s_z44:=sG (E:=E_z44) (fun w S hg=>⟨⟨(qc (qso w S hg) (qc (qEB w S hg) qr)),fun f sp h=>qq f sp h w S⟩,qt w S hg,(fun _ _ h=>by cases h),(fun f sp h=>(qoK (qEA w S hg) qv) f sp h),(fun f it h=>qw f it h),(fun t kt vt h=>(qvm (by kernel_rfl) qu) t kt vt h)⟩) func44 fun avs r h=>by
 unfold s_z44 at h;split at h
 ·obtain⟨hp,rfl⟩:=yj h;exact eX (qMl _ hp) fun n=>qTv n _ _
 ·cases h
theorem qED:gG 21 s_z21:=sY [(12,s_z12),(43,s_z43),(44,s_z44)] 25 (some [6]) (fC qhQ (fC qEx (fC qEC fN))) func21 fun avs r h=>by
 unfold s_z21 at h;split at h
 ·obtain⟨hp,rfl⟩:=yj h;exact eX (qLw _ _ _ hp)
 ·cases h
theorem qzn:gG 157 s_z157:=sY [] 12 (some [2]) fN func157 fun avs r h=>by
 unfold s_z157 at h;split at h <;> cases h
 exact eX (qFY _)
def E_z97:EnvP:=eQ [(157,s_z157)] 20 (some [2]) (fun x=>if x=3 then some [0,3,4] else none) (fun x=>if x=0 then some [3] else if x=1 then some [0,3,4] else none) nP
def C_z97:Code:=cO f97
def R_z97:Array ResultVar:=f97.results
noncomputable def qzo (K:KT):=fun out3=>K (.exit 0) (frOf [(3,(db out3 (some (3,5))))])
def qQL (n:Nat):KT:=qk 0 (E_z97.cutb 0) (kSeq (evCP E_z97 (evLP E_z97 n) (sub C_z97 [1,1,1])) (kFnP E_z97 R_z97))
def qQM (s0:LU) (out3:LU) (i4:Int):Fr:=frOf [(0,da s0),(3,(db out3 (some (3,5)))),(4,dc i4)]
theorem qEE (K:KT) (n:Nat):(fun s0 out3 i4=>evLP E_z97 n (sub C_z97 [1,1,0,1,0,0]) K (qQM s0 out3 i4))=quX (qzo K) n:=by
 induction n
 kernel_rfl;rename_i n ih;show _=qgM (qzo K) (quX (qzo K) n) n;rw[← ih];kernel_rfl
theorem qTw (n:Nat) (s0:LU) (o0:Lab):evFnP E_z97 n C_z97 R_z97 [db s0 o0]=qFB n s0:=by
 unfold qFB;rw[(Eq.trans (by kernel_rfl) (qEE (qQL n) n).symm:quX (qmb n) n=_)];kernel_rfl
theorem qsr:gG 97 s_z97:=sQ (E:=E_z97) (c:=C_z97) rfl (fC qzn fN) func97 fun avs r h=>by
 unfold s_z97 at h;split at h
 ·obtain⟨hp,rfl⟩:=yj h;exact eX (qLW _ hp) fun n=>qTw n _ _
 ·cases h
def E_z98:EnvP:=eQ [(136,s_z136)] 36 (some [2]) (fun x=>if x=2 then some [0,3,4] else if x=4 then some [0,3,4] else none) (fun x=>if x=0 then some [0,3,4] else if x=1 then some [0,3,4] else if x=2 then some [0,3,4] else if x=3 then some [0,3,4] else none) nP
def C_z98:Code:=cO f98
def R_z98:Array ResultVar:=f98.results
def qkn (s0:LU) (a3:Int) (b4:Int):Fr:=frOf [(0,da s0),(3,dc a3),(4,dc b4)]
noncomputable def qss (K:KT):=fun s0 a3 b4=>K (.exit 0) (qkn s0 a3 b4)
noncomputable def qzp (K:KT):=fun s0 a3 b4=>K (.exit 2) (qkn s0 a3 b4)
def qQN (n:Nat):KT:=qk 2 (E_z98.cutb 2) (kSeq (evCP E_z98 (evLP E_z98 n) (sub C_z98 [1,1,1,1])) (kFnP E_z98 R_z98))
def qst (n:Nat):KT:=qk 0 (E_z98.cutb 0) (kSeq (evCP E_z98 (evLP E_z98 n) (sub C_z98 [1,1,1])) (kFnP E_z98 R_z98))
theorem qEF (K:KT) (n:Nat):(fun s0 a3 b4=>evLP E_z98 n (sub C_z98 [1,1,0,0,0]) K (qkn s0 a3 b4))=qoh (qss K) n:=by
 induction n
 kernel_rfl;rename_i n ih;show _=qgN (qss K) (qoh (qss K) n) n;rw[← ih];kernel_rfl
theorem qEG (K:KT) (n:Nat):(fun s0 a3 b4=>evLP E_z98 n (sub C_z98 [1,1,1,0,0,0]) K (qkn s0 a3 b4))=qoi (qzp K) n:=by
 induction n
 kernel_rfl;rename_i n ih;show _=qgO (qzp K) (qoi (qzp K) n) n;rw[← ih];kernel_rfl
theorem quy (n:Nat) (s0:LU) (a3:Int) (b4:Int):(qst n) (.exit 0) (qkn s0 a3 b4)=qeT n s0 a3 b4:=by
 unfold qeT;rw[(Eq.trans (by kernel_rfl) (qEG (qQN n) n).symm:qoi (qmc n) n=_)];kernel_rfl
theorem qTx (n:Nat) (s0:LU) (o0:Lab):evFnP E_z98 n C_z98 R_z98 [db s0 o0]=qFC n s0:=by
 unfold qFC;rw[show qoh (qeT n) n=(fun s0 a3 b4=>evLP E_z98 n (sub C_z98 [1,1,0,0,0]) (qst n) (qkn s0 a3 b4)) from by
  refine Eq.trans ?_ (qEF (qst n) n).symm;rw[show (qss (qst n))=(qeT n) from by
   funext s0 a3 b4;exact quy n s0 a3 b4]
  all_goals kernel_rfl]
 kernel_rfl
theorem qsu:gG 98 s_z98:=sQ (E:=E_z98) (c:=C_z98) rfl (fC qiR fN) func98 fun avs r h=>by
 unfold s_z98 at h;split at h
 ·obtain⟨hp,rfl⟩:=yj h;exact eX (qMs _ hp) fun n=>qTx n _ _
 ·cases h
theorem qEH:gG 99 s_z99:=sY [] 14 (some [2]) fN func99 fun avs r h=>by
 unfold s_z99 at h;split at h <;> cases h
 exact eX (qLr _)
def E_z45:EnvP:=eQ [(97,s_z97),(98,s_z98),(99,s_z99)] 19 (some [2,3]) (fun x=>if x=3 then some [4,5] else none) (fun x=>if x=0 then some [] else if x=1 then some [4,5] else none) nP
def C_z45:Code:=cO f45
def R_z45:Array ResultVar:=f45.results
noncomputable def qzq (K:KT):=fun s2 s3=>K .ret (frOf [(2,dc s2),(3,dc s3)])
def qQO (n:Nat):KT:=qk 0 (E_z45.cutb 0) (kSeq (evCP E_z45 (evLP E_z45 n) (sub C_z45 [1,1,1])) (kFnP E_z45 R_z45))
def qQP (b4:LU) (n5:Int):Fr:=frOf [(4,(df b4 none)),(5,dc n5)]
theorem qEI (K:KT) (n:Nat):(fun b4 n5=>evLP E_z45 n (sub C_z45 [1,1,0,1,0,0]) K (qQP b4 n5))=quY (qzq K) (K (.exit 0) (frOf [])) n:=by
 induction n
 kernel_rfl;rename_i n ih;show _=qeU (qzq K) (K (.exit 0) (frOf [])) (quY (qzq K) (K (.exit 0) (frOf [])) n) n;rw[← ih];kernel_rfl
theorem qTy (n:Nat) (s0:LU) (o0:Lab):evFnP E_z45 n C_z45 R_z45 [db s0 o0]=qFD n s0:=by
 unfold qFD;rw[(Eq.trans (by kernel_rfl) (qEI (qQO n) n).symm:quY qfO (qeV n) n=_)];kernel_rfl
theorem qEJ:gG 45 s_z45:=sQ (E:=E_z45) (c:=C_z45) rfl (fC qsr (fC qsu (fC qEH fN))) func45 fun avs r h=>by
 unfold s_z45 at h;split at h
 ·obtain⟨hp,rfl⟩:=yj h;exact eX (qLt _ hp) fun n=>qTy n _ _
 ·cases h
def qqo:EnvP:=eQ [(98,s_z98)] 24 (some [2]) (fun x=>if x=3 then some [0,3,4] else none) (fun x=>if x=0 then some [0,3] else if x=1 then some [0,3,4] else none) nP
def qEK:Code:=cO f100
def qQQ:Array ResultVar:=f100.results
noncomputable def qqp (K:KT):=fun s0 end3=>K (.exit 0) (frOf [(0,da s0),(3,dc end3)])
def qLc (n:Nat):KT:=qk 0 (qqo.cutb 0) (kSeq (evCP qqo (evLP qqo n) (sub qEK [1,1,1])) (kFnP qqo qQQ))
def qLd (s0:LU) (end3:Int) (i4:Int):Fr:=frOf [(0,da s0),(3,dc end3),(4,dc i4)]
theorem qzr (K:KT) (n:Nat):(fun s0 end3 i4=>evLP qqo n (sub qEK [1,1,0,1,0,0]) K (qLd s0 end3 i4))=qkz (qqp K) n:=by
 induction n
 kernel_rfl;rename_i n ih;show _=qei (qqp K) (qkz (qqp K) n) n;rw[← ih];kernel_rfl
theorem qQR (n:Nat) (s0:LU) (o0:Lab):evFnP qqo n qEK qQQ [db s0 o0]=qtl n s0:=by
 unfold qtl;rw[(Eq.trans (by kernel_rfl) (qzr (qLc n) n).symm:qkz (qfQ n) n=_)];kernel_rfl
theorem qzs:gG 100 s_z100:=sQ (E:=qqo) (c:=qEK) rfl (fC qsu fN) func100 fun avs r h=>by
 unfold s_z100 at h;split at h
 ·obtain⟨hp,rfl⟩:=yj h;exact eX (qGQ _ hp) fun n=>qQR n _ _
 ·cases h
theorem qzt:gG 101 s_z101:=sZ [] 19 (some [2]) nC (fun x=>if x=0 then some [] else none) nP fN func101 fun avs r h=>by
 unfold s_z101 at h;split at h <;> cases h
 exact eX (qFX _)
def E_z46:EnvP:=eQ [(97,s_z97),(100,s_z100),(101,s_z101)] 31 (some [2,3]) (fun x=>if x=3 then some [4,5] else if x=7 then some [4,5,6,7] else none) (fun x=>if x=0 then some [] else if x=1 then some [4,5] else if x=2 then some [4,5] else if x=3 then some [4,5,6,7] else none) nP
def C_z46:Code:=cO f46
def R_z46:Array ResultVar:=f46.results
noncomputable def qhh (K:KT):=fun s2 s3=>K .ret (frOf [(2,dc s2),(3,dc s3)])
def qzu (b4:LU) (n5:Int):Fr:=frOf [(4,(df b4 none)),(5,dc n5)]
noncomputable def qzv (K:KT):=fun b4 n5=>K (.exit 2) (qzu b4 n5)
def qQS (n:Nat) (K:KT):KT:=qk 2 (E_z46.cutb 2) (qk 1 (E_z46.cutb 1) (kSeq (evCP E_z46 (evLP E_z46 n) (sub C_z46 [1,1,0,1,0,0,1,1])) (kSeq (fun K fr=>evLP E_z46 n (sub C_z46 [1,1,0,1,0,0]) K (cutFP (E_z46.cuts 3) fr)) K)))
def qQT (n:Nat):KT:=qk 0 (E_z46.cutb 0) (kSeq (evCP E_z46 (evLP E_z46 n) (sub C_z46 [1,1,1])) (kFnP E_z46 R_z46))
def qQU (b4:LU) (n5:Int) (l6:List LU) (i7:Int):Fr:=frOf [(4,(df b4 none)),(5,dc n5),(6,(.dat (.sl .str) l6 (some (6,9)))),(7,dc i7)]
theorem qEL (K:KT) (n:Nat):(fun b4 n5 l6 i7=>evLP E_z46 n (sub C_z46 [1,1,0,1,0,0,1,0,0,1,1,0,0]) K (qQU b4 n5 l6 i7))=quZ (qhh K) (qzv K) n:=by
 induction n
 kernel_rfl;rename_i n ih;show _=qgP (qhh K) (qzv K) (quZ (qhh K) (qzv K) n) n;rw[← ih];kernel_rfl
theorem qEM (K:KT) (n:Nat):(fun b4 n5=>evLP E_z46 n (sub C_z46 [1,1,0,1,0,0]) K (qzu b4 n5))=qjV (qhh K) (K (.exit 0) (frOf [])) n:=by
 induction n
 kernel_rfl;rename_i n ih;funext b4 n5;show _=qjw (qhh K) (K (.exit 0) (frOf [])) (qjV (qhh K) (K (.exit 0) (frOf [])) n) n b4 n5;rw[← ih];unfold qjw;rw[(Eq.trans (by kernel_rfl) (qEL (qQS n K) n).symm:quZ (qhh K) (qqS (qhh K) (K (.exit 0) (frOf [])) (fun b4 n5=>evLP E_z46 n (sub C_z46 [1,1,0,1,0,0]) K (qzu b4 n5)) n) n=_)];kernel_rfl
theorem qTz (n:Nat) (s0:LU) (o0:Lab):evFnP E_z46 n C_z46 R_z46 [db s0 o0]=qFE n s0:=by
 unfold qFE;rw[(Eq.trans (by kernel_rfl) (qEM (qQT n) n).symm:qjV qfO (qeX n) n=_)];kernel_rfl
theorem qEN:gG 46 s_z46:=sQ (E:=E_z46) (c:=C_z46) rfl (fC qsr (fC qzs (fC qzt fN))) func46 fun avs r h=>by
 unfold s_z46 at h;split at h
 ·obtain⟨hp,rfl⟩:=yj h;exact eX (qMB _ hp) fun n=>qTz n _ _
 ·cases h
theorem qEO:gG 22 s_z22:=sY [(20,s_z20),(45,s_z45),(46,s_z46)] 25 (some [6]) (fC qsn (fC qEJ (fC qEN fN))) func22 fun avs r h=>by
 unfold s_z22 at h;split at h
 ·obtain⟨hp,rfl⟩:=yj h;exact eX (qLx _ _ _ hp)
 ·cases h
end
end
end Go.Av
