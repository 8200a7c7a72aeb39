import Derived.Test.YtmdadpepccbpcaaGreatDoorPoEvG
import Derived.Test.YtmdadpepccbpcaaGreatDoorPoD
import Derived.Test.YtmdadpepccbpcaaGreatDoorAvE
import Derived.Test.YtmdadpepccbpcaaGreatDoorProg
import Derived.KernelRfl
namespace Go.Av
set_option linter.unusedSimpArgs false
set_option linter.unusedVariables false
section
noncomputable section
open Go.Proofs Go.Proofs.Tryz
set_option maxRecDepth 100000
set_option linter.unusedVariables false
def qQI:EnvP:=⟨⟨tiOf tis,fnsOf [(167,s_z167),(205,s_z205),(206,s_z206),(207,s_z207),(208,s_z208),(209,s_z209),(210,s_z210)],cnsOf [],[],42,(fun _=>none),(fun _=>none),some [1000004]⟩,fun _=>none,fun _=>none,(fun x=>if x=500009 then [5] else []),fun _=>none,fun _=>none,fun _=>none,fun _=>none⟩
def qTv:Code:=cO f155
def qTw:Array ResultVar:=f155.results
theorem qQJ (n:Nat) (s0:LU) (o0:Lab) (cutset1:LU) (o1:Lab):evFnP qQI n qTv qTw [db s0 o0,df cutset1 o1]=qAE n s0 cutset1:=by
 kernel_rfl
theorem qzm:gG 155 s_z155:=sG (E:=qQI) (fun w S hg=>⟨⟨(qc (qiP w S hg) (qc (qzj w S hg) (qc (qnr w S hg) (qc (qzl w S hg) (qc (qns w S hg) (qc (qxd w S hg) (qc (qno w S hg) qr))))))),fun f sp h=>qq f sp h w S⟩,qt w S hg,(fun _ _ h=>by cases h),(fun f sp h=>qv f sp h),(fun f it h=>qw f it h),(fun t kt vt h=>qu t kt vt h)⟩) func155 fun avs r h=>by
 unfold s_z155 at h;split at h
 ·obtain⟨hp,rfl⟩:=yj h;exact eX (qGj _ _ hp) fun n=>qQJ n _ _ _ _
 ·cases h
theorem qst:gG 93 s_z93:=sY [(153,s_z153),(155,s_z155)] 6 (some [2]) (fC qfB (fC qzm fN)) func93 fun avs r h=>by
 unfold s_z93 at h;split at h
 ·obtain⟨hp,rfl⟩:=yj h;exact eX (qMc _ hp) fun n=>by kernel_rfl
 ·cases h
theorem qEz:gG 94 s_z94:=sZ [] 10 (some [2]) nC (fun x=>if x=0 then some [] else none) nP fN func94 fun avs r h=>by
 unfold s_z94 at h;split at h <;> cases h
 exact eX (qLu _) fun n=>by kernel_rfl
def E_z43:EnvP:=eQ [(92,s_z92),(93,s_z93),(94,s_z94)] 19 (some [2,3]) (fun x=>if x=3 then some [4,5] else none) (fun x=>if x=0 then some [] else if x=1 then some [4,5] else none) nP
def C_z43:Code:=cO f43
def R_z43:Array ResultVar:=f43.results
noncomputable def qzn (K:KT):=fun s2 s3=>K .ret (frOf [(2,dc s2),(3,dc s3)])
def qQK (n:Nat):KT:=qk 0 (E_z43.cutb 0) (kSeq (evCP E_z43 (evLP E_z43 n) (sub C_z43 [1,1,1])) (kFnP E_z43 R_z43))
def qQL (name4:LU) (n5:Int):Fr:=frOf [(4,(df name4 none)),(5,dc n5)]
theorem qEA (K:KT) (n:Nat):(fun name4 n5=>evLP E_z43 n (sub C_z43 [1,1,0,1,0,0]) K (qQL name4 n5))=qva (qzn K) (K (.exit 0) (frOf [])) n:=by
 induction n
 kernel_rfl;rename_i n ih;show _=qeS (qzn K) (K (.exit 0) (frOf [])) (qva (qzn K) (K (.exit 0) (frOf [])) n) n;rw[← ih];kernel_rfl
theorem qTx (n:Nat) (s0:LU) (o0:Lab):evFnP E_z43 n C_z43 R_z43 [db s0 o0]=qFE n s0:=by
 unfold qFE;rw[(Eq.trans (by kernel_rfl) (qEA (qQK n) n).symm:qva qfP (qeT n) n=_)];kernel_rfl
theorem qEB:gG 43 s_z43:=sQ (E:=E_z43) (c:=C_z43) rfl (fC qss (fC qst (fC qEz fN))) func43 fun avs r h=>by
 unfold s_z43 at h;split at h
 ·obtain⟨hp,rfl⟩:=yj h;exact eX (qLw _ hp) fun n=>qTx n _ _
 ·cases h
theorem qzo:gG 156 s_z156:=sZ [] 19 (some [2]) nC (fun x=>if x=0 then some [] else none) nP fN func156 fun avs r h=>by
 unfold s_z156 at h;split at h <;> cases h
 exact eX (qGa _) fun n=>by kernel_rfl
def E_z95:EnvP:=⟨⟨tiOf tis,fnsOf [(156,s_z156)],cnsOf [],[],22,(fun x=>if x=3 then some [1,2] else if x=6 then some [1,2,11,12,13] else none),(fun x=>if x=0 then some [1] else if x=1 then some [1,2] else if x=2 then some [1,2] else if x=3 then some [1,2,11,12,13] else none),none⟩,fun _=>none,fun _=>none,fun _=>[],fun _=>none,fun _=>none,fun _=>none,(fun x=>if x=99 then some (9,3) else none)⟩
def C_z95:Code:=cO f95
def R_z95:Array ResultVar:=f95.results
def qzp (m1:List (LU×Int)) (n2:Int):Fr:=frOf [(1,(.abs (.sl (.pair .str (.int .i64))) (qpa .str (.int .i64)) m1)),(2,dc n2)]
noncomputable def qzq (K:KT):=fun m1 n2=>K (.exit 2) (qzp m1 n2)
noncomputable def qsu (K:KT):=fun m1=>K (.exit 0) (frOf [(1,(.abs (.sl (.pair .str (.int .i64))) (qpa .str (.int .i64)) m1))])
def qQM (n:Nat) (K:KT):KT:=qk 2 (E_z95.cutb 2) (qk 1 (E_z95.cutb 1) (kSeq (evCP E_z95 (evLP E_z95 n) (sub C_z95 [1,1,0,1,0,0,1,1])) (kSeq (fun K fr=>evLP E_z95 n (sub C_z95 [1,1,0,1,0,0]) K (cutFP (E_z95.cuts 3) fr)) K)))
def qQN (n:Nat):KT:=qk 0 (E_z95.cutb 0) (kSeq (evCP E_z95 (evLP E_z95 n) (sub C_z95 [1,1,1])) (kFnR R_z95))
def qQO (m1:List (LU×Int)) (n2:Int) (s11:List LU) (s12:Int) (s13:Int):Fr:=frOf [(1,(.abs (.sl (.pair .str (.int .i64))) (qpa .str (.int .i64)) m1)),(2,dc n2),(11,(.dat (.sl .str) s11 (some (11,9)))),(12,dc s12),(13,dc s13)]
theorem qEC (K:KT) (n:Nat):(fun m1 n2 s11 s12 s13=>evLP E_z95 n (sub C_z95 [1,1,0,1,0,0,1,0,0,1,0,0]) K (qQO m1 n2 s11 s12 s13))=qAG (qzq K) n:=by
 induction n
 kernel_rfl;rename_i n ih;show _=qAF (qzq K) (qAG (qzq K) n) n;rw[← ih];kernel_rfl
theorem qED (K:KT) (n:Nat):(fun m1 n2=>evLP E_z95 n (sub C_z95 [1,1,0,1,0,0]) K (qzp m1 n2))=qAI (qsu K) n:=by
 induction n
 kernel_rfl;rename_i n ih;funext m1 n2;show _=qqU (qsu K) (qAI (qsu K) n) n m1 n2;rw[← ih];unfold qqU;rw[(Eq.trans (by kernel_rfl) (qEC (qQM n K) n).symm:qAG (qAH (qsu K) (fun m1 n2=>evLP E_z95 n (sub C_z95 [1,1,0,1,0,0]) K (qzp m1 n2)) n) n=_)];kernel_rfl
theorem qTy (n:Nat)  : evFnR E_z95 n C_z95 R_z95 []=qLO n  := by
 unfold qLO;rw[(Eq.trans (by kernel_rfl) (qED (qQN n) n).symm:qAI (qAJ n) n=_)];kernel_rfl
theorem qEE:qCf G prog 95 s_z95:=by
 refine qeA G_stays (E:=E_z95) (fn:=f95) (c:=C_z95) (qb rfl qT) (fun w S hg=>⟨⟨(qc (qzo w S hg) qr),fun f sp h=>qq f sp h w S⟩,qt w S hg,(fun _ _ h=>by cases h),(fun f sp h=>qv f sp h),(fun f it h=>qw f it h),(fun t kt vt h=>(qvq (by kernel_rfl) qu) t kt vt h)⟩) follows func95 (by kernel_rfl) (by kernel_rfl) (by kernel_rfl) ?_;intro avs r h;unfold s_z95 at h;split at h <;> cases h
 obtain⟨n,hn⟩:=qMj;exact⟨n,(qTy n ).trans hn⟩
theorem qEF:gG 96 s_z96:=sY [(80,s_z80),(93,s_z93)] 13 (some [2]) (fC qse (fC qst fN)) func96 fun avs r h=>by
 unfold s_z96 at h;split at h
 ·obtain⟨hp,rfl⟩:=yj h;exact eX (qMk _ hp) fun n=>by kernel_rfl
 ·cases h
def E_z44:EnvP:=⟨⟨tiOf tis,fnsOf [(92,s_z92),(96,s_z96)],cnsOf [],[],18,(fun _=>none),(fun _=>none),some [2,3]⟩,fun _=>none,fun _=>none,fun _=>[],fun _=>none,(fun x=>if x=95 then some s_z95 else none),fun _=>none,(fun x=>if x=99 then some (9,3) else none)⟩
def C_z44:Code:=cO f44
def R_z44:Array ResultVar:=f44.results
theorem qTz (n:Nat) (s0:LU) (o0:Lab):evFnP E_z44 n C_z44 R_z44 [db s0 o0]=qLP n s0:=by
 kernel_rfl
theorem qEG:gG 44 s_z44:=sG (E:=E_z44) (fun w S hg=>⟨⟨(qc (qss w S hg) (qc (qEF w S hg) qr)),fun f sp h=>qq f sp h w S⟩,qt w S hg,(fun _ _ h=>by cases h),(fun f sp h=>(qoN (qEE w S hg) qv) f sp h),(fun f it h=>qw f it h),(fun t kt vt h=>(qvq (by kernel_rfl) qu) t kt vt h)⟩) func44 fun avs r h=>by
 unfold s_z44 at h;split at h
 ·obtain⟨hp,rfl⟩:=yj h;exact eX (qMp _ hp) fun n=>qTz n _ _
 ·cases h
theorem qEH:gG 21 s_z21:=sY [(12,s_z12),(43,s_z43),(44,s_z44)] 25 (some [6]) (fC qhQ (fC qEB (fC qEG fN))) func21 fun avs r h=>by
 unfold s_z21 at h;split at h
 ·obtain⟨hp,rfl⟩:=yj h;exact eX (qLA _ _ _ hp) fun n=>by kernel_rfl
 ·cases h
theorem qzr:gG 157 s_z157:=sY [] 12 (some [2]) fN func157 fun avs r h=>by
 unfold s_z157 at h;split at h <;> cases h
 exact eX (qGc _) fun n=>by kernel_rfl
def E_z97:EnvP:=eQ [(157,s_z157)] 20 (some [2]) (fun x=>if x=3 then some [0,3,4] else none) (fun x=>if x=0 then some [3] else if x=1 then some [0,3,4] else none) nP
def C_z97:Code:=cO f97
def R_z97:Array ResultVar:=f97.results
noncomputable def qzs (K:KT):=fun out3=>K (.exit 0) (frOf [(3,(db out3 (some (3,5))))])
def qQP (n:Nat):KT:=qk 0 (E_z97.cutb 0) (kSeq (evCP E_z97 (evLP E_z97 n) (sub C_z97 [1,1,1])) (kFnP E_z97 R_z97))
def qQQ (s0:LU) (out3:LU) (i4:Int):Fr:=frOf [(0,da s0),(3,(db out3 (some (3,5)))),(4,dc i4)]
theorem qEI (K:KT) (n:Nat):(fun s0 out3 i4=>evLP E_z97 n (sub C_z97 [1,1,0,1,0,0]) K (qQQ s0 out3 i4))=qvb (qzs K) n:=by
 induction n
 kernel_rfl;rename_i n ih;show _=qgM (qzs K) (qvb (qzs K) n) n;rw[← ih];kernel_rfl
theorem qTA (n:Nat) (s0:LU) (o0:Lab):evFnP E_z97 n C_z97 R_z97 [db s0 o0]=qFF n s0:=by
 unfold qFF;rw[(Eq.trans (by kernel_rfl) (qEI (qQP n) n).symm:qvb (qmc n) n=_)];kernel_rfl
theorem qsv:gG 97 s_z97:=sQ (E:=E_z97) (c:=C_z97) rfl (fC qzr fN) func97 fun avs r h=>by
 unfold s_z97 at h;split at h
 ·obtain⟨hp,rfl⟩:=yj h;exact eX (qMa _ hp) fun n=>qTA n _ _
 ·cases h
def E_z98:EnvP:=eQ [(136,s_z136)] 36 (some [2]) (fun x=>if x=2 then some [0,3,4] else if x=4 then some [0,3,4] else none) (fun x=>if x=0 then some [0,3,4] else if x=1 then some [0,3,4] else if x=2 then some [0,3,4] else if x=3 then some [0,3,4] else none) nP
def C_z98:Code:=cO f98
def R_z98:Array ResultVar:=f98.results
def qko (s0:LU) (a3:Int) (b4:Int):Fr:=frOf [(0,da s0),(3,dc a3),(4,dc b4)]
noncomputable def qsw (K:KT):=fun s0 a3 b4=>K (.exit 0) (qko s0 a3 b4)
noncomputable def qzt (K:KT):=fun s0 a3 b4=>K (.exit 2) (qko s0 a3 b4)
def qQR (n:Nat):KT:=qk 2 (E_z98.cutb 2) (kSeq (evCP E_z98 (evLP E_z98 n) (sub C_z98 [1,1,1,1])) (kFnP E_z98 R_z98))
def qsx (n:Nat):KT:=qk 0 (E_z98.cutb 0) (kSeq (evCP E_z98 (evLP E_z98 n) (sub C_z98 [1,1,1])) (kFnP E_z98 R_z98))
theorem qEJ (K:KT) (n:Nat):(fun s0 a3 b4=>evLP E_z98 n (sub C_z98 [1,1,0,0,0]) K (qko s0 a3 b4))=qoi (qsw K) n:=by
 induction n
 kernel_rfl;rename_i n ih;show _=qgN (qsw K) (qoi (qsw K) n) n;rw[← ih];kernel_rfl
theorem qEK (K:KT) (n:Nat):(fun s0 a3 b4=>evLP E_z98 n (sub C_z98 [1,1,1,0,0,0]) K (qko s0 a3 b4))=qoj (qzt K) n:=by
 induction n
 kernel_rfl;rename_i n ih;show _=qgO (qzt K) (qoj (qzt K) n) n;rw[← ih];kernel_rfl
theorem quC (n:Nat) (s0:LU) (a3:Int) (b4:Int):(qsx n) (.exit 0) (qko s0 a3 b4)=qeV n s0 a3 b4:=by
 unfold qeV;rw[(Eq.trans (by kernel_rfl) (qEK (qQR n) n).symm:qoj (qmd n) n=_)];kernel_rfl
theorem qTB (n:Nat) (s0:LU) (o0:Lab):evFnP E_z98 n C_z98 R_z98 [db s0 o0]=qFG n s0:=by
 unfold qFG;rw[show qoi (qeV n) n=(fun s0 a3 b4=>evLP E_z98 n (sub C_z98 [1,1,0,0,0]) (qsx n) (qko s0 a3 b4)) from by
  refine Eq.trans ?_ (qEJ (qsx n) n).symm;rw[show (qsw (qsx n))=(qeV n) from by
   funext s0 a3 b4;exact quC n s0 a3 b4]
  all_goals kernel_rfl]
 kernel_rfl
theorem qsy:gG 98 s_z98:=sQ (E:=E_z98) (c:=C_z98) rfl (fC qiS fN) func98 fun avs r h=>by
 unfold s_z98 at h;split at h
 ·obtain⟨hp,rfl⟩:=yj h;exact eX (qMw _ hp) fun n=>qTB n _ _
 ·cases h
theorem qEL:gG 99 s_z99:=sY [] 14 (some [2]) fN func99 fun avs r h=>by
 unfold s_z99 at h;split at h <;> cases h
 exact eX (qLv _) fun n=>by kernel_rfl
def E_z45:EnvP:=eQ [(97,s_z97),(98,s_z98),(99,s_z99)] 19 (some [2,3]) (fun x=>if x=3 then some [4,5] else none) (fun x=>if x=0 then some [] else if x=1 then some [4,5] else none) nP
def C_z45:Code:=cO f45
def R_z45:Array ResultVar:=f45.results
noncomputable def qzu (K:KT):=fun s2 s3=>K .ret (frOf [(2,dc s2),(3,dc s3)])
def qQS (n:Nat):KT:=qk 0 (E_z45.cutb 0) (kSeq (evCP E_z45 (evLP E_z45 n) (sub C_z45 [1,1,1])) (kFnP E_z45 R_z45))
def qQT (b4:LU) (n5:Int):Fr:=frOf [(4,(df b4 none)),(5,dc n5)]
theorem qEM (K:KT) (n:Nat):(fun b4 n5=>evLP E_z45 n (sub C_z45 [1,1,0,1,0,0]) K (qQT b4 n5))=qvc (qzu K) (K (.exit 0) (frOf [])) n:=by
 induction n
 kernel_rfl;rename_i n ih;show _=qeW (qzu K) (K (.exit 0) (frOf [])) (qvc (qzu K) (K (.exit 0) (frOf [])) n) n;rw[← ih];kernel_rfl
theorem qTC (n:Nat) (s0:LU) (o0:Lab):evFnP E_z45 n C_z45 R_z45 [db s0 o0]=qFH n s0:=by
 unfold qFH;rw[(Eq.trans (by kernel_rfl) (qEM (qQS n) n).symm:qvc qfP (qeX n) n=_)];kernel_rfl
theorem qEN:gG 45 s_z45:=sQ (E:=E_z45) (c:=C_z45) rfl (fC qsv (fC qsy (fC qEL fN))) func45 fun avs r h=>by
 unfold s_z45 at h;split at h
 ·obtain⟨hp,rfl⟩:=yj h;exact eX (qLx _ hp) fun n=>qTC n _ _
 ·cases h
def qqr:EnvP:=eQ [(98,s_z98)] 24 (some [2]) (fun x=>if x=3 then some [0,3,4] else none) (fun x=>if x=0 then some [0,3] else if x=1 then some [0,3,4] else none) nP
def qEO:Code:=cO f100
def qQU:Array ResultVar:=f100.results
noncomputable def qqs (K:KT):=fun s0 end3=>K (.exit 0) (frOf [(0,da s0),(3,dc end3)])
def qLg (n:Nat):KT:=qk 0 (qqr.cutb 0) (kSeq (evCP qqr (evLP qqr n) (sub qEO [1,1,1])) (kFnP qqr qQU))
def qLh (s0:LU) (end3:Int) (i4:Int):Fr:=frOf [(0,da s0),(3,dc end3),(4,dc i4)]
theorem qzv (K:KT) (n:Nat):(fun s0 end3 i4=>evLP qqr n (sub qEO [1,1,0,1,0,0]) K (qLh s0 end3 i4))=qkA (qqs K) n:=by
 induction n
 kernel_rfl;rename_i n ih;show _=qej (qqs K) (qkA (qqs K) n) n;rw[← ih];kernel_rfl
theorem qQV (n:Nat) (s0:LU) (o0:Lab):evFnP qqr n qEO qQU [db s0 o0]=qtp n s0:=by
 unfold qtp;rw[(Eq.trans (by kernel_rfl) (qzv (qLg n) n).symm:qkA (qfR n) n=_)];kernel_rfl
theorem qzw:gG 100 s_z100:=sQ (E:=qqr) (c:=qEO) rfl (fC qsy fN) func100 fun avs r h=>by
 unfold s_z100 at h;split at h
 ·obtain⟨hp,rfl⟩:=yj h;exact eX (qGU _ hp) fun n=>qQV n _ _
 ·cases h
theorem qzx:gG 101 s_z101:=sZ [] 19 (some [2]) nC (fun x=>if x=0 then some [] else none) nP fN func101 fun avs r h=>by
 unfold s_z101 at h;split at h <;> cases h
 exact eX (qGb _) fun n=>by kernel_rfl
def E_z46:EnvP:=eQ [(97,s_z97),(100,s_z100),(101,s_z101)] 31 (some [2,3]) (fun x=>if x=3 then some [4,5] else if x=7 then some [4,5,6,7] else none) (fun x=>if x=0 then some [] else if x=1 then some [4,5] else if x=2 then some [4,5] else if x=3 then some [4,5,6,7] else none) nP
def C_z46:Code:=cO f46
def R_z46:Array ResultVar:=f46.results
noncomputable def qhh (K:KT):=fun s2 s3=>K .ret (frOf [(2,dc s2),(3,dc s3)])
def qzy (b4:LU) (n5:Int):Fr:=frOf [(4,(df b4 none)),(5,dc n5)]
noncomputable def qzz (K:KT):=fun b4 n5=>K (.exit 2) (qzy b4 n5)
def qQW (n:Nat) (K:KT):KT:=qk 2 (E_z46.cutb 2) (qk 1 (E_z46.cutb 1) (kSeq (evCP E_z46 (evLP E_z46 n) (sub C_z46 [1,1,0,1,0,0,1,1])) (kSeq (fun K fr=>evLP E_z46 n (sub C_z46 [1,1,0,1,0,0]) K (cutFP (E_z46.cuts 3) fr)) K)))
def qQX (n:Nat):KT:=qk 0 (E_z46.cutb 0) (kSeq (evCP E_z46 (evLP E_z46 n) (sub C_z46 [1,1,1])) (kFnP E_z46 R_z46))
def qQY (b4:LU) (n5:Int) (l6:List LU) (i7:Int):Fr:=frOf [(4,(df b4 none)),(5,dc n5),(6,(.dat (.sl .str) l6 (some (6,9)))),(7,dc i7)]
theorem qEP (K:KT) (n:Nat):(fun b4 n5 l6 i7=>evLP E_z46 n (sub C_z46 [1,1,0,1,0,0,1,0,0,1,1,0,0]) K (qQY b4 n5 l6 i7))=qvd (qhh K) (qzz K) n:=by
 induction n
 kernel_rfl;rename_i n ih;show _=qgP (qhh K) (qzz K) (qvd (qhh K) (qzz K) n) n;rw[← ih];kernel_rfl
theorem qEQ (K:KT) (n:Nat):(fun b4 n5=>evLP E_z46 n (sub C_z46 [1,1,0,1,0,0]) K (qzy b4 n5))=qjW (qhh K) (K (.exit 0) (frOf [])) n:=by
 induction n
 kernel_rfl;rename_i n ih;funext b4 n5;show _=qjx (qhh K) (K (.exit 0) (frOf [])) (qjW (qhh K) (K (.exit 0) (frOf [])) n) n b4 n5;rw[← ih];unfold qjx;rw[(Eq.trans (by kernel_rfl) (qEP (qQW n K) n).symm:qvd (qhh K) (qqV (qhh K) (K (.exit 0) (frOf [])) (fun b4 n5=>evLP E_z46 n (sub C_z46 [1,1,0,1,0,0]) K (qzy b4 n5)) n) n=_)];kernel_rfl
theorem qTD (n:Nat) (s0:LU) (o0:Lab):evFnP E_z46 n C_z46 R_z46 [db s0 o0]=qFI n s0:=by
 unfold qFI;rw[(Eq.trans (by kernel_rfl) (qEQ (qQX n) n).symm:qjW qfP (qeZ n) n=_)];kernel_rfl
theorem qER:gG 46 s_z46:=sQ (E:=E_z46) (c:=C_z46) rfl (fC qsv (fC qzw (fC qzx fN))) func46 fun avs r h=>by
 unfold s_z46 at h;split at h
 ·obtain⟨hp,rfl⟩:=yj h;exact eX (qMF _ hp) fun n=>qTD n _ _
 ·cases h
theorem qES:gG 22 s_z22:=sY [(20,s_z20),(45,s_z45),(46,s_z46)] 25 (some [6]) (fC qsr (fC qEN (fC qER fN))) func22 fun avs r h=>by
 unfold s_z22 at h;split at h
 ·obtain⟨hp,rfl⟩:=yj h;exact eX (qLB _ _ _ hp) fun n=>by kernel_rfl
 ·cases h
end
end
end Go.Av
