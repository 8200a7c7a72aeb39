import Derived.Test.YtmdadpepccbpcaaGreatDoorPoEvC
import Derived.Test.YtmdadpepccbpcaaGreatDoorPoD
import Derived.Test.YtmdadpepccbpcaaGreatDoorAvE
import Derived.Test.YtmdadpepccbpcaaGreatDoorProg
import Derived.KernelRfl
namespace Go.Av
set_option linter.unusedSimpArgs false
set_option linter.unusedVariables false
section
open List (length)
noncomputable section
open Go.Proofs Go.Proofs.Tryz
set_option maxRecDepth 100000
set_option linter.unusedVariables false
def E_z81:EnvP:=eQ [(142,s_z142)] 19 (some [2]) (fun x=>if x=3 then some [3,7,8,9] else none) (fun x=>if x=0 then some [3] else if x=1 then some [3,7,8,9] else none) nP
def C_z81:Code:=cO f81
def R_z81:Array ResultVar:=f81.results
noncomputable def qxX (K:KT):=fun n3=>K (.exit 0) (frOf [(3,dc n3)])
def qON (n:Nat):KT:=qk 0 (E_z81.cutb 0) (kSeq (evCP E_z81 (evLP E_z81 n) (sub C_z81 [1,1,1])) (kFnP E_z81 R_z81))
def qOO (n3:Int) (s7:List LU) (s8:Int) (s9:Int):Fr:=frOf [(3,dc n3),(7,(.dat (.sl (.sl .byte)) s7 (some (7,24)))),(8,dc s8),(9,dc s9)]
theorem qDv (K:KT) (n:Nat):(fun n3 s7 s8 s9=>evLP E_z81 n (sub C_z81 [1,1,0,1,0,0]) K (qOO n3 s7 s8 s9))=qnU (qxX K) n:=by
 induction n
 kernel_rfl;rename_i n ih;show _=qgz (qxX K) (qnU (qxX K) n) n;rw[← ih];kernel_rfl
theorem qSB (n:Nat) (s0:LU) (o0:Lab):evFnP E_z81 n C_z81 R_z81 [db s0 o0]=qFs n s0:=by
 unfold qFs;rw[(Eq.trans (by kernel_rfl) (qDv (qON n) n).symm:qnU (qqE n) n=_)];kernel_rfl
theorem qDw:gG 81 s_z81:=sQ (E:=E_z81) (c:=C_z81) rfl (fC qxW fN) func81 fun avs r h=>by
 unfold s_z81 at h;split at h
 ·obtain⟨hp,rfl⟩:=yj h;exact eX (qLf _ hp) fun n=>qSB n _ _
 ·cases h
def E_z37:EnvP:=eQ [(78,s_z78),(79,s_z79),(80,s_z80),(81,s_z81)] 43 (some [4]) (fun x=>if x=4 then some [0,1,5,6,9,10,11] else none) (fun x=>if x=0 then some [0,1,6] else if x=1 then some [0,1,5,6,9,10,11] else if x=2 then some [] else none) nP
def C_z37:Code:=cO f37
def R_z37:Array ResultVar:=f37.results
noncomputable def X_z78 (K:KT):=fun s0 most1 above6=>K (.exit 0) (frOf [(0,da s0),(1,dc most1),(6,dg above6)])
def qOP (n:Nat):KT:=qk 0 (E_z37.cutb 0) (kSeq (evCP E_z37 (evLP E_z37 n) (sub C_z37 [1,1,1,1])) (kFnP E_z37 R_z37))
def qOQ (s0:LU) (most1:Int) (above6:Bool) (s9:LU) (s10:Int) (s11:Int):Fr:=frOf [(0,da s0),(1,dc most1),(5,(.fn 78 [])),(6,dg above6),(9,da s9),(10,dc s10),(11,dc s11)]
theorem qDx (K:KT) (n:Nat):(fun s0 most1 above6 s9 s10 s11=>evLP E_z37 n (sub C_z37 [1,1,1,0,1,0,0]) K (qOQ s0 most1 above6 s9 s10 s11))=qnV (X_z78 K) n:=by
 induction n
 kernel_rfl;rename_i n ih;show _=qgA (X_z78 K) (qnV (X_z78 K) n) n;rw[← ih];kernel_rfl
theorem qSC (n:Nat) (s0:LU) (o0:Lab) (most1:Int) (o1:Lab):evFnP E_z37 n C_z37 R_z37 [db s0 o0,de most1 o1]=qLF n s0 most1:=by
 unfold qLF;rw[(Eq.trans (by kernel_rfl) (qDx (qOP n) n).symm:qnV (qlI n) n=_)];kernel_rfl
theorem qsc:gG 37 s_z37:=sQ (E:=E_z37) (c:=C_z37) rfl (fC qDs (fC qDt (fC qsa (fC qDw fN)))) func37 fun avs r h=>by
 unfold s_z37 at h;split at h
 ·obtain⟨hp,rfl⟩:=yj h;exact eX (qLk _ _ hp) fun n=>qSC n _ _ _ _
 ·cases h
def E_z60:EnvP:=eQ [(37,s_z37)] 7 (some [2,3]) nC nC nP
def C_z60:Code:=cO f60
def R_z60:Array ResultVar:=f60.results
def s_z60:Sp:=byE E_z60 C_z60 R_z60
theorem qDy:gG 60 s_z60:=by
 refine qe G_stays (E:=E_z60) (fn:=f60) (c:=C_z60) (qb rfl qT) (fun w S hg=>⟨⟨(qc (qsc w S hg) qr),fun f sp h=>qq f sp h w S⟩,qt w S hg,(fun _ _ h=>by cases h),(fun f sp h=>qv f sp h),(fun f it h=>qw f it h),(fun t kt vt h=>qu t kt vt h)⟩) follows func60 (by kernel_rfl) (by kernel_rfl) (by kernel_rfl) fun _ _ h=>qz h
def qOR:EnvP:=eQ [] 25 (some [25]) nC nC (fun x=>if x=11 then some (.osl 5 .byte) else if x=19 then some (.osl 5 .byte) else none)
def qOS:Code:=cO f121
def qSD:Array ResultVar:=f121.results
def s_z121:Sp:=byM qOR qOS qSD
theorem qnD:qjM G prog 121 s_z121:=by
 refine qeB G_stays (E:=qOR) (fn:=f121) (c:=qOS) (qb rfl qT) (fun w S hg=>⟨⟨qr,fun f sp h=>qq f sp h w S⟩,qt w S hg,(fun _ _ h=>by cases h),(fun f sp h=>qv f sp h),(fun f it h=>qw f it h),(fun t kt vt h=>qu t kt vt h)⟩) follows func121 (by kernel_rfl) (by kernel_rfl) (by kernel_rfl) fun _ _ h=>qvl h
def qOT:EnvP:=⟨⟨tiOf tis,fnsOf [],cnsOf [],[],32,(fun _=>none),(fun _=>none),some [32]⟩,(fun x=>if x=20 then some (.osl 5 .byte) else none),fun _=>none,fun _=>[],(fun x=>if x=121 then some s_z121 else none),fun _=>none,fun _=>none,fun _=>none⟩
def qOU:Code:=cO f119
def qSE:Array ResultVar:=f119.results
def s_z119:Sp:=byM qOT qOU qSE
theorem qxY:qjM G prog 119 s_z119:=by
 refine qeB G_stays (E:=qOT) (fn:=f119) (c:=qOU) (qb rfl qT) (fun w S hg=>⟨⟨qr,fun f sp h=>qq f sp h w S⟩,qt w S hg,(fun f sp h=>(qfY (qnD w S hg) qmq) f sp h),(fun f sp h=>qv f sp h),(fun f it h=>qw f it h),(fun t kt vt h=>qu t kt vt h)⟩) follows func119 (by kernel_rfl) (by kernel_rfl) (by kernel_rfl) fun _ _ h=>qvl h
def qOV:EnvP:=eQ [] 45 (some [4]) nC (fun x=>if x=0 then some [] else none) nP
def qOW:Code:=cO f120
def qSF:Array ResultVar:=f120.results
def s_z120:Sp:=byE qOV qOW qSF
theorem qxZ:gG 120 s_z120:=by
 refine qe G_stays (E:=qOV) (fn:=f120) (c:=qOW) (qb rfl qT) (fun w S hg=>⟨⟨qr,fun f sp h=>qq f sp h w S⟩,qt w S hg,(fun _ _ h=>by cases h),(fun f sp h=>qv f sp h),(fun f it h=>qw f it h),(fun t kt vt h=>qu t kt vt h)⟩) follows func120 (by kernel_rfl) (by kernel_rfl) (by kernel_rfl) fun _ _ h=>qz h
def qOX:EnvP:=eQ [] 6 (some [2]) nC nC nP
def qOY:Code:=cO f239
def qSG:Array ResultVar:=f239.results
def s_z239:Sp:=byE qOX qOY qSG
theorem qya:gG 239 s_z239:=by
 refine qe G_stays (E:=qOX) (fn:=f239) (c:=qOY) (qb rfl qT) (fun w S hg=>⟨⟨qr,fun f sp h=>qq f sp h w S⟩,qt w S hg,(fun _ _ h=>by cases h),(fun f sp h=>qv f sp h),(fun f it h=>qw f it h),(fun t kt vt h=>qu t kt vt h)⟩) follows func239 (by kernel_rfl) (by kernel_rfl) (by kernel_rfl) fun _ _ h=>qz h
def qOZ:EnvP:=eQ [(239,s_z239)] 11 (some [2]) nC nC nP
def qPa:Code:=cO f219
def qSH:Array ResultVar:=f219.results
def s_z219:Sp:=byE qOZ qPa qSH
theorem qyb:gG 219 s_z219:=by
 refine qe G_stays (E:=qOZ) (fn:=f219) (c:=qPa) (qb rfl qT) (fun w S hg=>⟨⟨(qc (qya w S hg) qr),fun f sp h=>qq f sp h w S⟩,qt w S hg,(fun _ _ h=>by cases h),(fun f sp h=>qv f sp h),(fun f it h=>qw f it h),(fun t kt vt h=>qu t kt vt h)⟩) follows func219 (by kernel_rfl) (by kernel_rfl) (by kernel_rfl) fun _ _ h=>qz h
def qPb:EnvP:=eQ [(153,s_z153),(219,s_z219)] 15 (some [6]) nC nC nP
def qPc:Code:=cO f179
def qSI:Array ResultVar:=f179.results
def s_z179:Sp:=byE qPb qPc qSI
theorem qyc:gG 179 s_z179:=by
 refine qe G_stays (E:=qPb) (fn:=f179) (c:=qPc) (qb rfl qT) (fun w S hg=>⟨⟨(qc (qfA w S hg) (qc (qyb w S hg) qr)),fun f sp h=>qq f sp h w S⟩,qt w S hg,(fun _ _ h=>by cases h),(fun f sp h=>qv f sp h),(fun f it h=>qw f it h),(fun t kt vt h=>qu t kt vt h)⟩) follows func179 (by kernel_rfl) (by kernel_rfl) (by kernel_rfl) fun _ _ h=>qz h
def qPd:EnvP:=eQ [(144,s_z144),(179,s_z179)] 23 (some [4]) nC nC nP
def qPe:Code:=cO f122
def qSJ:Array ResultVar:=f122.results
def s_z122:Sp:=byE qPd qPe qSJ
theorem qyd:gG 122 s_z122:=by
 refine qe G_stays (E:=qPd) (fn:=f122) (c:=qPe) (qb rfl qT) (fun w S hg=>⟨⟨(qc (qiQ w S hg) (qc (qyc w S hg) qr)),fun f sp h=>qq f sp h w S⟩,qt w S hg,(fun _ _ h=>by cases h),(fun f sp h=>qv f sp h),(fun f it h=>qw f it h),(fun t kt vt h=>qu t kt vt h)⟩) follows func122 (by kernel_rfl) (by kernel_rfl) (by kernel_rfl) fun _ _ h=>qz h
def E_z62:EnvP:=⟨⟨tiOf tis,fnsOf [(120,s_z120),(122,s_z122)],cnsOf [],[],50,(fun x=>if x=4 then some [0,3,4,5] else none),(fun x=>if x=0 then some [3] else if x=1 then some [0,3,4,5] else none),some [2]⟩,(fun x=>if x=7 then some (.ppair (.osl 5 .byte) (.ppair (.leaf (.int .i64)) (.leaf .unit))) else if x=8 then some (.ppair (.osl 5 .byte) (.ppair (.leaf (.int .i64)) (.leaf .unit))) else none),fun _=>none,fun _=>[],(fun x=>if x=119 then some s_z119 else if x=121 then some s_z121 else none),fun _=>none,fun _=>none,fun _=>none⟩
def C_z62:Code:=cO f62
def R_z62:Array ResultVar:=f62.results
def s_z62:Sp:=byE E_z62 C_z62 R_z62
theorem qDz:gG 62 s_z62:=by
 refine qe G_stays (E:=E_z62) (fn:=f62) (c:=C_z62) (qb rfl qT) (fun w S hg=>⟨⟨(qc (qxZ w S hg) (qc (qyd w S hg) qr)),fun f sp h=>qq f sp h w S⟩,qt w S hg,(fun f sp h=>(qfY (qxY w S hg) (qfY (qnD w S hg) qmq)) f sp h),(fun f sp h=>qv f sp h),(fun f it h=>qw f it h),(fun t kt vt h=>qu t kt vt h)⟩) follows func62 (by kernel_rfl) (by kernel_rfl) (by kernel_rfl) fun _ _ h=>qz h
def E_z61:EnvP:=eQ [(62,s_z62)] 6 (some [2,3]) nC nC nP
def C_z61:Code:=cO f61
def R_z61:Array ResultVar:=f61.results
def s_z61:Sp:=byE E_z61 C_z61 R_z61
theorem qDA:gG 61 s_z61:=by
 refine qe G_stays (E:=E_z61) (fn:=f61) (c:=C_z61) (qb rfl qT) (fun w S hg=>⟨⟨(qc (qDz w S hg) qr),fun f sp h=>qq f sp h w S⟩,qt w S hg,(fun _ _ h=>by cases h),(fun f sp h=>qv f sp h),(fun f it h=>qw f it h),(fun t kt vt h=>qu t kt vt h)⟩) follows func61 (by kernel_rfl) (by kernel_rfl) (by kernel_rfl) fun _ _ h=>qz h
theorem qye:gG 222 s_z222:=sY [] 6 (some [2]) fN func222 fun avs r h=>by
 unfold s_z222 at h;split at h <;> cases h
 exact eX (qGH _)
def qdw:EnvP:=eQ [(222,s_z222)] 49 (some [2]) (fun x=>if x=4 then some [3,4,5,8,9,10] else if x=8 then some [3,4,5,8,9,10] else none) (fun x=>if x=0 then some [3,4,5] else if x=1 then some [3,4,5,8,9,10] else if x=2 then some [3,4,5,8,9,10] else if x=3 then some [3,4,5,8,9,10] else none) nP
def qlv:Code:=cO f182
def qPf:Array ResultVar:=f182.results
def qlw (out3:LU) (held4:Int) (many5:Int) (s8:LU) (s9:Int) (s10:Int):Fr:=frOf [(3,(db out3 (some (3,5)))),(4,dc held4),(5,dc many5),(8,da s8),(9,dc s9),(10,dc s10)]
noncomputable def qpP (K:KT):=fun out3 held4 many5 s8 s9 s10=>K (.exit 2) (qlw out3 held4 many5 s8 s9 s10)
def qKA (out3:LU) (held4:Int) (many5:Int):Fr:=frOf [(3,(db out3 (some (3,5)))),(4,dc held4),(5,dc many5)]
noncomputable def qlx (K:KT):=fun out3 held4 many5=>K (.exit 0) (qKA out3 held4 many5)
def qKB (n:Nat) (K:KT):KT:=qk 2 (qdw.cutb 2) (kSeq (evCP qdw (evLP qdw n) (sub qlv [1,1,1,0,1,0,0,1,1,0,0,1,1,1,1])) (qk 1 (qdw.cutb 1) (kSeq (evCP qdw (evLP qdw n) (sub qlv [1,1,1,0,1,0,0,1,1,1])) (kSeq (fun K fr=>evLP qdw n (sub qlv [1,1,1,0,1,0,0]) K (cutFP (qdw.cuts 4) fr)) K))))
def qKC (n:Nat):KT:=qk 0 (qdw.cutb 0) (kSeq (evCP qdw (evLP qdw n) (sub qlv [1,1,1,1])) (kFnP qdw qPf))
theorem qyf (K:KT) (n:Nat):(fun out3 held4 many5 s8 s9 s10=>evLP qdw n (sub qlv [1,1,1,0,1,0,0,1,1,0,0,1,1,1,0,0,0]) K (qlw out3 held4 many5 s8 s9 s10))=qdf (qpP K) n:=by
 induction n
 kernel_rfl;rename_i n ih;show _=qsV (qpP K) (qdf (qpP K) n) n;rw[← ih];kernel_rfl
theorem qyg (K:KT) (n:Nat):(fun out3 held4 many5 s8 s9 s10=>evLP qdw n (sub qlv [1,1,1,0,1,0,0]) K (qlw out3 held4 many5 s8 s9 s10))=qkt (qlx K) n:=by
 induction n
 kernel_rfl;rename_i n ih;funext out3 held4 many5 s8 s9 s10;show _=qcW (qlx K) (qkt (qlx K) n) n out3 held4 many5 s8 s9 s10;rw[← ih];unfold qcW;rw[(Eq.trans (by kernel_rfl) (qyf (qKB n K) n).symm:qdf (qdX (qlx K) (fun out3 held4 many5 s8 s9 s10=>evLP qdw n (sub qlv [1,1,1,0,1,0,0]) K (qlw out3 held4 many5 s8 s9 s10)) n) n=_)];kernel_rfl
theorem qPg (n:Nat) (s0:LU) (o0:Lab):evFnP qdw n qlv qPf [db s0 o0]=qsW n s0:=by
 unfold qsW;rw[(Eq.trans (by kernel_rfl) (qyg (qKC n) n).symm:qkt (qfJ n) n=_)];kernel_rfl
theorem qyh:gG 182 s_z182:=sQ (E:=qdw) (c:=qlv) rfl (fC qye fN) func182 fun avs r h=>by
 unfold s_z182 at h;split at h
 ·obtain⟨hp,rfl⟩:=yj h;exact eX (qGJ _ hp) fun n=>qPg n _ _
 ·cases h
theorem qyi:gG 123 s_z123:=fun w S hg vals avs r h hS ha=>by
 unfold s_z123 at h;split at h
 ·rename_i s o;simp only[yb] at h;obtain⟨hp,rfl⟩:=h;obtain⟨u,rfl,h1⟩:=args1 ha;obtain⟨A,cap,rfl,hcap,hA,hcA⟩:=qgt h1;have hent:(callFunc 123 #[.slice A (length s) cap]).run prog w=.ok (.enter 123 #[.slice A (length s) cap]) w:=enters_of (c:=f123.body.getD .skip) func123 (by kernel_rfl) (by kernel_rfl) _ _;refine .inl ⟨hent,(Go.Proofs.lay_walk (S:=S) (qd hp) ?_).mono ?_⟩
  ·intro w' hb;have hk:Keeps w S w' S:=fun b o hs=>⟨hs,qo (hb.block b (hS b o hs)) o⟩;have hS':∀ b o,S b o→b < w'.heap.size:=fun b o hs=>yH (hS b o hs) hb.size;rcases qyh w' S (G_stays w S w' S hk hg) [.slice A (length s) cap] [db s none] _ (show s_z182 _=(true,_) from Prod.ext hp rfl) hS' (qdM ((h1.keeps hk).relab none) (qmr _ _)) with ⟨_,h2⟩ | ⟨v,w2,h2,_⟩
   ·refine h2.mono fun e w2 ⟨v,he,S2,g2,hr⟩=>?_;obtain⟨A',cap',rfl,_,hA',hc'⟩:=qgt hr.rd;refine⟨A',cap',he,g2.below,hA',fun ad ha' i x hx=>?_⟩;have hi:=(List.getElem?_eq_some_iff.1 hx).1;have hx':(z182 s)[i]? = some x:=hx;have:=hc' ad ha' i hi;rw[yY,List.getElem?_map,hx'] at this;exact this
   ·exfalso;have:(callFunc 182 #[.slice A (length s) cap]).run prog w'=.ok (.enter 182 #[.slice A (length s) cap]) w':=enters_of (c:=f182.body.getD .skip) func182 (by kernel_rfl) (by kernel_rfl) _ _;rw[this] at h2;cases h2
  ·rintro e w' ⟨v,rfl,hf,hb⟩;exact⟨v,rfl,Go.Proofs.res_fresh hS hb hf⟩
 ·cases h
def E_z64:EnvP:=eQ [(123,s_z123)] 24 (some [2]) (fun x=>if x=3 then some [3,4] else none) (fun x=>if x=0 then some [4] else if x=1 then some [3,4] else none) nP
def C_z64:Code:=cO f64
def R_z64:Array ResultVar:=f64.results
def s_z64:Sp:=byE E_z64 C_z64 R_z64
theorem qDB:gG 64 s_z64:=by
 refine qe G_stays (E:=E_z64) (fn:=f64) (c:=C_z64) (qb rfl qT) (fun w S hg=>⟨⟨(qc (qyi w S hg) qr),fun f sp h=>qq f sp h w S⟩,qt w S hg,(fun _ _ h=>by cases h),(fun f sp h=>qv f sp h),(fun f it h=>qw f it h),(fun t kt vt h=>qu t kt vt h)⟩) follows func64 (by kernel_rfl) (by kernel_rfl) (by kernel_rfl) fun _ _ h=>qz h
def E_z63:EnvP:=eQ [(64,s_z64)] 6 (some [2,3]) nC nC nP
def C_z63:Code:=cO f63
def R_z63:Array ResultVar:=f63.results
def s_z63:Sp:=byE E_z63 C_z63 R_z63
theorem qDC:gG 63 s_z63:=by
 refine qe G_stays (E:=E_z63) (fn:=f63) (c:=C_z63) (qb rfl qT) (fun w S hg=>⟨⟨(qc (qDB w S hg) qr),fun f sp h=>qq f sp h w S⟩,qt w S hg,(fun _ _ h=>by cases h),(fun f sp h=>qv f sp h),(fun f it h=>qw f it h),(fun t kt vt h=>qu t kt vt h)⟩) follows func63 (by kernel_rfl) (by kernel_rfl) (by kernel_rfl) fun _ _ h=>qz h
def E_z30:EnvP:=eQ [] 11 (some [2,3]) nC (fun x=>if x=0 then some [] else none) nP
def C_z30:Code:=cO f30
def R_z30:Array ResultVar:=f30.results
def s_z30:Sp:=byE E_z30 C_z30 R_z30
theorem qDD:gG 30 s_z30:=by
 refine qe G_stays (E:=E_z30) (fn:=f30) (c:=C_z30) (qb rfl qT) (fun w S hg=>⟨⟨qr,fun f sp h=>qq f sp h w S⟩,qt w S hg,(fun _ _ h=>by cases h),(fun _ _ h=>by cases h),(fun _ _ h=>by cases h),(fun _ _ _ h=>by cases h)⟩) follows func30 (by kernel_rfl) (by kernel_rfl) (by kernel_rfl) fun _ _ h=>qz h
def E_z65:EnvP:=eQ [] 13 (some [2]) nC (fun x=>if x=0 then some [] else none) nP
def C_z65:Code:=cO f65
def R_z65:Array ResultVar:=f65.results
def s_z65:Sp:=byE E_z65 C_z65 R_z65
theorem qsd:gG 65 s_z65:=by
 refine qe G_stays (E:=E_z65) (fn:=f65) (c:=C_z65) (qb rfl qT) (fun w S hg=>⟨⟨qr,fun f sp h=>qq f sp h w S⟩,qt w S hg,(fun _ _ h=>by cases h),(fun f sp h=>qv f sp h),(fun f it h=>qw f it h),(fun t kt vt h=>qu t kt vt h)⟩) follows func65 (by kernel_rfl) (by kernel_rfl) (by kernel_rfl) fun _ _ h=>qz h
def qPh:EnvP:=eQ [] 6 (some [2]) nC nC nP
def qPi:Code:=cO f158
def qSK:Array ResultVar:=f158.results
def s_z158:Sp:=byE qPh qPi qSK
theorem qnE:gG 158 s_z158:=by
 refine qe G_stays (E:=qPh) (fn:=f158) (c:=qPi) (qb rfl qT) (fun w S hg=>⟨⟨qr,fun f sp h=>qq f sp h w S⟩,qt w S hg,(fun _ _ h=>by cases h),(fun f sp h=>qv f sp h),(fun f it h=>qw f it h),(fun t kt vt h=>qu t kt vt h)⟩) follows func158 (by kernel_rfl) (by kernel_rfl) (by kernel_rfl) fun _ _ h=>qz h
def qPj:EnvP:=eQ [(176,s_z176)] 31 (some [2,3]) (fun x=>if x=2 then some [0,6,7] else none) (fun x=>if x=0 then some [0] else if x=1 then some [0,6,7] else if x=2 then some [0,6,7] else none) nP
def qPk:Code:=cO f127
def qSL:Array ResultVar:=f127.results
def s_z127:Sp:=byE qPj qPk qSL
theorem qyj:gG 127 s_z127:=by
 refine qe G_stays (E:=qPj) (fn:=f127) (c:=qPk) (qb rfl qT) (fun w S hg=>⟨⟨(qc (qnx w S hg) qr),fun f sp h=>qq f sp h w S⟩,qt w S hg,(fun _ _ h=>by cases h),(fun f sp h=>qv f sp h),(fun f it h=>qw f it h),(fun t kt vt h=>qu t kt vt h)⟩) follows func127 (by kernel_rfl) (by kernel_rfl) (by kernel_rfl) fun _ _ h=>qz h
def qPl:EnvP:=eQ [(127,s_z127)] 11 (some [2]) nC nC nP
def qPm:Code:=cO f159
def qSM:Array ResultVar:=f159.results
def s_z159:Sp:=byE qPl qPm qSM
theorem qyk:gG 159 s_z159:=by
 refine qe G_stays (E:=qPl) (fn:=f159) (c:=qPm) (qb rfl qT) (fun w S hg=>⟨⟨(qc (qyj w S hg) qr),fun f sp h=>qq f sp h w S⟩,qt w S hg,(fun _ _ h=>by cases h),(fun f sp h=>qv f sp h),(fun f it h=>qw f it h),(fun t kt vt h=>qu t kt vt h)⟩) follows func159 (by kernel_rfl) (by kernel_rfl) (by kernel_rfl) fun _ _ h=>qz h
def qPn:EnvP:=eQ [] 19 (some [4]) (fun x=>if x=2 then some [0,1,7,8] else none) (fun x=>if x=0 then some [] else if x=1 then some [0,1,7,8] else none) nP
def qPo:Code:=cO f186
def qSN:Array ResultVar:=f186.results
def s_z186:Sp:=byE qPn qPo qSN
theorem qyl:gG 186 s_z186:=by
 refine qe G_stays (E:=qPn) (fn:=f186) (c:=qPo) (qb rfl qT) (fun w S hg=>⟨⟨qr,fun f sp h=>qq f sp h w S⟩,qt w S hg,(fun _ _ h=>by cases h),(fun f sp h=>qv f sp h),(fun f it h=>qw f it h),(fun t kt vt h=>qu t kt vt h)⟩) follows func186 (by kernel_rfl) (by kernel_rfl) (by kernel_rfl) fun _ _ h=>qz h
def qPp:EnvP:=eQ [(177,s_z177),(186,s_z186)] 31 (some [2,3]) nC (fun x=>if x=0 then some [0] else none) nP
def qPq:Code:=cO f129
def qSO:Array ResultVar:=f129.results
def s_z129:Sp:=byE qPp qPq qSO
theorem qym:gG 129 s_z129:=by
 refine qe G_stays (E:=qPp) (fn:=f129) (c:=qPq) (qb rfl qT) (fun w S hg=>⟨⟨(qc (qny w S hg) (qc (qyl w S hg) qr)),fun f sp h=>qq f sp h w S⟩,qt w S hg,(fun _ _ h=>by cases h),(fun f sp h=>qv f sp h),(fun f it h=>qw f it h),(fun t kt vt h=>qu t kt vt h)⟩) follows func129 (by kernel_rfl) (by kernel_rfl) (by kernel_rfl) fun _ _ h=>qz h
def qPr:EnvP:=eQ [(129,s_z129)] 11 (some [2]) nC nC nP
def qPs:Code:=cO f160
def qSP:Array ResultVar:=f160.results
def s_z160:Sp:=byE qPr qPs qSP
theorem qyn:gG 160 s_z160:=by
 refine qe G_stays (E:=qPr) (fn:=f160) (c:=qPs) (qb rfl qT) (fun w S hg=>⟨⟨(qc (qym w S hg) qr),fun f sp h=>qq f sp h w S⟩,qt w S hg,(fun _ _ h=>by cases h),(fun f sp h=>qv f sp h),(fun f it h=>qw f it h),(fun t kt vt h=>qu t kt vt h)⟩) follows func160 (by kernel_rfl) (by kernel_rfl) (by kernel_rfl) fun _ _ h=>qz h
def qPt:EnvP:=eQ [] 9 (some [2]) nC nC nP
def qPu:Code:=cO f211
def qSQ:Array ResultVar:=f211.results
def s_z211:Sp:=byE qPt qPu qSQ
theorem qyo:gG 211 s_z211:=by
 refine qe G_stays (E:=qPt) (fn:=f211) (c:=qPu) (qb rfl qT) (fun w S hg=>⟨⟨qr,fun f sp h=>qq f sp h w S⟩,qt w S hg,(fun _ _ h=>by cases h),(fun f sp h=>qv f sp h),(fun f it h=>qw f it h),(fun t kt vt h=>qu t kt vt h)⟩) follows func211 (by kernel_rfl) (by kernel_rfl) (by kernel_rfl) fun _ _ h=>qz h
def qPv:EnvP:=eQ [(211,s_z211)] 11 (some [2]) nC nC nP
def qPw:Code:=cO f161
def qSR:Array ResultVar:=f161.results
def s_z161:Sp:=byE qPv qPw qSR
theorem qyp:gG 161 s_z161:=by
 refine qe G_stays (E:=qPv) (fn:=f161) (c:=qPw) (qb rfl qT) (fun w S hg=>⟨⟨(qc (qyo w S hg) qr),fun f sp h=>qq f sp h w S⟩,qt w S hg,(fun _ _ h=>by cases h),(fun f sp h=>qv f sp h),(fun f it h=>qw f it h),(fun t kt vt h=>qu t kt vt h)⟩) follows func161 (by kernel_rfl) (by kernel_rfl) (by kernel_rfl) fun _ _ h=>qz h
end
end
end Go.Av
