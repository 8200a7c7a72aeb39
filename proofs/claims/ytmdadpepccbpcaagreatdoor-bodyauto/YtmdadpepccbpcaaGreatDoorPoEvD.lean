import Derived.Test.YtmdadpepccbpcaaGreatDoorPoEvC
import Derived.Test.YtmdadpepccbpcaaGreatDoorPoD
import Derived.Test.YtmdadpepccbpcaaGreatDoorAvE
import Derived.Test.YtmdadpepccbpcaaGreatDoorProg
import Derived.KernelRfl
namespace Go.Av
set_option linter.unusedSimpArgs false
set_option linter.unusedVariables false
section
noncomputable section
open Go.Proofs
set_option maxRecDepth 100000
set_option linter.unusedVariables false
theorem qAd:gG 159 s_z159:=sY [(127,s_z127)] 11 (some [2]) (fC qoy fN) Tryz.func159 fun avs r h=>by
 unfold s_z159 at h;split at h <;> cases h
 exact eX (qJt _)
def qqV:EnvP:=eQ [] 19 (some [4]) (fun x=>if x=2 then some [0,1,7,8] else none) (fun x=>if x=0 then some [] else if x=1 then some [0,1,7,8] else none) nP
def qGm:Code:=cO Tryz.f186
def qTb:Array ResultVar:=Tryz.f186.results
noncomputable def qqW (K:KT):=fun s4=>K .ret (frOf [(4,dc s4)])
def qNY (n:Nat):KT:=qf 0 (qqV.cutb 0) (kSeq (evCP qqV (evLP qqV n) (sub qGm [1,1])) (kFnP qqV qTb))
def qNZ (s0:LI) (v1:Int) (s7:Int) (s8:Int):Fr:=frOf [(0,(.dat (.sl (.int .i32)) s0 none)),(1,di v1),(7,dc s7),(8,dc s8)]
theorem qAe (K:KT) (n:Nat):(fun s0 v1 s7 s8=>evLP qqV n (sub qGm [1,0,1,0,0]) K (qNZ s0 v1 s7 s8))=qkF (qqW K) (K (.exit 0) (frOf [])) n:=by
 induction n
 kernel_rfl;rename_i n ih;show _=qek (qqW K) (K (.exit 0) (frOf [])) (qkF (qqW K) (K (.exit 0) (frOf [])) n) n;rw[← ih];kernel_rfl
theorem qTc (n:Nat) (s0:LI) (o0:Lab) (v1:Int) (o1:Lab):evFnP qqV n qGm qTb [.dat (.sl (.int .i32)) s0 o0,dm v1 o1]=qun n s0 v1:=by
 unfold qun;rw[(Eq.trans (by kernel_rfl) (qAe (qNY n) n).symm:qkF qKR (qmq n) n=_)];kernel_rfl
theorem qAf:gG 186 s_z186:=sQ (E:=qqV) (c:=qGm) rfl fN Tryz.func186 fun avs r h=>by
 unfold s_z186 at h;split at h
 ·obtain⟨hp,rfl⟩:=yj h;exact eX (qJk _ _ hp) fun n=>qTc n _ _ _ _
 ·cases h
theorem qoz:gG 129 s_z129:=sZ [(177,s_z177),(186,s_z186)] 31 (some [2,3]) nC (fun x=>if x=0 then some [0] else none) nP (fC qoq (fC qAf fN)) Tryz.func129 fun avs r h=>by
 unfold s_z129 at h;split at h <;> cases h
 exact eX (qJu _)
theorem qoA:gG 160 s_z160:=sY [(129,s_z129)] 11 (some [2]) (fC qoz fN) Tryz.func160 fun avs r h=>by
 unfold s_z160 at h;split at h <;> cases h
 exact eX (qJv _)
theorem qAg:gG 211 s_z211:=sY [] 9 (some [2]) fN Tryz.func211 fun avs r h=>by
 unfold s_z211 at h;split at h <;> cases h
 exact eX (qJh _)
theorem qiY:gG 161 s_z161:=sY [(211,s_z211)] 11 (some [2]) (fC qAg fN) Tryz.func161 fun avs r h=>by
 unfold s_z161 at h;split at h <;> cases h
 exact eX (qJi _)
theorem qoB:gG 105 s_z105:=sZ [(158,s_z158),(159,s_z159),(160,s_z160),(161,s_z161)] 30 (some [4]) nC (fun x=>if x=0 then some [] else none) nP (fC qox (fC qAd (fC qoA (fC qiY fN)))) Tryz.func105 fun avs r h=>by
 unfold s_z105 at h;split at h <;> cases h
 exact eX (qJx _ _)
def qqX:EnvP:=eQ [(105,s_z105)] 20 (some [4]) (fun x=>if x=2 then some [0,7,8,9] else none) (fun x=>if x=0 then some [] else if x=1 then some [0,7,8,9] else none) nP
def qGn:Code:=cO Tryz.f124
def qTd:Array ResultVar:=Tryz.f124.results
noncomputable def qqY (K:KT):=fun s4=>K .ret (frOf [(4,dc s4)])
def qOa (n:Nat):KT:=qf 0 (qqX.cutb 0) (kSeq (evCP qqX (evLP qqX n) (sub qGn [1,1])) (kFnP qqX qTd))
def qOb (charset0:Int) (s7:LI) (s8:Int) (s9:Int):Fr:=frOf [(0,dc charset0),(7,(.dat (.sl (.int .i32)) s7 none)),(8,dc s8),(9,dc s9)]
theorem qAh (K:KT) (n:Nat):(fun charset0 s7 s8 s9=>evLP qqX n (sub qGn [1,0,1,0,0]) K (qOb charset0 s7 s8 s9))=qkG (qqY K) (K (.exit 0) (frOf [])) n:=by
 induction n
 kernel_rfl;rename_i n ih;show _=qel (qqY K) (K (.exit 0) (frOf [])) (qkG (qqY K) (K (.exit 0) (frOf [])) n) n;rw[← ih];kernel_rfl
theorem qTe (n:Nat) (charset0:Int) (o0:Lab) (t1:LI) (o1:Lab):evFnP qqX n qGn qTd [de charset0 o0,.dat (.sl (.int .i32)) t1 o1]=qup n charset0 t1:=by
 unfold qup;rw[(Eq.trans (by kernel_rfl) (qAh (qOa n) n).symm:qkG qKR (qmr n) n=_)];kernel_rfl
theorem qAi:gG 124 s_z124:=sQ (E:=qqX) (c:=qGn) rfl (fC qoB fN) Tryz.func124 fun avs r h=>by
 unfold s_z124 at h;split at h
 ·obtain⟨hp,rfl⟩:=yj h;exact eX (qJn _ _ hp) fun n=>qTe n _ _ _ _
 ·cases h
theorem qGo:gG 66 s_z66:=sY [(65,s_z65),(124,s_z124)] 14 (some [4]) (fC qtA (fC qAi fN)) Tryz.func66 fun avs r h=>by
 unfold s_z66 at h;split at h
 ·obtain⟨hp,rfl⟩:=yj h;exact eX (qPW _ _ hp)
 ·cases h
theorem qAj:gG 224 s_z224:=sY [(161,s_z161)] 6 (some [2]) (fC qiY fN) Tryz.func224 fun avs r h=>by
 unfold s_z224 at h;split at h <;> cases h
 exact eX (qJj _)
def qqZ:EnvP:=eQ [(224,s_z224)] 19 (some [4]) (fun x=>if x=2 then some [0,1,7,8] else none) (fun x=>if x=0 then some [] else if x=1 then some [0,1,7,8] else none) nP
def qGp:Code:=cO Tryz.f223
def qTf:Array ResultVar:=Tryz.f223.results
noncomputable def qra (K:KT):=fun s4=>K .ret (frOf [(4,dc s4)])
def qOc (n:Nat):KT:=qf 0 (qqZ.cutb 0) (kSeq (evCP qqZ (evLP qqZ n) (sub qGp [1,1])) (kFnP qqZ qTf))
def qOd (s0:LI) (s7:Int) (s8:Int):Fr:=frOf [(0,(.dat (.sl (.int .i32)) s0 none)),(1,(.fn 224 [])),(7,dc s7),(8,dc s8)]
theorem qAk (K:KT) (n:Nat):(fun s0 s7 s8=>evLP qqZ n (sub qGp [1,0,1,0,0]) K (qOd s0 s7 s8))=qkH (qra K) (K (.exit 0) (frOf [])) n:=by
 induction n
 kernel_rfl;rename_i n ih;show _=qem (qra K) (K (.exit 0) (frOf [])) (qkH (qra K) (K (.exit 0) (frOf [])) n) n;rw[← ih];kernel_rfl
theorem qTg (n:Nat) (s0:LI) (o0:Lab):evFnP qqZ n qGp qTf [.dat (.sl (.int .i32)) s0 o0,.fn 224 []]=quq n s0:=by
 unfold quq;rw[(Eq.trans (by kernel_rfl) (qAk (qOc n) n).symm:qkH qKR (qms n) n=_)];kernel_rfl
theorem qAl:gG 223 s_z223:=sQ (E:=qqZ) (c:=qGp) rfl (fC qAj fN) Tryz.func223 fun avs r h=>by
 unfold s_z223 at h;split at h
 ·obtain⟨hp,rfl⟩:=yj h;exact eX (qJN _ hp) fun n=>qTg n _ _
 ·cases h
theorem qAm:gG 183 s_z183:=sY [(223,s_z223)] 5 (some [2]) (fC qAl fN) Tryz.func183 fun avs r h=>by
 unfold s_z183 at h;split at h
 ·obtain⟨hp,rfl⟩:=yj h;exact eX (qJo _ hp)
 ·cases h
theorem qAn:gG 125 s_z125:=sY [(183,s_z183)] 6 (some [2]) (fC qAm fN) Tryz.func125 fun avs r h=>by
 unfold s_z125 at h;split at h
 ·obtain⟨hp,rfl⟩:=yj h;exact eX (qJp _ hp)
 ·cases h
theorem qAo:gG 184 s_z184:=sZ [(161,s_z161)] 16 (some [2]) nC (fun x=>if x=0 then some [] else none) nP (fC qiY fN) Tryz.func184 fun avs r h=>by
 unfold s_z184 at h;split at h <;> cases h
 exact eX (qJq _)
theorem qAp:gG 126 s_z126:=sZ [(153,s_z153),(184,s_z184),(185,s_z185)] 56 (some [4,5]) nC (fun x=>if x=0 then some [7] else if x=1 then some [1,7] else if x=2 then some [1,7] else if x=3 then some [1,7] else none) nP (fC qiX (fC qAo (fC qor fN))) Tryz.func126 fun avs r h=>by
 unfold s_z126 at h;split at h
 ·obtain⟨hp,rfl⟩:=yj h;exact eX (qJr _ _ hp)
 ·cases h
def E_z67:EnvP:=eQ [(125,s_z125),(126,s_z126)] 28 (some [2,3]) (fun x=>if x=5 then some [4,12,13,14] else none) (fun x=>if x=0 then some [4] else if x=1 then some [4,12,13,14] else none) nP
def C_z67:Code:=cO Tryz.f67
def R_z67:Array ResultVar:=Tryz.f67.results
noncomputable def qAq (K:KT):=fun out4=>K (.exit 0) (frOf [(4,(db out4 (some (4,5))))])
def qTh (n:Nat):KT:=qf 0 (E_z67.cutb 0) (kSeq (evCP E_z67 (evLP E_z67 n) (sub C_z67 [1,1,1,1])) (kFnP E_z67 R_z67))
def qTi (out4:LU) (s12:LI) (s13:Int) (s14:Int):Fr:=frOf [(4,(db out4 (some (4,5)))),(12,(.dat (.sl (.int .i32)) s12 none)),(13,dc s13),(14,dc s14)]
theorem qGq (K:KT) (n:Nat):(fun out4 s12 s13 s14=>evLP E_z67 n (sub C_z67 [1,1,1,0,1,0,0]) K (qTi out4 s12 s13 s14))=qwx (qAq K) n:=by
 induction n
 kernel_rfl;rename_i n ih;show _=qgI (qAq K) (qwx (qAq K) n) n;rw[← ih];kernel_rfl
theorem qWL (n:Nat) (t0:LI) (o0:Lab):evFnP E_z67 n C_z67 R_z67 [.dat (.sl (.int .i32)) t0 o0]=qHR n t0:=by
 unfold qHR;rw[(Eq.trans (by kernel_rfl) (qGq (qTh n) n).symm:qwx (qmt n) n=_)];kernel_rfl
theorem qGr:gG 67 s_z67:=sQ (E:=E_z67) (c:=C_z67) rfl (fC qAn (fC qAp fN)) Tryz.func67 fun avs r h=>by
 unfold s_z67 at h;split at h
 ·obtain⟨hp,rfl⟩:=yj h;exact eX (qPZ _ hp) fun n=>qWL n _ _
 ·cases h
def E_z68:EnvP:=eQ [(127,s_z127)] 28 (some [2,3]) (fun x=>if x=3 then some [4,9,10,11] else none) (fun x=>if x=0 then some [4] else if x=1 then some [4,9,10,11] else none) nP
def C_z68:Code:=cO Tryz.f68
def R_z68:Array ResultVar:=Tryz.f68.results
noncomputable def qAr (K:KT):=fun s2 s3=>K .ret (frOf [(2,(db s2 (some (2,5)))),(3,dc s3)])
noncomputable def qAs (K:KT):=fun s4=>K (.exit 0) (frOf [(4,(db s4 (some (4,5))))])
def qTj (n:Nat):KT:=qf 0 (E_z68.cutb 0) (kSeq (evCP E_z68 (evLP E_z68 n) (sub C_z68 [1,1,1])) (kFnP E_z68 R_z68))
def qTk (s4:LU) (s9:LI) (s10:Int) (s11:Int):Fr:=frOf [(4,(db s4 (some (4,5)))),(9,(.dat (.sl (.int .i32)) s9 none)),(10,dc s10),(11,dc s11)]
theorem qGs (K:KT) (n:Nat):(fun s4 s9 s10 s11=>evLP E_z68 n (sub C_z68 [1,1,0,1,0,0]) K (qTk s4 s9 s10 s11))=qwy (qAr K) (qAs K) n:=by
 induction n
 kernel_rfl;rename_i n ih;show _=qgJ (qAr K) (qAs K) (qwy (qAr K) (qAs K) n) n;rw[← ih];kernel_rfl
theorem qWM (n:Nat) (t0:LI) (o0:Lab):evFnP E_z68 n C_z68 R_z68 [.dat (.sl (.int .i32)) t0 o0]=qHS n t0:=by
 unfold qHS;rw[(Eq.trans (by kernel_rfl) (qGs (qTj n) n).symm:qwy qBM (qmu n) n=_)];kernel_rfl
theorem qGt:gG 68 s_z68:=sQ (E:=E_z68) (c:=C_z68) rfl (fC qoy fN) Tryz.func68 fun avs r h=>by
 unfold s_z68 at h;split at h
 ·obtain⟨hp,rfl⟩:=yj h;exact eX (qPX _ hp) fun n=>qWM n _ _
 ·cases h
def qrb:EnvP:=eQ [(160,s_z160)] 17 (some [2]) (fun x=>if x=2 then some [5,6,7] else none) (fun x=>if x=0 then some [] else if x=1 then some [5,6,7] else none) nP
def qGu:Code:=cO Tryz.f128
def qTl:Array ResultVar:=Tryz.f128.results
noncomputable def qrc (K:KT):=fun s2=>K .ret (frOf [(2,dc s2)])
def qOe (n:Nat):KT:=qf 0 (qrb.cutb 0) (kSeq (evCP qrb (evLP qrb n) (sub qGu [1,1])) (kFnP qrb qTl))
def qOf (s5:LI) (s6:Int) (s7:Int):Fr:=frOf [(5,(.dat (.sl (.int .i32)) s5 none)),(6,dc s6),(7,dc s7)]
theorem qAt (K:KT) (n:Nat):(fun s5 s6 s7=>evLP qrb n (sub qGu [1,0,1,0,0]) K (qOf s5 s6 s7))=qkJ (qrc K) (K (.exit 0) (frOf [])) n:=by
 induction n
 kernel_rfl;rename_i n ih;show _=qen (qrc K) (K (.exit 0) (frOf [])) (qkJ (qrc K) (K (.exit 0) (frOf [])) n) n;rw[← ih];kernel_rfl
theorem qTm (n:Nat) (t0:LI) (o0:Lab):evFnP qrb n qGu qTl [.dat (.sl (.int .i32)) t0 o0]=qur n t0:=by
 unfold qur;rw[(Eq.trans (by kernel_rfl) (qAt (qOe n) n).symm:qkJ qKR (qmv n) n=_)];kernel_rfl
theorem qAu:gG 128 s_z128:=sQ (E:=qrb) (c:=qGu) rfl (fC qoA fN) Tryz.func128 fun avs r h=>by
 unfold s_z128 at h;split at h
 ·obtain⟨hp,rfl⟩:=yj h;exact eX (qJl _ hp) fun n=>qTm n _ _
 ·cases h
def E_z69:EnvP:=eQ [(128,s_z128),(129,s_z129)] 32 (some [2,3]) (fun x=>if x=5 then some [4,15,16,17] else none) (fun x=>if x=0 then some [4] else if x=1 then some [4,15,16,17] else none) nP
def C_z69:Code:=cO Tryz.f69
def R_z69:Array ResultVar:=Tryz.f69.results
noncomputable def qAv (K:KT):=fun s4=>K (.exit 0) (frOf [(4,(db s4 (some (4,5))))])
def qTn (n:Nat):KT:=qf 0 (E_z69.cutb 0) (kSeq (evCP E_z69 (evLP E_z69 n) (sub C_z69 [1,1,1,1])) (kFnP E_z69 R_z69))
def qTo (s4:LU) (s15:LI) (s16:Int) (s17:Int):Fr:=frOf [(4,(db s4 (some (4,5)))),(15,(.dat (.sl (.int .i32)) s15 none)),(16,dc s16),(17,dc s17)]
theorem qGv (K:KT) (n:Nat):(fun s4 s15 s16 s17=>evLP E_z69 n (sub C_z69 [1,1,1,0,1,0,0]) K (qTo s4 s15 s16 s17))=qwz (qAv K) n:=by
 induction n
 kernel_rfl;rename_i n ih;show _=qgK (qAv K) (qwz (qAv K) n) n;rw[← ih];kernel_rfl
theorem qWN (n:Nat) (t0:LI) (o0:Lab):evFnP E_z69 n C_z69 R_z69 [.dat (.sl (.int .i32)) t0 o0]=qHT n t0:=by
 unfold qHT;rw[(Eq.trans (by kernel_rfl) (qGv (qTn n) n).symm:qwz (qmw n) n=_)];kernel_rfl
theorem qGw:gG 69 s_z69:=sQ (E:=E_z69) (c:=C_z69) rfl (fC qAu (fC qoz fN)) Tryz.func69 fun avs r h=>by
 unfold s_z69 at h;split at h
 ·obtain⟨hp,rfl⟩:=yj h;exact eX (qPY _ hp) fun n=>qWN n _ _
 ·cases h
def qrd:EnvP:=eQ [(158,s_z158)] 17 (some [2]) (fun x=>if x=2 then some [0,5,6] else none) (fun x=>if x=0 then some [] else if x=1 then some [0,5,6] else none) nP
def qGx:Code:=cO Tryz.f130
def qTp:Array ResultVar:=Tryz.f130.results
noncomputable def qre (K:KT):=fun s2=>K .ret (frOf [(2,dc s2)])
def qOg (n:Nat):KT:=qf 0 (qrd.cutb 0) (kSeq (evCP qrd (evLP qrd n) (sub qGx [1,1])) (kFnP qrd qTp))
def qOh (t0:LI) (s5:Int) (s6:Int):Fr:=frOf [(0,(.dat (.sl (.int .i32)) t0 none)),(5,dc s5),(6,dc s6)]
theorem qAw (K:KT) (n:Nat):(fun t0 s5 s6=>evLP qrd n (sub qGx [1,0,1,0,0]) K (qOh t0 s5 s6))=qkK (qre K) (K (.exit 0) (frOf [])) n:=by
 induction n
 kernel_rfl;rename_i n ih;show _=qeo (qre K) (K (.exit 0) (frOf [])) (qkK (qre K) (K (.exit 0) (frOf [])) n) n;rw[← ih];kernel_rfl
theorem qTq (n:Nat) (t0:LI) (o0:Lab):evFnP qrd n qGx qTp [.dat (.sl (.int .i32)) t0 o0]=qus n t0:=by
 unfold qus;rw[(Eq.trans (by kernel_rfl) (qAw (qOg n) n).symm:qkK qKR (qmx n) n=_)];kernel_rfl
theorem qAx:gG 130 s_z130:=sQ (E:=qrd) (c:=qGx) rfl (fC qox fN) Tryz.func130 fun avs r h=>by
 unfold s_z130 at h;split at h
 ·obtain⟨hp,rfl⟩:=yj h;exact eX (qJm _ hp) fun n=>qTq n _ _
 ·cases h
def E_z70:EnvP:=eQ [(130,s_z130)] 27 (some [2,3]) (fun x=>if x=5 then some [4,13,14,15] else none) (fun x=>if x=0 then some [4] else if x=1 then some [4,13,14,15] else none) (fun x=>if x=12 then some (.psl 5 (.leaf .byte)) else none)
def C_z70:Code:=cO Tryz.f70
def R_z70:Array ResultVar:=Tryz.f70.results
noncomputable def qAy (K:KT):=fun s4=>K (.exit 0) (frOf [(4,(.pv (.psl 5 (.leaf .byte)) s4 none))])
def qTr (n:Nat):KT:=qf 0 (E_z70.cutb 0) (kSeq (evCP E_z70 (evLP E_z70 n) (sub C_z70 [1,1,1,1])) (kFnP E_z70 R_z70))
def qTs (s4:LU) (s13:LI) (s14:Int) (s15:Int):Fr:=frOf [(4,(.pv (.psl 5 (.leaf .byte)) s4 none)),(13,(.dat (.sl (.int .i32)) s13 none)),(14,dc s14),(15,dc s15)]
theorem qGy (K:KT) (n:Nat):(fun s4 s13 s14 s15=>evLP E_z70 n (sub C_z70 [1,1,1,0,1,0,0]) K (qTs s4 s13 s14 s15))=qpa (qAy K) n:=by
 induction n
 kernel_rfl;rename_i n ih;show _=qgL (qAy K) (qpa (qAy K) n) n;rw[← ih];kernel_rfl
theorem qWO (n:Nat) (t0:LI) (o0:Lab):evFnP E_z70 n C_z70 R_z70 [.dat (.sl (.int .i32)) t0 o0]=qHU n t0:=by
 unfold qHU;rw[(Eq.trans (by kernel_rfl) (qGy (qTr n) n).symm:qpa (qmy n) n=_)];kernel_rfl
theorem qGz:gG 70 s_z70:=sQ (E:=E_z70) (c:=C_z70) rfl (fC qAx fN) Tryz.func70 fun avs r h=>by
 unfold s_z70 at h;split at h
 ·obtain⟨hp,rfl⟩:=yj h;exact eX (qPU _ hp) fun n=>qWO n _ _
 ·cases h
theorem qGA:gG 31 s_z31:=sZ [(65,s_z65),(66,s_z66),(67,s_z67),(68,s_z68),(69,s_z69),(70,s_z70)] 38 (some [1000004,5]) nC (fun x=>if x=0 then some [0,1] else if x=1 then some [1] else none) nP (fC qtA (fC qGo (fC qGr (fC qGt (fC qGw (fC qGz fN)))))) Tryz.func31 fun avs r h=>by
 unfold s_z31 at h;split at h
 ·obtain⟨hp,rfl⟩:=yj h;exact eX (qQa _ _ hp)
 ·cases h
theorem qtB:gG 13 s_z13:=sY [(30,s_z30),(31,s_z31),(60,s_z60),(61,s_z61),(63,s_z63)] 39 (some [1000006,7]) (fC qGk (fC qGA (fC qGd (fC qGg (fC qGj fN))))) Tryz.func13 fun avs r h=>by
 unfold s_z13 at h;split at h
 ·obtain⟨hp,rfl⟩:=yj h;exact eX (qPa _ _ _ hp)
 ·cases h
def E_z49:EnvP:=eQ [(105,s_z105)] 19 (some [2]) (fun x=>if x=3 then some [0,3,5] else none) (fun x=>if x=0 then some [3] else if x=1 then some [0,3,5] else none) nP
def C_z49:Code:=cO Tryz.f49
def R_z49:Array ResultVar:=Tryz.f49.results
noncomputable def qAz (K:KT):=fun s3=>K (.exit 0) (frOf [(3,dc s3)])
def qTt (n:Nat):KT:=qf 0 (E_z49.cutb 0) (kSeq (evCP E_z49 (evLP E_z49 n) (sub C_z49 [1,1,1])) (kFnP E_z49 R_z49))
def qTu (c0:Int) (s3:Int) (s5:Int):Fr:=frOf [(0,di c0),(3,dc s3),(5,dc s5)]
theorem qGB (K:KT) (n:Nat):(fun c0 s3 s5=>evLP E_z49 n (sub C_z49 [1,1,0,1,0,0]) K (qTu c0 s3 s5))=qpb (qAz K) n:=by
 induction n
 kernel_rfl;rename_i n ih;show _=qgM (qAz K) (qpb (qAz K) n) n;rw[← ih];kernel_rfl
theorem qWP (n:Nat) (c0:Int) (o0:Lab):evFnP E_z49 n C_z49 R_z49 [dm c0 o0]=qHV n c0:=by
 unfold qHV;rw[(Eq.trans (by kernel_rfl) (qGB (qTt n) n).symm:qpb (qjC n) n=_)];kernel_rfl
theorem qGC:gG 49 s_z49:=sQ (E:=E_z49) (c:=C_z49) rfl (fC qoB fN) Tryz.func49 fun avs r h=>by
 unfold s_z49 at h;split at h <;> cases h
 exact eX (qQe _) fun n=>qWP n _ _
theorem qAA:gG 106 s_z106:=sY [(163,s_z163)] 8 (some [2]) (fC qyL fN) Tryz.func106 fun avs r h=>by
 unfold s_z106 at h;split at h
 ·obtain⟨hp,rfl⟩:=yj h;exact eX (qJy _ hp)
 ·cases h
theorem qGD:gG 50 s_z50:=sY [(106,s_z106)] 8 (some [2]) (fC qAA fN) Tryz.func50 fun avs r h=>by
 unfold s_z50 at h;split at h
 ·obtain⟨hp,rfl⟩:=yj h;exact eX (qQb _ hp)
 ·cases h
def E_z24:EnvP:=eQ [(49,s_z49),(50,s_z50)] 22 (some [2,3]) (fun x=>if x=3 then some [4,7,8,9] else none) (fun x=>if x=0 then some [4] else if x=1 then some [4,7,8,9] else none) nP
def C_z24:Code:=cO Tryz.f24
def R_z24:Array ResultVar:=Tryz.f24.results
noncomputable def qAB (K:KT):=fun all4=>K (.exit 0) (frOf [(4,dc all4)])
def qTv (n:Nat):KT:=qf 0 (E_z24.cutb 0) (kSeq (evCP E_z24 (evLP E_z24 n) (sub C_z24 [1,1,1])) (kFnP E_z24 R_z24))
def qTw (all4:Int) (s7:LI) (s8:Int) (s9:Int):Fr:=frOf [(4,dc all4),(7,(.dat (.sl (.int .i32)) s7 none)),(8,dc s8),(9,dc s9)]
theorem qGE (K:KT) (n:Nat):(fun all4 s7 s8 s9=>evLP E_z24 n (sub C_z24 [1,1,0,1,0,0]) K (qTw all4 s7 s8 s9))=qwA (qAB K) n:=by
 induction n
 kernel_rfl;rename_i n ih;show _=qgN (qAB K) (qwA (qAB K) n) n;rw[← ih];kernel_rfl
theorem qWQ (n:Nat) (t0:LI) (o0:Lab):evFnP E_z24 n C_z24 R_z24 [.dat (.sl (.int .i32)) t0 o0]=qHW n t0:=by
 unfold qHW;rw[(Eq.trans (by kernel_rfl) (qGE (qTv n) n).symm:qwA (qjD n) n=_)];kernel_rfl
theorem qGF:gG 24 s_z24:=sQ (E:=E_z24) (c:=C_z24) rfl (fC qGC (fC qGD fN)) Tryz.func24 fun avs r h=>by
 unfold s_z24 at h;split at h
 ·obtain⟨hp,rfl⟩:=yj h;exact eX (qQf _ hp) fun n=>qWQ n _ _
 ·cases h
def E_z25:EnvP:=eQ [] 26 (some [4]) (fun x=>if x=4 then some [0,1,12,13] else none) (fun x=>if x=0 then some [] else if x=1 then some [0,1,12,13] else none) nP
def C_z25:Code:=cO Tryz.f25
def R_z25:Array ResultVar:=Tryz.f25.results
noncomputable def qAC (K:KT):=fun s4=>K .ret (frOf [(4,dg s4)])
def qTx (n:Nat):KT:=qf 0 (E_z25.cutb 0) (kSeq (evCP E_z25 (evLP E_z25 n) (sub C_z25 [1,1,1])) (kFnP E_z25 R_z25))
def qTy (s10:LI) (s21:LI) (s12:Int) (s13:Int):Fr:=frOf [(0,(.dat (.sl (.int .i32)) s10 none)),(1,(.dat (.sl (.int .i32)) s21 none)),(12,dc s12),(13,dc s13)]
theorem qGG (K:KT) (n:Nat):(fun s10 s21 s12 s13=>evLP E_z25 n (sub C_z25 [1,1,0,1,0,0]) K (qTy s10 s21 s12 s13))=qpc (qAC K) (K (.exit 0) (frOf [])) n:=by
 induction n
 kernel_rfl;rename_i n ih;show _=qgO (qAC K) (K (.exit 0) (frOf [])) (qpc (qAC K) (K (.exit 0) (frOf [])) n) n;rw[← ih];kernel_rfl
theorem qWR (n:Nat) (s10:LI) (o0:Lab) (s21:LI) (o1:Lab):evFnP E_z25 n C_z25 R_z25 [.dat (.sl (.int .i32)) s10 o0,.dat (.sl (.int .i32)) s21 o1]=qHX n s10 s21:=by
 unfold qHX;rw[(Eq.trans (by kernel_rfl) (qGG (qTx n) n).symm:qpc qBy (qCv n) n=_)];kernel_rfl
theorem qGH:gG 25 s_z25:=sQ (E:=E_z25) (c:=C_z25) rfl fN Tryz.func25 fun avs r h=>by
 unfold s_z25 at h;split at h
 ·obtain⟨hp,rfl⟩:=yj h;exact eX (qOV _ _ hp) fun n=>qWR n _ _ _ _
 ·cases h
end
end
end Go.Av
