import Derived.Test.YtmdadpepccbpcaaGreatDoorPoEvF
import Derived.Test.YtmdadpepccbpcaaGreatDoorPoD
import Derived.Test.YtmdadpepccbpcaaGreatDoorAvE
import Derived.Test.YtmdadpepccbpcaaGreatDoorProg
import Derived.KernelRfl
namespace Go.Av
set_option linter.unusedSimpArgs false
set_option linter.unusedVariables false
section
noncomputable section
open Go.Proofs
set_option maxRecDepth 100000
set_option linter.unusedVariables false
theorem qvR:gG 224 s_z224:=sY [(161,s_z161)] 6 (some [2]) (fC qht fN) Tryz.func224 fun avs r h=>by
 unfold s_z224 at h;split at h <;> cases h
 exact eX (qCQ _) fun n=>by kernel_rfl
def qoe:EnvP:=eQ [(224,s_z224)] 19 (some [4]) (fun x=>if x=2 then some [0,1,7,8] else none) (fun x=>if x=0 then some [] else if x=1 then some [0,1,7,8] else none) nP
def qAO:Code:=cO Tryz.f223
def qLh:Array ResultVar:=Tryz.f223.results
noncomputable def qof (K:KT):=fun s4=>K .ret (frOf [(4,dc s4)])
def qHu (n:Nat):KT:=qk 0 (qoe.cutb 0) (kSeq (evCP qoe (evLP qoe n) (sub qAO [1,1])) (kFnP qoe qLh))
def qHv (s0:LI) (s7:Int) (s8:Int):Fr:=frOf [(0,(.dat (.sl (.int .i32)) s0 none)),(1,(.fn 224 [])),(7,dc s7),(8,dc s8)]
theorem qvS (K:KT) (n:Nat):(fun s0 s7 s8=>evLP qoe n (sub qAO [1,0,1,0,0]) K (qHv s0 s7 s8))=qiP (qof K) (K (.exit 0) (frOf [])) n:=by
 induction n
 kernel_rfl;rename_i n ih;show _=qdy (qof K) (K (.exit 0) (frOf [])) (qiP (qof K) (K (.exit 0) (frOf [])) n) n;rw[← ih];kernel_rfl
theorem qLi (n:Nat) (s0:LI) (o0:Lab):evFnP qoe n qAO qLh [.dat (.sl (.int .i32)) s0 o0,.fn 224 []]=qqL n s0:=by
 unfold qqL;rw[(Eq.trans (by kernel_rfl) (qvS (qHu n) n).symm:qiP qEt (qkh n) n=_)];kernel_rfl
theorem qvT:gG 223 s_z223:=sQ (E:=qoe) (c:=qAO) rfl (fC qvR fN) Tryz.func223 fun avs r h=>by
 unfold s_z223 at h;split at h
 ·obtain⟨hp,rfl⟩:=yj h;exact eX (qDi _ hp) fun n=>qLi n _ _
 ·cases h
theorem qvU:gG 183 s_z183:=sY [(223,s_z223)] 5 (some [2]) (fC qvT fN) Tryz.func183 fun avs r h=>by
 unfold s_z183 at h;split at h
 ·obtain⟨hp,rfl⟩:=yj h;exact eX (qCV _ hp) fun n=>by kernel_rfl
 ·cases h
theorem qvV:gG 125 s_z125:=sY [(183,s_z183)] 6 (some [2]) (fC qvU fN) Tryz.func125 fun avs r h=>by
 unfold s_z125 at h;split at h
 ·obtain⟨hp,rfl⟩:=yj h;exact eX (qCW _ hp) fun n=>by kernel_rfl
 ·cases h
theorem qvW:gG 184 s_z184:=sZ [(161,s_z161)] 16 (some [2]) nC (fun x=>if x=0 then some [] else none) nP (fC qht fN) Tryz.func184 fun avs r h=>by
 unfold s_z184 at h;split at h <;> cases h
 exact eX (qCX _) fun n=>by kernel_rfl
theorem qvX:gG 126 s_z126:=sZ [(153,s_z153),(184,s_z184),(185,s_z185)] 56 (some [4,5]) nC (fun x=>if x=0 then some [7] else if x=1 then some [1,7] else if x=2 then some [1,7] else if x=3 then some [1,7] else none) nP (fC qhr (fC qvW (fC qlJ fN))) Tryz.func126 fun avs r h=>by
 unfold s_z126 at h;split at h
 ·obtain⟨hp,rfl⟩:=yj h;exact eX (qCY _ _ hp) fun n=>by kernel_rfl
 ·cases h
def E_z67:EnvP:=eQ [(125,s_z125),(126,s_z126)] 28 (some [2,3]) (fun x=>if x=5 then some [4,12,13,14] else none) (fun x=>if x=0 then some [4] else if x=1 then some [4,12,13,14] else none) nP
def C_z67:Code:=cO Tryz.f67
def R_z67:Array ResultVar:=Tryz.f67.results
noncomputable def qvY (K:KT):=fun out4=>K (.exit 0) (frOf [(4,(db out4 (some (4,5))))])
def qLj (n:Nat):KT:=qk 0 (E_z67.cutb 0) (kSeq (evCP E_z67 (evLP E_z67 n) (sub C_z67 [1,1,1,1])) (kFnP E_z67 R_z67))
def qLk (out4:LU) (s12:LI) (s13:Int) (s14:Int):Fr:=frOf [(4,(db out4 (some (4,5)))),(12,(.dat (.sl (.int .i32)) s12 none)),(13,dc s13),(14,dc s14)]
theorem qAP (K:KT) (n:Nat):(fun out4 s12 s13 s14=>evLP E_z67 n (sub C_z67 [1,1,1,0,1,0,0]) K (qLk out4 s12 s13 s14))=qsq (qvY K) n:=by
 induction n
 kernel_rfl;rename_i n ih;show _=qfB (qvY K) (qsq (qvY K) n) n;rw[← ih];kernel_rfl
theorem qNB (n:Nat) (t0:LI) (o0:Lab):evFnP E_z67 n C_z67 R_z67 [.dat (.sl (.int .i32)) t0 o0]=qBV n t0:=by
 unfold qBV;rw[(Eq.trans (by kernel_rfl) (qAP (qLj n) n).symm:qsq (qki n) n=_)];kernel_rfl
theorem qAQ:gG 67 s_z67:=sQ (E:=E_z67) (c:=C_z67) rfl (fC qvV (fC qvX fN)) Tryz.func67 fun avs r h=>by
 unfold s_z67 at h;split at h
 ·obtain⟨hp,rfl⟩:=yj h;exact eX (qIF _ hp) fun n=>qNB n _ _
 ·cases h
def E_z68:EnvP:=eQ [(127,s_z127)] 28 (some [2,3]) (fun x=>if x=3 then some [4,9,10,11] else none) (fun x=>if x=0 then some [4] else if x=1 then some [4,9,10,11] else none) nP
def C_z68:Code:=cO Tryz.f68
def R_z68:Array ResultVar:=Tryz.f68.results
noncomputable def qvZ (K:KT):=fun s2 s3=>K .ret (frOf [(2,(db s2 (some (2,5)))),(3,dc s3)])
noncomputable def qwa (K:KT):=fun s4=>K (.exit 0) (frOf [(4,(db s4 (some (4,5))))])
def qLl (n:Nat):KT:=qk 0 (E_z68.cutb 0) (kSeq (evCP E_z68 (evLP E_z68 n) (sub C_z68 [1,1,1])) (kFnP E_z68 R_z68))
def qLm (s4:LU) (s9:LI) (s10:Int) (s11:Int):Fr:=frOf [(4,(db s4 (some (4,5)))),(9,(.dat (.sl (.int .i32)) s9 none)),(10,dc s10),(11,dc s11)]
theorem qAR (K:KT) (n:Nat):(fun s4 s9 s10 s11=>evLP E_z68 n (sub C_z68 [1,1,0,1,0,0]) K (qLm s4 s9 s10 s11))=qsr (qvZ K) (qwa K) n:=by
 induction n
 kernel_rfl;rename_i n ih;show _=qfC (qvZ K) (qwa K) (qsr (qvZ K) (qwa K) n) n;rw[← ih];kernel_rfl
theorem qNC (n:Nat) (t0:LI) (o0:Lab):evFnP E_z68 n C_z68 R_z68 [.dat (.sl (.int .i32)) t0 o0]=qBW n t0:=by
 unfold qBW;rw[(Eq.trans (by kernel_rfl) (qAR (qLl n) n).symm:qsr qxa (qkj n) n=_)];kernel_rfl
theorem qAS:gG 68 s_z68:=sQ (E:=E_z68) (c:=C_z68) rfl (fC qlQ fN) Tryz.func68 fun avs r h=>by
 unfold s_z68 at h;split at h
 ·obtain⟨hp,rfl⟩:=yj h;exact eX (qID _ hp) fun n=>qNC n _ _
 ·cases h
def qog:EnvP:=eQ [(160,s_z160)] 17 (some [2]) (fun x=>if x=2 then some [5,6,7] else none) (fun x=>if x=0 then some [] else if x=1 then some [5,6,7] else none) nP
def qAT:Code:=cO Tryz.f128
def qLn:Array ResultVar:=Tryz.f128.results
noncomputable def qoh (K:KT):=fun s2=>K .ret (frOf [(2,dc s2)])
def qHw (n:Nat):KT:=qk 0 (qog.cutb 0) (kSeq (evCP qog (evLP qog n) (sub qAT [1,1])) (kFnP qog qLn))
def qHx (s5:LI) (s6:Int) (s7:Int):Fr:=frOf [(5,(.dat (.sl (.int .i32)) s5 none)),(6,dc s6),(7,dc s7)]
theorem qwb (K:KT) (n:Nat):(fun s5 s6 s7=>evLP qog n (sub qAT [1,0,1,0,0]) K (qHx s5 s6 s7))=qiR (qoh K) (K (.exit 0) (frOf [])) n:=by
 induction n
 kernel_rfl;rename_i n ih;show _=qdz (qoh K) (K (.exit 0) (frOf [])) (qiR (qoh K) (K (.exit 0) (frOf [])) n) n;rw[← ih];kernel_rfl
theorem qLo (n:Nat) (t0:LI) (o0:Lab):evFnP qog n qAT qLn [.dat (.sl (.int .i32)) t0 o0]=qqM n t0:=by
 unfold qqM;rw[(Eq.trans (by kernel_rfl) (qwb (qHw n) n).symm:qiR qEt (qkk n) n=_)];kernel_rfl
theorem qwc:gG 128 s_z128:=sQ (E:=qog) (c:=qAT) rfl (fC qlS fN) Tryz.func128 fun avs r h=>by
 unfold s_z128 at h;split at h
 ·obtain⟨hp,rfl⟩:=yj h;exact eX (qCS _ hp) fun n=>qLo n _ _
 ·cases h
def E_z69:EnvP:=eQ [(128,s_z128),(129,s_z129)] 32 (some [2,3]) (fun x=>if x=5 then some [4,15,16,17] else none) (fun x=>if x=0 then some [4] else if x=1 then some [4,15,16,17] else none) nP
def C_z69:Code:=cO Tryz.f69
def R_z69:Array ResultVar:=Tryz.f69.results
noncomputable def qwd (K:KT):=fun s4=>K (.exit 0) (frOf [(4,(db s4 (some (4,5))))])
def qLp (n:Nat):KT:=qk 0 (E_z69.cutb 0) (kSeq (evCP E_z69 (evLP E_z69 n) (sub C_z69 [1,1,1,1])) (kFnP E_z69 R_z69))
def qLq (s4:LU) (s15:LI) (s16:Int) (s17:Int):Fr:=frOf [(4,(db s4 (some (4,5)))),(15,(.dat (.sl (.int .i32)) s15 none)),(16,dc s16),(17,dc s17)]
theorem qAU (K:KT) (n:Nat):(fun s4 s15 s16 s17=>evLP E_z69 n (sub C_z69 [1,1,1,0,1,0,0]) K (qLq s4 s15 s16 s17))=qss (qwd K) n:=by
 induction n
 kernel_rfl;rename_i n ih;show _=qfD (qwd K) (qss (qwd K) n) n;rw[← ih];kernel_rfl
theorem qND (n:Nat) (t0:LI) (o0:Lab):evFnP E_z69 n C_z69 R_z69 [.dat (.sl (.int .i32)) t0 o0]=qBX n t0:=by
 unfold qBX;rw[(Eq.trans (by kernel_rfl) (qAU (qLp n) n).symm:qss (qkl n) n=_)];kernel_rfl
theorem qAV:gG 69 s_z69:=sQ (E:=E_z69) (c:=C_z69) rfl (fC qwc (fC qlR fN)) Tryz.func69 fun avs r h=>by
 unfold s_z69 at h;split at h
 ·obtain⟨hp,rfl⟩:=yj h;exact eX (qIE _ hp) fun n=>qND n _ _
 ·cases h
def qoi:EnvP:=eQ [(158,s_z158)] 17 (some [2]) (fun x=>if x=2 then some [0,5,6] else none) (fun x=>if x=0 then some [] else if x=1 then some [0,5,6] else none) nP
def qAW:Code:=cO Tryz.f130
def qLr:Array ResultVar:=Tryz.f130.results
noncomputable def qoj (K:KT):=fun s2=>K .ret (frOf [(2,dc s2)])
def qHy (n:Nat):KT:=qk 0 (qoi.cutb 0) (kSeq (evCP qoi (evLP qoi n) (sub qAW [1,1])) (kFnP qoi qLr))
def qHz (t0:LI) (s5:Int) (s6:Int):Fr:=frOf [(0,(.dat (.sl (.int .i32)) t0 none)),(5,dc s5),(6,dc s6)]
theorem qwe (K:KT) (n:Nat):(fun t0 s5 s6=>evLP qoi n (sub qAW [1,0,1,0,0]) K (qHz t0 s5 s6))=qiS (qoj K) (K (.exit 0) (frOf [])) n:=by
 induction n
 kernel_rfl;rename_i n ih;show _=qdA (qoj K) (K (.exit 0) (frOf [])) (qiS (qoj K) (K (.exit 0) (frOf [])) n) n;rw[← ih];kernel_rfl
theorem qLs (n:Nat) (t0:LI) (o0:Lab):evFnP qoi n qAW qLr [.dat (.sl (.int .i32)) t0 o0]=qqN n t0:=by
 unfold qqN;rw[(Eq.trans (by kernel_rfl) (qwe (qHy n) n).symm:qiS qEt (qkm n) n=_)];kernel_rfl
theorem qwf:gG 130 s_z130:=sQ (E:=qoi) (c:=qAW) rfl (fC qlP fN) Tryz.func130 fun avs r h=>by
 unfold s_z130 at h;split at h
 ·obtain⟨hp,rfl⟩:=yj h;exact eX (qCT _ hp) fun n=>qLs n _ _
 ·cases h
def E_z70:EnvP:=eQ [(130,s_z130)] 27 (some [2,3]) (fun x=>if x=5 then some [4,13,14,15] else none) (fun x=>if x=0 then some [4] else if x=1 then some [4,13,14,15] else none) (fun x=>if x=12 then some (.psl 5 (.leaf .byte)) else none)
def C_z70:Code:=cO Tryz.f70
def R_z70:Array ResultVar:=Tryz.f70.results
noncomputable def qwg (K:KT):=fun s4=>K (.exit 0) (frOf [(4,(.pv (.psl 5 (.leaf .byte)) s4 none))])
def qLt (n:Nat):KT:=qk 0 (E_z70.cutb 0) (kSeq (evCP E_z70 (evLP E_z70 n) (sub C_z70 [1,1,1,1])) (kFnP E_z70 R_z70))
def qLu (s4:LU) (s13:LI) (s14:Int) (s15:Int):Fr:=frOf [(4,(.pv (.psl 5 (.leaf .byte)) s4 none)),(13,(.dat (.sl (.int .i32)) s13 none)),(14,dc s14),(15,dc s15)]
theorem qAX (K:KT) (n:Nat):(fun s4 s13 s14 s15=>evLP E_z70 n (sub C_z70 [1,1,1,0,1,0,0]) K (qLu s4 s13 s14 s15))=qmh (qwg K) n:=by
 induction n
 kernel_rfl;rename_i n ih;show _=qfE (qwg K) (qmh (qwg K) n) n;rw[← ih];kernel_rfl
theorem qNE (n:Nat) (t0:LI) (o0:Lab):evFnP E_z70 n C_z70 R_z70 [.dat (.sl (.int .i32)) t0 o0]=qBY n t0:=by
 unfold qBY;rw[(Eq.trans (by kernel_rfl) (qAX (qLt n) n).symm:qmh (qkn n) n=_)];kernel_rfl
theorem qAY:gG 70 s_z70:=sQ (E:=E_z70) (c:=C_z70) rfl (fC qwf fN) Tryz.func70 fun avs r h=>by
 unfold s_z70 at h;split at h
 ·obtain⟨hp,rfl⟩:=yj h;exact eX (qIA _ hp) fun n=>qNE n _ _
 ·cases h
end
end
end Go.Av
