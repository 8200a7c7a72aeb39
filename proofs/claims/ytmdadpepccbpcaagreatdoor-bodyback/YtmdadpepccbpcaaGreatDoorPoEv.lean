import Derived.Test.YtmdadpepccbpcaaGreatDoorPoEvH
import Derived.Test.YtmdadpepccbpcaaGreatDoorPoD
import Derived.Test.YtmdadpepccbpcaaGreatDoorAvE
import Derived.Test.YtmdadpepccbpcaaGreatDoorProg
import Derived.KernelRfl
namespace Go.Av
set_option linter.unusedSimpArgs false
set_option linter.unusedVariables false
section
noncomputable section
open Go.Proofs
set_option maxRecDepth 100000
set_option linter.unusedVariables false
def E_z38:EnvP:=eQ [(82,s_z82),(83,s_z83)] 29 (some [2]) (fun x=>if x=1 then some [0] else none) (fun x=>if x=0 then some [] else if x=1 then some [0] else if x=2 then some [4] else none) nP
def C_z38:Code:=cO Tryz.f38
def R_z38:Array ResultVar:=Tryz.f38.results
noncomputable def quh (K:KT):=fun s2=>K .ret (frOf [(2,dc s2)])
def qJM (n:Nat):KT:=qk 0 (E_z38.cutb 0) (kSeq (evCP E_z38 (evLP E_z38 n) (sub C_z38 [1,1])) (kFnP E_z38 R_z38))
theorem qzR (K:KT) (n:Nat):(fun s0=>evLP E_z38 n (sub C_z38 [1,0,0,0]) K (frOf [(0,da s0)]))=qoH (quh K) (K (.exit 0) (frOf [])) n:=by
 induction n
 kernel_rfl;rename_i n ih;show _=qko (quh K) (K (.exit 0) (frOf [])) (qoH (quh K) (K (.exit 0) (frOf [])) n) n;rw[← ih];kernel_rfl
theorem qMZ (n:Nat) (s0:LU) (o0:Lab):evFnP E_z38 n C_z38 R_z38 [db s0 o0]=qCc n s0:=by
 unfold qCc;rw[(Eq.trans (by kernel_rfl) (qzR (qJM n) n).symm:qoH qEt (qoI n) n=_)];kernel_rfl
theorem qzS:gG 38 s_z38:=sQ (E:=E_z38) (c:=C_z38) rfl (fC qjO (fC qBm fN)) Tryz.func38 fun avs r h=>by
 unfold s_z38 at h;split at h
 ·obtain⟨hp,rfl⟩:=yj h;exact eX (qIQ _ hp) fun n=>qMZ n _ _
 ·cases h
def qns:EnvP:=eQ [(82,s_z82)] 35 (some [2,3]) (fun x=>if x=2 then some [0,4] else none) (fun x=>if x=0 then some [4] else if x=1 then some [0,4] else if x=2 then some [] else none) nP
def qzT:Code:=cO Tryz.f147
def qJN:Array ResultVar:=Tryz.f147.results
noncomputable def qnt (K:KT):=fun s2 s3=>K .ret (frOf [(2,(db s2 (some (2,5)))),(3,dc s3)])
noncomputable def qnu (K:KT):=fun all4=>K (.exit 0) (frOf [(4,(db all4 (some (4,5))))])
def qGA (n:Nat):KT:=qk 0 (qns.cutb 0) (kSeq (evCP qns (evLP qns n) (sub qzT [1,0,1,1,1])) (kFnP qns qJN))
def qGB (s0:LU) (all4:LU):Fr:=frOf [(0,da s0),(4,(db all4 (some (4,5))))]
theorem qui (K:KT) (n:Nat):(fun s0 all4=>evLP qns n (sub qzT [1,0,1,1,0,0,0]) K (qGB s0 all4))=qia (qnt K) (qnu K) n:=by
 induction n
 kernel_rfl;rename_i n ih;show _=qgF (qnt K) (qnu K) (qia (qnt K) (qnu K) n) n;rw[← ih];kernel_rfl
theorem qJO (n:Nat) (s0:LU) (o0:Lab):evFnP qns n qzT qJN [db s0 o0]=qxJ n s0:=by
 unfold qxJ;rw[(Eq.trans (by kernel_rfl) (qui (qGA n) n).symm:qia qxa (qeP n) n=_)];kernel_rfl
theorem quj:gG 147 s_z147:=sQ (E:=qns) (c:=qzT) rfl (fC qjO fN) Tryz.func147 fun avs r h=>by
 unfold s_z147 at h;split at h
 ·obtain⟨hp,rfl⟩:=yj h;exact eX (qBI _ hp) fun n=>qJO n _ _
 ·cases h
theorem quk:gG 231 s_z231:=sY [(215,s_z215)] 16 (some [4]) (fC qlD fN) Tryz.func231 fun avs r h=>by
 unfold s_z231 at h;split at h
 ·obtain⟨hp,rfl⟩:=yj h;exact eX (qDl _ _ hp) fun n=>by kernel_rfl
 ·cases h
def qnv:EnvP:=eQ [(231,s_z231)] 10 (some [2]) (fun x=>if x=2 then some [0,3] else none) (fun x=>if x=0 then some [0] else if x=1 then some [0,3] else none) nP
def qzU:Code:=cO Tryz.f201
def qJP:Array ResultVar:=Tryz.f201.results
noncomputable def qnw (K:KT):=fun s0=>K (.exit 0) (frOf [(0,da s0)])
def qGC (n:Nat):KT:=qk 0 (qnv.cutb 0) (kSeq (evCP qnv (evLP qnv n) (sub qzU [1,1])) (kFnP qnv qJP))
def qGD (s0:LU) (s3:Int):Fr:=frOf [(0,da s0),(3,dc s3)]
theorem qul (K:KT) (n:Nat):(fun s0 s3=>evLP qnv n (sub qzU [1,0,1,0,0]) K (qGD s0 s3))=qml (qnw K) n:=by
 induction n
 kernel_rfl;rename_i n ih;show _=qqP (qnw K) (qml (qnw K) n) n;rw[← ih];kernel_rfl
theorem qJQ (n:Nat) (s0:LU) (o0:Lab):evFnP qnv n qzU qJP [db s0 o0]=qqR n s0:=by
 unfold qqR;rw[(Eq.trans (by kernel_rfl) (qul (qGC n) n).symm:qml (qqQ n) n=_)];kernel_rfl
theorem qum:gG 201 s_z201:=sQ (E:=qnv) (c:=qzU) rfl (fC quk fN) Tryz.func201 fun avs r h=>by
 unfold s_z201 at h;split at h
 ·obtain⟨hp,rfl⟩:=yj h;exact eX (qDm _ hp) fun n=>qJQ n _ _
 ·cases h
def qnx:EnvP:=eQ [(175,s_z175),(201,s_z201)] 57 (some [2,3]) (fun x=>if x=4 then some [0,4,5,6,12,13,14] else none) (fun x=>if x=0 then some [0,4,5] else if x=1 then some [0,4,5,6,12,13,14] else if x=2 then some [4] else none) nP
def qzV:Code:=cO Tryz.f148
def qJR:Array ResultVar:=Tryz.f148.results
noncomputable def qny (K:KT):=fun s0 out4 held5=>K (.exit 0) (frOf [(0,da s0),(4,(db out4 (some (4,5)))),(5,dc held5)])
noncomputable def qnz (K:KT):=fun s2 s3=>K .ret (frOf [(2,(db s2 (some (2,5)))),(3,dc s3)])
def qGE (n:Nat):KT:=qk 0 (qnx.cutb 0) (kSeq (evCP qnx (evLP qnx n) (sub qzV [1,1,1,1])) (kFnP qnx qJR))
def qGF (s0:LU) (out4:LU) (held5:Int) (many6:Int) (s12:LU) (s13:Int) (s14:Int):Fr:=frOf [(0,da s0),(4,(db out4 (some (4,5)))),(5,dc held5),(6,dc many6),(12,da s12),(13,dc s13),(14,dc s14)]
theorem qun (K:KT) (n:Nat):(fun s0 out4 held5 many6 s12 s13 s14=>evLP qnx n (sub qzV [1,1,1,0,1,0,0]) K (qGF s0 out4 held5 many6 s12 s13 s14))=qeQ (qnz K) (qny K) n:=by
 induction n
 kernel_rfl;rename_i n ih;show _=qdB (qnz K) (qny K) (qeQ (qnz K) (qny K) n) n;rw[← ih];kernel_rfl
theorem qJS (n:Nat) (s0:LU) (o0:Lab):evFnP qnx n qzV qJR [db s0 o0]=qqS n s0:=by
 unfold qqS;rw[(Eq.trans (by kernel_rfl) (qun (qGE n) n).symm:qeQ qxa (qcq n) n=_)];kernel_rfl
theorem qup:gG 148 s_z148:=sQ (E:=qnx) (c:=qzV) rfl (fC qlG (fC qum fN)) Tryz.func148 fun avs r h=>by
 unfold s_z148 at h;split at h
 ·obtain⟨hp,rfl⟩:=yj h;exact eX (qDk _ hp) fun n=>qJS n _ _
 ·cases h
theorem qzW:gG 84 s_z84:=sY [(147,s_z147),(148,s_z148)] 18 (some [1000002,3]) (fC quj (fC qup fN)) Tryz.func84 fun avs r h=>by
 unfold s_z84 at h;split at h
 ·obtain⟨hp,rfl⟩:=yj h;exact eX (qHL _ hp) fun n=>by kernel_rfl
 ·cases h
theorem qzX:gG 39 s_z39:=sY [(84,s_z84)] 11 (some [2]) (fC qzW fN) Tryz.func39 fun avs r h=>by
 unfold s_z39 at h;split at h
 ·obtain⟨hp,rfl⟩:=yj h;exact eX (qHM _ hp) fun n=>by kernel_rfl
 ·cases h
theorem qzY:gG 19 s_z19:=sZ [(37,s_z37),(38,s_z38),(39,s_z39)] 18 (some [4]) nC (fun x=>if x=0 then some [] else none) nP (fC qqb (fC qzS (fC qzX fN))) Tryz.func19 fun avs r h=>by
 unfold s_z19 at h;split at h
 ·obtain⟨hp,rfl⟩:=yj h;exact eX (qHU _ _ hp) fun n=>by kernel_rfl
 ·cases h
theorem qGG:gG 5 s_z5:=sY [(7,s_z7),(11,s_z11),(12,s_z12),(13,s_z13),(16,s_z16),(18,s_z18),(19,s_z19)] 77 (some [6]) (fC qHB (fC qqd (fC qjN (fC qjS (fC qBg (fC qBk (fC qzY fN))))))) Tryz.func5 fun avs r h=>by
 unfold s_z5 at h;split at h
 ·obtain⟨hp,rfl⟩:=yj h;exact eX (qLK _ _ _ hp) fun n=>by kernel_rfl
 ·cases h
end
end
end Go.Av
