import Derived.Test.YtabdohophompiaaGreatDoorPxEvG
import Derived.Test.YtabdohophompiaaGreatDoorPxN
import Derived.Test.YtabdohophompiaaGreatDoorProg
import Derived.KernelRfl
namespace Go.Av
set_option linter.unusedSimpArgs false
noncomputable section
open Go.Proofs
set_option maxRecDepth 100000
set_option linter.unusedVariables false
def E_z38:EnvP:=eQ [(66,s_z66),(67,s_z67)] 61 (some [2]) (fun x=>if x=4 then some [0,3,4,5] else none) (fun x=>if x=0 then some [0,3,4] else if x=1 then some [0,3,4,5] else if x=2 then some [0,3,4,5] else none) nP
def C_z38:Code:=cO Tryz.f38
def R_z38:Array ResultVar:=Tryz.f38.results
noncomputable def qkk (K:Ex→Fr→Option AV):=fun s0 out3 from4=>K (.exit 0) (frOf [(0,da s0),(3,(.dat (.sl (.sl .byte)) out3 (some (3,22)))),(4,dc from4)])
def qnx (n:Nat):Ex→Fr→Option AV:=qz 0 (E_z38.cutb 0) (kSeq (evCP E_z38 (evLP E_z38 n) (sub C_z38 [1,1,1,1])) (kFnP E_z38 R_z38))
def qrY (s0:List UInt8) (out3:List (List UInt8)) (from4:Int) (i5:Int):Fr:=frOf [(0,da s0),(3,(.dat (.sl (.sl .byte)) out3 (some (3,22)))),(4,dc from4),(5,dc i5)]
theorem qwb (K:Ex→Fr→Option AV):∀ (n:Nat) (s0:List UInt8) (out3:List (List UInt8)) (from4:Int) (i5:Int),evLP E_z38 n (sub C_z38 [1,1,1,0,1,0,0]) K (qrY s0 out3 from4 i5)=qje (qkk K) n s0 out3 from4 i5:=by
 intro n;induction n with
 | zero=>intros; rfl
 | succ n IH =>
 intro s0 out3 from4 i5;have ih:(fun s0 out3 from4 i5=>evLP E_z38 n (sub C_z38 [1,1,1,0,1,0,0]) K (qrY s0 out3 from4 i5))=qje (qkk K) n:=by
  funext s0 out3 from4 i5;exact IH s0 out3 from4 i5
 show _=qjd (qkk K) (qje (qkk K) n) n s0 out3 from4 i5;rw [← ih];kernel_rfl
theorem qpk (n:Nat) (s0:List UInt8) (out3:List (List UInt8)) (from4:Int):(qnx n) (.exit 0) (frOf [(0,da s0),(3,(.dat (.sl (.sl .byte)) out3 (some (3,22)))),(4,dc from4)])=qeO n s0 out3 from4:=by
 kernel_rfl
theorem qGO (n:Nat) (s0:List UInt8) (o0:Lab):evFnP E_z38 n C_z38 R_z38 [db s0 o0]=qBl n s0:=by
 unfold qBl;rw [show qje (qeO n) n=(fun s0 out3 from4 i5=>evLP E_z38 n (sub C_z38 [1,1,1,0,1,0,0]) (qnx n) (qrY s0 out3 from4 i5)) from by
  funext s0 out3 from4 i5;refine Eq.trans ?_ (qwb (qnx n) n s0 out3 from4 i5).symm;rw [show (qkk (qnx n))=(qeO n) from by
   funext s0 out3 from4;exact qpk n s0 out3 from4]
  all_goals kernel_rfl]
 kernel_rfl
theorem qwc:qh G Tryz.prog 38 s_z38:=by
 refine sQ (E:=E_z38) (c:=C_z38) rfl (fun w S hg=>(qb (qnu w S hg) (qb (qfE w S hg) qc))) Tryz.func38 ?_;intro avs r h;unfold s_z38 at h;split at h
 ·obtain ⟨hp,rfl⟩:=yj h;obtain ⟨n,hn⟩:=qAB _ hp;exact ⟨n,_,(qGO n _ _).trans hn,.inl rfl⟩
 ·cases h
def E_z68:EnvP:=eQ [(65,s_z65),(102,s_z102)] 38 (some [1000004,5,6]) (fun x=>if x=5 then some [0,7,8] else none) (fun x=>if x=0 then some [0,7,8] else if x=1 then some [0,7,8] else none) nP
def C_z68:Code:=cO Tryz.f68
def R_z68:Array ResultVar:=Tryz.f68.results
def qkl (s0:List UInt8) (i7:Int) (k8:Int):Fr:=frOf [(0,da s0),(7,dc i7),(8,dc k8)]
noncomputable def qkm (K:Ex→Fr→Option AV):=fun s0 i7 k8=>K (.exit 0) (qkl s0 i7 k8)
def qny (n:Nat):Ex→Fr→Option AV:=qz 0 (E_z68.cutb 0) (kSeq (evCP E_z68 (evLP E_z68 n) (sub C_z68 [1,1,1,1,1])) (kFnP E_z68 R_z68))
theorem qwd (K:Ex→Fr→Option AV):∀ (n:Nat) (s0:List UInt8) (i7:Int) (k8:Int),evLP E_z68 n (sub C_z68 [1,1,1,1,0,0,0]) K (qkl s0 i7 k8)=qlT (qkm K) n s0 i7 k8:=by
 intro n;induction n with
 | zero=>intros; rfl
 | succ n IH =>
 intro s0 i7 k8;have ih:(fun s0 i7 k8=>evLP E_z68 n (sub C_z68 [1,1,1,1,0,0,0]) K (qkl s0 i7 k8))=qlT (qkm K) n:=by
  funext s0 i7 k8;exact IH s0 i7 k8
 show _=qeP (qkm K) (qlT (qkm K) n) n s0 i7 k8;rw [← ih];kernel_rfl
theorem qpl (n:Nat) (s0:List UInt8) (i7:Int) (k8:Int):(qny n) (.exit 0) (qkl s0 i7 k8)=qgS n s0 i7 k8:=by
 kernel_rfl
theorem qGP (n:Nat) (s0:List UInt8) (o0:Lab) (at1:Int) (o1:Lab):evFnP E_z68 n C_z68 R_z68 [db s0 o0,de at1 o1]=qxd n s0 at1:=by
 unfold qxd;rw [show qlT (qgS n) n=(fun s0 i7 k8=>evLP E_z68 n (sub C_z68 [1,1,1,1,0,0,0]) (qny n) (qkl s0 i7 k8)) from by
  funext s0 i7 k8;refine Eq.trans ?_ (qwd (qny n) n s0 i7 k8).symm;rw [show (qkm (qny n))=(qgS n) from by
   funext s0 i7 k8;exact qpl n s0 i7 k8]
  all_goals kernel_rfl]
 kernel_rfl
theorem qnz:qh G Tryz.prog 68 s_z68:=by
 refine sQ (E:=E_z68) (c:=C_z68) rfl (fun w S hg=>(qb (qiE w S hg) (qb (qdB w S hg) qc))) Tryz.func68 ?_;intro avs r h;unfold s_z68 at h;split at h
 ·obtain ⟨hp,rfl⟩:=yj h;obtain ⟨n,hn⟩:=qAv _ _ hp;exact ⟨n,_,(qGP n _ _ _ _).trans hn,.inl rfl⟩
 ·cases h
def E_z69:EnvP:=eQ [(67,s_z67),(102,s_z102)] 29 (some [6,7]) nC nC nP
def C_z69:Code:=cO Tryz.f69
def R_z69:Array ResultVar:=Tryz.f69.results
theorem qGQ (n:Nat) (s0:List UInt8) (o0:Lab) (at1:Int) (o1:Lab) (c2:UInt8) (o2:Lab):evFnP E_z69 n C_z69 R_z69 [db s0 o0,de at1 o1,dm c2 o2]=qBm n s0 at1 c2:=by
 kernel_rfl
theorem qwe:qh G Tryz.prog 69 s_z69:=by
 refine sQ (E:=E_z69) (c:=C_z69) rfl (fun w S hg=>(qb (qfE w S hg) (qb (qdB w S hg) qc))) Tryz.func69 ?_;intro avs r h;unfold s_z69 at h;split at h
 ·obtain ⟨hp,rfl⟩:=yj h;obtain ⟨n,hn⟩:=qAw _ _ _ hp;exact ⟨n,_,(qGQ n _ _ _ _ _ _).trans hn,.inl rfl⟩
 ·cases h
def E_z70:EnvP:=eQ [(66,s_z66),(68,s_z68),(102,s_z102)] 46 (some [1000004,5,6]) nC nC nP
def C_z70:Code:=cO Tryz.f70
def R_z70:Array ResultVar:=Tryz.f70.results
theorem qGR (n:Nat) (s0:List UInt8) (o0:Lab) (at1:Int) (o1:Lab):evFnP E_z70 n C_z70 R_z70 [db s0 o0,de at1 o1]=qBn n s0 at1:=by
 kernel_rfl
theorem qwf:qh G Tryz.prog 70 s_z70:=by
 refine sQ (E:=E_z70) (c:=C_z70) rfl (fun w S hg=>(qb (qnu w S hg) (qb (qnz w S hg) (qb (qdB w S hg) qc)))) Tryz.func70 ?_;intro avs r h;unfold s_z70 at h;split at h
 ·obtain ⟨hp,rfl⟩:=yj h;obtain ⟨n,hn⟩:=qAy _ _ hp;exact ⟨n,_,(qGR n _ _ _ _).trans hn,.inl rfl⟩
 ·cases h
def E_z41:EnvP:=eQ [] 12 (some [2]) nC nC nP
def C_z41:Code:=cO Tryz.f41
def R_z41:Array ResultVar:=Tryz.f41.results
theorem qGS (n:Nat) (c0:UInt8) (o0:Lab):evFnP E_z41 n C_z41 R_z41 [dm c0 o0]=qBo n c0:=by
 kernel_rfl
theorem qwg:qh G Tryz.prog 41 s_z41:=by
 refine sQ (E:=E_z41) (c:=C_z41) rfl (fun w S hg=>qc) Tryz.func41 ?_;intro avs r h;unfold s_z41 at h;split at h <;> cases h
 obtain ⟨n,hn⟩:=qAr _;exact ⟨n,_,(qGS n _ _).trans hn,.inl rfl⟩
def E_z21:EnvP:=eQ [(41,s_z41)] 20 (some [2]) (fun x=>if x=3 then some [0,3,4] else none) (fun x=>if x=0 then some [3] else if x=1 then some [0,3,4] else none) nP
def C_z21:Code:=cO Tryz.f21
def R_z21:Array ResultVar:=Tryz.f21.results
noncomputable def qkn (K:Ex→Fr→Option AV):=fun out3=>K (.exit 0) (frOf [(3,(db out3 (some (3,5))))])
def qnA (n:Nat):Ex→Fr→Option AV:=qz 0 (E_z21.cutb 0) (kSeq (evCP E_z21 (evLP E_z21 n) (sub C_z21 [1,1,1])) (kFnP E_z21 R_z21))
def qrZ (s0:List UInt8) (out3:List UInt8) (i4:Int):Fr:=frOf [(0,da s0),(3,(db out3 (some (3,5)))),(4,dc i4)]
theorem qwh (K:Ex→Fr→Option AV):∀ (n:Nat) (s0:List UInt8) (out3:List UInt8) (i4:Int),evLP E_z21 n (sub C_z21 [1,1,0,1,0,0]) K (qrZ s0 out3 i4)=qlU (qkn K) n s0 out3 i4:=by
 intro n;induction n with
 | zero=>intros; rfl
 | succ n IH =>
 intro s0 out3 i4;have ih:(fun s0 out3 i4=>evLP E_z21 n (sub C_z21 [1,1,0,1,0,0]) K (qrZ s0 out3 i4))=qlU (qkn K) n:=by
  funext s0 out3 i4;exact IH s0 out3 i4
 show _=qeQ (qkn K) (qlU (qkn K) n) n s0 out3 i4;rw [← ih];kernel_rfl
theorem qpm (n:Nat) (out3:List UInt8):(qnA n) (.exit 0) (frOf [(3,(db out3 (some (3,5))))])=qeR n out3:=by
 kernel_rfl
theorem qGT (n:Nat) (s0:List UInt8) (o0:Lab):evFnP E_z21 n C_z21 R_z21 [db s0 o0]=qxe n s0:=by
 unfold qxe;rw [show qlU (qeR n) n=(fun s0 out3 i4=>evLP E_z21 n (sub C_z21 [1,1,0,1,0,0]) (qnA n) (qrZ s0 out3 i4)) from by
  funext s0 out3 i4;refine Eq.trans ?_ (qwh (qnA n) n s0 out3 i4).symm;rw [show (qkn (qnA n))=(qeR n) from by
   funext out3;exact qpm n out3]
  all_goals kernel_rfl]
 kernel_rfl
theorem qnB:qh G Tryz.prog 21 s_z21:=by
 refine sQ (E:=E_z21) (c:=C_z21) rfl (fun w S hg=>(qb (qwg w S hg) qc)) Tryz.func21 ?_;intro avs r h;unfold s_z21 at h;split at h
 ·obtain ⟨hp,rfl⟩:=yj h;obtain ⟨n,hn⟩:=qAs _ hp;exact ⟨n,_,(qGT n _ _).trans hn,.inl rfl⟩
 ·cases h
def E_z37:EnvP:=eQ [(65,s_z65)] 22 (some [4]) (fun x=>if x=3 then some [0,1,5,6] else none) (fun x=>if x=0 then some [5] else if x=1 then some [0,1,5,6] else none) nP
def C_z37:Code:=cO Tryz.f37
def R_z37:Array ResultVar:=Tryz.f37.results
noncomputable def qko (K:Ex→Fr→Option AV):=fun n5=>K (.exit 0) (frOf [(5,dc n5)])
def qnC (n:Nat):Ex→Fr→Option AV:=qz 0 (E_z37.cutb 0) (kSeq (evCP E_z37 (evLP E_z37 n) (sub C_z37 [1,1,1])) (kFnP E_z37 R_z37))
def qsa (s0:List UInt8) (kinds1:Int) (n5:Int) (i6:Int):Fr:=frOf [(0,da s0),(1,dc kinds1),(5,dc n5),(6,dc i6)]
theorem qwi (K:Ex→Fr→Option AV):∀ (n:Nat) (s0:List UInt8) (kinds1:Int) (n5:Int) (i6:Int),evLP E_z37 n (sub C_z37 [1,1,0,1,0,0]) K (qsa s0 kinds1 n5 i6)=qjf (qko K) n s0 kinds1 n5 i6:=by
 intro n;induction n with
 | zero=>intros; rfl
 | succ n IH =>
 intro s0 kinds1 n5 i6;have ih:(fun s0 kinds1 n5 i6=>evLP E_z37 n (sub C_z37 [1,1,0,1,0,0]) K (qsa s0 kinds1 n5 i6))=qjf (qko K) n:=by
  funext s0 kinds1 n5 i6;exact IH s0 kinds1 n5 i6
 show _=qeS (qko K) (qjf (qko K) n) n s0 kinds1 n5 i6;rw [← ih];kernel_rfl
theorem qpn (n:Nat) (n5:Int):(qnC n) (.exit 0) (frOf [(5,dc n5)])=qgT n n5:=by
 kernel_rfl
theorem qGU (n:Nat) (s0:List UInt8) (o0:Lab) (kinds1:Int) (o1:Lab):evFnP E_z37 n C_z37 R_z37 [db s0 o0,de kinds1 o1]=qxf n s0 kinds1:=by
 unfold qxf;rw [show qjf (qgT n) n=(fun s0 kinds1 n5 i6=>evLP E_z37 n (sub C_z37 [1,1,0,1,0,0]) (qnC n) (qsa s0 kinds1 n5 i6)) from by
  funext s0 kinds1 n5 i6;refine Eq.trans ?_ (qwi (qnC n) n s0 kinds1 n5 i6).symm;rw [show (qko (qnC n))=(qgT n) from by
   funext n5;exact qpn n n5]
  all_goals kernel_rfl]
 kernel_rfl
theorem qwj:qh G Tryz.prog 37 s_z37:=by
 refine sQ (E:=E_z37) (c:=C_z37) rfl (fun w S hg=>(qb (qiE w S hg) qc)) Tryz.func37 ?_;intro avs r h;unfold s_z37 at h;split at h
 ·obtain ⟨hp,rfl⟩:=yj h;obtain ⟨n,hn⟩:=qBt _ _ hp;exact ⟨n,_,(qGU n _ _ _ _).trans hn,.inl rfl⟩
 ·cases h
def qiF:EnvP:=eQ [] 51 (some [2]) (fun x=>if x=3 then some [0,3,4] else none) (fun x=>if x=0 then some [0,3] else if x=1 then some [0,3,4] else none) nP
def qpo:Code:=cO Tryz.f104
def qEo:Array ResultVar:=Tryz.f104.results
noncomputable def qgw (K:Ex→Fr→Option AV):=fun s0 n3=>K (.exit 0) (frOf [(0,da s0),(3,dc n3)])
noncomputable def qiG (K:Ex→Fr→Option AV):=fun s2=>K .ret (frOf [(2,dc s2)])
def qiH (n:Nat):Ex→Fr→Option AV:=qz 0 (qiF.cutb 0) (kSeq (evCP qiF (evLP qiF n) (sub qpo [1,1,1])) (kFnP qiF qEo))
def qlu (s0:List UInt8) (n3:Int) (i4:Int):Fr:=frOf [(0,da s0),(3,dc n3),(4,dc i4)]
theorem qsb (K:Ex→Fr→Option AV):∀ (n:Nat) (s0:List UInt8) (n3:Int) (i4:Int),evLP qiF n (sub qpo [1,1,0,1,0,0]) K (qlu s0 n3 i4)=qhI (qiG K) (qgw K) n s0 n3 i4:=by
 intro n;induction n with
 | zero=>intros; rfl
 | succ n IH =>
 intro s0 n3 i4;have ih:(fun s0 n3 i4=>evLP qiF n (sub qpo [1,1,0,1,0,0]) K (qlu s0 n3 i4))=qhI (qiG K) (qgw K) n:=by
  funext s0 n3 i4;exact IH s0 n3 i4
 show _=qoc (qiG K) (qgw K) (qhI (qiG K) (qgw K) n) n s0 n3 i4;rw [← ih];kernel_rfl
theorem qlv (n:Nat) (s0:List UInt8) (n3:Int):(qiH n) (.exit 0) (frOf [(0,da s0),(3,dc n3)])=qfL n s0 n3:=by
 kernel_rfl
theorem qEp (n:Nat) (s0:List UInt8) (o0:Lab):evFnP qiF n qpo qEo [db s0 o0]=qod n s0:=by
 unfold qod;rw [show qhI qcW (qfL n) n=(fun s0 n3 i4=>evLP qiF n (sub qpo [1,1,0,1,0,0]) (qiH n) (qlu s0 n3 i4)) from by
  funext s0 n3 i4;refine Eq.trans ?_ (qsb (qiH n) n s0 n3 i4).symm;rw [show (qgw (qiH n))=(qfL n) from by
   funext s0 n3;exact qlv n s0 n3]
  all_goals kernel_rfl]
 kernel_rfl
theorem qsc:qh G Tryz.prog 104 s_z104:=by
 refine sQ (E:=qiF) (c:=qpo) rfl (fun w S hg=>qc) Tryz.func104 ?_;intro avs r h;unfold s_z104 at h;split at h
 ·obtain ⟨hp,rfl⟩:=yj h;obtain ⟨n,hn⟩:=qwM _ hp;exact ⟨n,_,(qEp n _ _).trans hn,.inl rfl⟩
 ·cases h
def E_z71:EnvP:=eQ [(21,s_z21),(37,s_z37),(104,s_z104)] 71 (some [2,3,4]) (fun x=>if x=3 then some [0,5,6] else none) (fun x=>if x=0 then some [0,5] else if x=1 then some [0,5,6] else none) nP
def C_z71:Code:=cO Tryz.f71
def R_z71:Array ResultVar:=Tryz.f71.results
noncomputable def qkp (K:Ex→Fr→Option AV):=fun a0 star5=>K (.exit 0) (frOf [(0,da a0),(5,dc star5)])
def qnD (n:Nat):Ex→Fr→Option AV:=qz 0 (E_z71.cutb 0) (kSeq (evCP E_z71 (evLP E_z71 n) (sub C_z71 [1,1,1])) (kFnP E_z71 R_z71))
def qsd (a0:List UInt8) (star5:Int) (i6:Int):Fr:=frOf [(0,da a0),(5,dc star5),(6,dc i6)]
theorem qwk (K:Ex→Fr→Option AV):∀ (n:Nat) (a0:List UInt8) (star5:Int) (i6:Int),evLP E_z71 n (sub C_z71 [1,1,0,1,0,0]) K (qsd a0 star5 i6)=qlV (qkp K) n a0 star5 i6:=by
 intro n;induction n with
 | zero=>intros; rfl
 | succ n IH =>
 intro a0 star5 i6;have ih:(fun a0 star5 i6=>evLP E_z71 n (sub C_z71 [1,1,0,1,0,0]) K (qsd a0 star5 i6))=qlV (qkp K) n:=by
  funext a0 star5 i6;exact IH a0 star5 i6
 show _=qeT (qkp K) (qlV (qkp K) n) n a0 star5 i6;rw [← ih];kernel_rfl
theorem qpp (n:Nat) (a0:List UInt8) (star5:Int):(qnD n) (.exit 0) (frOf [(0,da a0),(5,dc star5)])=qgU n a0 star5:=by
 kernel_rfl
theorem qGV (n:Nat) (a0:List UInt8) (o0:Lab):evFnP E_z71 n C_z71 R_z71 [db a0 o0]=qxg n a0:=by
 unfold qxg;rw [show qlV (qgU n) n=(fun a0 star5 i6=>evLP E_z71 n (sub C_z71 [1,1,0,1,0,0]) (qnD n) (qsd a0 star5 i6)) from by
  funext a0 star5 i6;refine Eq.trans ?_ (qwk (qnD n) n a0 star5 i6).symm;rw [show (qkp (qnD n))=(qgU n) from by
   funext a0 star5;exact qpp n a0 star5]
  all_goals kernel_rfl]
 kernel_rfl
theorem qwl:qh G Tryz.prog 71 s_z71:=by
 refine sQ (E:=E_z71) (c:=C_z71) rfl (fun w S hg=>(qb (qnB w S hg) (qb (qwj w S hg) (qb (qsc w S hg) qc)))) Tryz.func71 ?_;intro avs r h;unfold s_z71 at h;split at h
 ·obtain ⟨hp,rfl⟩:=yj h;obtain ⟨n,hn⟩:=qAA _ hp;exact ⟨n,_,(qGV n _ _).trans hn,.inl rfl⟩
 ·cases h
end
end Go.Av
