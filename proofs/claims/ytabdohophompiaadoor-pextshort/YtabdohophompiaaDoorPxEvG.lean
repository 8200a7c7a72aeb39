import Derived.Test.YtabdohophompiaaDoorPxEvF
import Derived.Test.YtabdohophompiaaDoorPxN
import Derived.Test.YtabdohophompiaaDoorProg
import Derived.KernelRfl
namespace Go.Av
set_option linter.unusedSimpArgs false
noncomputable section
open Go.Proofs
set_option maxRecDepth 100000
set_option linter.unusedVariables false
def E_z23:EnvP:=eQ [(18,s_z18),(39,s_z39),(40,s_z40),(41,s_z41),(42,s_z42),(43,s_z43)] 38 (some [1000004,5]) nC (fun x=>if x=0 then some [0,1] else if x=1 then some [1] else none) nP
def C_z23:Code:=cO Tryd.f23
def R_z23:Array ResultVar:=Tryd.f23.results
theorem qyk (n:Nat) (charset0:Int) (o0:Lab) (t1:List Int) (o1:Lab):evFnP E_z23 n C_z23 R_z23 [de charset0 o0,.dat (.sl (.int .i32)) t1 o1]=quD n charset0 t1:=by
 kernel_rfl
theorem qqJ:qk G Tryd.prog 23 s_z23:=by
 refine sQ (E:=E_z23) (c:=C_z23) rfl (fun w S hg=>(qb (qjU w S hg) (qb (qkd w S hg) (qb (qqx w S hg) (qb (qqC w S hg) (qb (qqE w S hg) (qb (qqI w S hg) qe))))))) Tryd.func23 ?_;intro avs r h;unfold s_z23 at h;split at h
 ·obtain ⟨hp,rfl⟩:=yj h;obtain ⟨n,hn⟩:=qvC _ _ hp;exact ⟨n,_,(qyk n _ _ _ _).trans hn,.inl rfl⟩
 ·cases h
def E_z44:EnvP:=eQ [(62,s_z62)] 5 (some [2]) nC nC nP
def C_z44:Code:=cO Tryd.f44
def R_z44:Array ResultVar:=Tryd.f44.results
theorem qyl (n:Nat) (c0:UInt8) (o0:Lab):evFnP E_z44 n C_z44 R_z44 [di c0 o0]=quE n c0:=by
 kernel_rfl
theorem qqK:qk G Tryd.prog 44 s_z44:=by
 refine sQ (E:=E_z44) (c:=C_z44) rfl (fun w S hg=>(qb (qjI w S hg) qe)) Tryd.func44 ?_;intro avs r h;unfold s_z44 at h;split at h <;> cases h
 obtain ⟨n,hn⟩:=qtC _;exact ⟨n,_,(qyl n _ _).trans hn,.inl rfl⟩
def E_z71:EnvP:=eQ [] 6 (some [2]) nC nC nP
def C_z71:Code:=cO Tryd.f71
def R_z71:Array ResultVar:=Tryd.f71.results
theorem qym (n:Nat) (n0:Int) (o0:Lab):evFnP E_z71 n C_z71 R_z71 [de n0 o0]=quF n n0:=by
 kernel_rfl
theorem qqL:qk G Tryd.prog 71 s_z71:=by
 refine sQ (E:=E_z71) (c:=C_z71) rfl (fun w S hg=>qe) Tryd.func71 ?_;intro avs r h;unfold s_z71 at h;split at h
 ·obtain ⟨hp,rfl⟩:=yj h;obtain ⟨n,hn⟩:=quW _ hp;exact ⟨n,_,(qym n _ _).trans hn,.inl rfl⟩
 ·cases h
def E_z63:EnvP:=eQ [(71,s_z71)] 11 (some [2]) nC nC nP
def C_z63:Code:=cO Tryd.f63
def R_z63:Array ResultVar:=Tryd.f63.results
theorem qyn (n:Nat) (c0:UInt8) (o0:Lab):evFnP E_z63 n C_z63 R_z63 [di c0 o0]=quG n c0:=by
 kernel_rfl
theorem qqM:qk G Tryd.prog 63 s_z63:=by
 refine sQ (E:=E_z63) (c:=C_z63) rfl (fun w S hg=>(qb (qqL w S hg) qe)) Tryd.func63 ?_;intro avs r h;unfold s_z63 at h;split at h <;> cases h
 obtain ⟨n,hn⟩:=quX _;exact ⟨n,_,(qyn n _ _).trans hn,.inl rfl⟩
def E_z45:EnvP:=eQ [(19,s_z19),(63,s_z63)] 15 (some [6]) nC nC nP
def C_z45:Code:=cO Tryd.f45
def R_z45:Array ResultVar:=Tryd.f45.results
theorem qyo (n:Nat) (b0:List UInt8) (o0:Lab) (sign1:UInt8) (o1:Lab) (c2:UInt8) (o2:Lab):evFnP E_z45 n C_z45 R_z45 [db b0 o0,di sign1 o1,di c2 o2]=quH n b0 sign1 c2:=by
 kernel_rfl
theorem qqN:qk G Tryd.prog 45 s_z45:=by
 refine sQ (E:=E_z45) (c:=C_z45) rfl (fun w S hg=>(qb (qcG w S hg) (qb (qqM w S hg) qe))) Tryd.func45 ?_;intro avs r h;unfold s_z45 at h;split at h
 ·obtain ⟨hp,rfl⟩:=yj h;obtain ⟨n,hn⟩:=quY _ _ _ hp;exact ⟨n,_,(qyo n _ _ _ _ _ _).trans hn,.inl rfl⟩
 ·cases h
def E_z24:EnvP:=eQ [(44,s_z44),(45,s_z45)] 24 (some [2]) (fun x=>if x=3 then some [3,6,7,8] else none) (fun x=>if x=0 then some [3] else if x=1 then some [3,6,7,8] else none) nP
def C_z24:Code:=cO Tryd.f24
def R_z24:Array ResultVar:=Tryd.f24.results
noncomputable def qhR (K:Ex→Fr→Option AV):=fun out3=>K (.exit 0) (frOf [(3,(db out3 (some (3,5))))])
def qkm (n:Nat):Ex→Fr→Option AV:=qL 0 (E_z24.cutb 0) (kSeq (evCP E_z24 (evLP E_z24 n) (sub C_z24 [1,1,1])) (kFnP E_z24 R_z24))
def qnx (out3:List UInt8) (s6:List UInt8) (s7:Int) (s8:Int):Fr:=frOf [(3,(db out3 (some (3,5)))),(6,da s6),(7,dc s7),(8,dc s8)]
theorem qqO (K:Ex→Fr→Option AV):∀ (n:Nat) (out3:List UInt8) (s6:List UInt8) (s7:Int) (s8:Int),evLP E_z24 n (sub C_z24 [1,1,0,1,0,0]) K (qnx out3 s6 s7 s8)=qiT (qhR K) n out3 s6 s7 s8:=by
 intro n;induction n with
 | zero=>intros; rfl
 | succ n IH =>
 intro out3 s6 s7 s8;have ih:(fun out3 s6 s7 s8=>evLP E_z24 n (sub C_z24 [1,1,0,1,0,0]) K (qnx out3 s6 s7 s8))=qiT (qhR K) n:=by
  funext out3 s6 s7 s8;exact IH out3 s6 s7 s8
 show _=qdz (qhR K) (qiT (qhR K) n) n out3 s6 s7 s8;rw [← ih];kernel_rfl
theorem qlt (n:Nat) (out3:List UInt8):(qkm n) (.exit 0) (frOf [(3,(db out3 (some (3,5))))])=qdA n out3:=by
 kernel_rfl
theorem qyp (n:Nat) (s0:List UInt8) (o0:Lab):evFnP E_z24 n C_z24 R_z24 [db s0 o0]=qrz n s0:=by
 unfold qrz;rw [show qiT (qdA n) n=(fun out3 s6 s7 s8=>evLP E_z24 n (sub C_z24 [1,1,0,1,0,0]) (qkm n) (qnx out3 s6 s7 s8)) from by
  funext out3 s6 s7 s8;refine Eq.trans ?_ (qqO (qkm n) n out3 s6 s7 s8).symm;rw [show (qhR (qkm n))=(qdA n) from by
   funext out3;exact qlt n out3]
  all_goals kernel_rfl]
 kernel_rfl
theorem qqP:qk G Tryd.prog 24 s_z24:=by
 refine sQ (E:=E_z24) (c:=C_z24) rfl (fun w S hg=>(qb (qqK w S hg) (qb (qqN w S hg) qe))) Tryd.func24 ?_;intro avs r h;unfold s_z24 at h;split at h
 ·obtain ⟨hp,rfl⟩:=yj h;obtain ⟨n,hn⟩:=qtD _ hp;exact ⟨n,_,(qyp n _ _).trans hn,.inl rfl⟩
 ·cases h
def E_z10:EnvP:=eQ [(23,s_z23),(24,s_z24)] 31 (some [4]) (fun x=>if x=3 then some [0,1,5,10,11] else none) (fun x=>if x=0 then some [5] else if x=1 then some [0,1,5,10,11] else none) nP
def C_z10:Code:=cO Tryd.f10
def R_z10:Array ResultVar:=Tryd.f10.results
noncomputable def qhS (K:Ex→Fr→Option AV):=fun l5=>K (.exit 0) (frOf [(5,(.dat (.sl (.sl .byte)) l5 (some (5,22))))])
def qkn (n:Nat):Ex→Fr→Option AV:=qL 0 (E_z10.cutb 0) (kSeq (evCP E_z10 (evLP E_z10 n) (sub C_z10 [1,1,1])) (kFnP E_z10 R_z10))
def qny (charset0:Int) (t1:List Int) (l5:List (List UInt8)) (s10:Int) (s11:Int):Fr:=frOf [(0,dc charset0),(1,(.dat (.sl (.int .i32)) t1 none)),(5,(.dat (.sl (.sl .byte)) l5 (some (5,22)))),(10,dc s10),(11,dc s11)]
theorem qqQ (K:Ex→Fr→Option AV):∀ (n:Nat) (charset0:Int) (t1:List Int) (l5:List (List UInt8)) (s10:Int) (s11:Int),evLP E_z10 n (sub C_z10 [1,1,0,1,0,0]) K (qny charset0 t1 l5 s10 s11)=qiU (qhS K) n charset0 t1 l5 s10 s11:=by
 intro n;induction n with
 | zero=>intros; rfl
 | succ n IH =>
 intro charset0 t1 l5 s10 s11;have ih:(fun charset0 t1 l5 s10 s11=>evLP E_z10 n (sub C_z10 [1,1,0,1,0,0]) K (qny charset0 t1 l5 s10 s11))=qiU (qhS K) n:=by
  funext charset0 t1 l5 s10 s11;exact IH charset0 t1 l5 s10 s11
 show _=qdB (qhS K) (qiU (qhS K) n) n charset0 t1 l5 s10 s11;rw [← ih];kernel_rfl
theorem qlu (n:Nat) (l5:List (List UInt8)):(qkn n) (.exit 0) (frOf [(5,(.dat (.sl (.sl .byte)) l5 (some (5,22))))])=qdC n l5:=by
 kernel_rfl
theorem qyq (n:Nat) (charset0:Int) (o0:Lab) (t1:List Int) (o1:Lab):evFnP E_z10 n C_z10 R_z10 [de charset0 o0,.dat (.sl (.int .i32)) t1 o1]=qrA n charset0 t1:=by
 unfold qrA;rw [show qiU (qdC n) n=(fun charset0 t1 l5 s10 s11=>evLP E_z10 n (sub C_z10 [1,1,0,1,0,0]) (qkn n) (qny charset0 t1 l5 s10 s11)) from by
  funext charset0 t1 l5 s10 s11;refine Eq.trans ?_ (qqQ (qkn n) n charset0 t1 l5 s10 s11).symm;rw [show (qhS (qkn n))=(qdC n) from by
   funext l5;exact qlu n l5]
  all_goals kernel_rfl]
 kernel_rfl
theorem qqR:qk G Tryd.prog 10 s_z10:=by
 refine sQ (E:=E_z10) (c:=C_z10) rfl (fun w S hg=>(qb (qqJ w S hg) (qb (qqP w S hg) qe))) Tryd.func10 ?_;intro avs r h;unfold s_z10 at h;split at h
 ·obtain ⟨hp,rfl⟩:=yj h;obtain ⟨n,hn⟩:=qtW _ _ hp;exact ⟨n,_,(qyq n _ _ _ _).trans hn,.inl rfl⟩
 ·cases h
def E_z75:EnvP:=eQ [] 15 (some [2]) nC nC nP
def C_z75:Code:=cO Tryd.f75
def R_z75:Array ResultVar:=Tryd.f75.results
theorem qyr (n:Nat) (i0:Int) (o0:Lab):evFnP E_z75 n C_z75 R_z75 [de i0 o0]=qlE n i0:=by
 kernel_rfl
theorem qnz:qk Any Tryd.prog 75 s_z75:=by
 refine qN qoE (E:=E_z75) (fn:=Tryd.f75) (c:=C_z75) (qq rfl qeb) (fun w S hg=>⟨⟨qe,fun f sp h=>qbr f sp h w S⟩,glAny w S hg,(fun _ _ h=>by cases h),(fun f sp h=>qfE f sp h),(fun f it h=>qfF f it h),(fun t kt vt h=>qdK t kt vt h)⟩) follows Tryd.func75 (by kernel_rfl) (by kernel_rfl) (by kernel_rfl) ?_;intro avs r h;unfold s_z75 at h;split at h
 ·obtain ⟨hp,rfl⟩:=yj h;obtain ⟨n,hn⟩:=qtH _ hp;exact ⟨n,_,(qyr n _ _).trans hn,.inl rfl⟩
 ·cases h
def E_z72:EnvP:=eQ [(75,s_z75),(76,s_z76),(78,s_z78)] 36 (some [6]) nC nC nP
def C_z72:Code:=cO Tryd.f72
def R_z72:Array ResultVar:=Tryd.f72.results
theorem qys (n:Nat) (dst0:List UInt8) (i1:Int) (o1:Lab) (base2:Int) (o2:Lab):evFnC E_z72.toEnv n C_z72 R_z72 [db dst0 (some (0,5)),.dat (.int .u64) i1 o1,de base2 o2]=quI n dst0 i1 base2:=by
 kernel_rfl
theorem qqS:qgX Tryd.prog 72 s_z72:=by
 refine qbV (E:=E_z72.toEnv) (fn:=Tryd.f72) (c:=C_z72) (qq rfl qeb) (fun w S=>⟨(qb (qnz w S trivial) (qb (qnf w S trivial) (qb (qng w S trivial) qe))),fun f sp h=>qbr f sp h w S⟩) follows Tryd.func72 (by kernel_rfl) (by kernel_rfl) (by kernel_rfl) ?_;intro avs r h;unfold s_z72 at h;split at h
 ·obtain ⟨hp,rfl⟩:=yj h;obtain ⟨n,hn⟩:=qtI _ _ _ hp;exact ⟨n,(qys n _ _ _ _ _).trans hn⟩
 ·cases h
end
end Go.Av
