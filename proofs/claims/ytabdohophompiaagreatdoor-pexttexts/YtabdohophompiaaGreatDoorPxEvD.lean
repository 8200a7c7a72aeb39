import Derived.Test.YtabdohophompiaaGreatDoorPxEvC
import Derived.Test.YtabdohophompiaaGreatDoorPxN
import Derived.Test.YtabdohophompiaaGreatDoorProg
import Derived.KernelRfl
namespace Go.Av
set_option linter.unusedSimpArgs false
noncomputable section
open Go.Proofs
set_option maxRecDepth 100000
set_option linter.unusedVariables false
def qGc:EnvP:=eQ [(125,s_z125)] 10 (some [4]) nC nC nP
def qGd:Code:=cO Tryz.f100
def qIr:Array ResultVar:=Tryz.f100.results
theorem qGe (n:Nat) (c0:UInt8) (o0:Lab) (kinds1:Int) (o1:Lab):evFnP qGc n qGd qIr [dn c0 o0,de kinds1 o1]=qAk n c0 kinds1:=by
 kernel_rfl
theorem qkq:qe G Tryz.prog 100 s_z100:=by
 refine sQ (E:=qGc) (c:=qGd) rfl (fun w S hg=>(qa (qsW w S hg) qc)) Tryz.func100 ?_;intro avs r h;unfold s_z100 at h;split at h <;> cases h
 obtain ⟨n,hn⟩:=qzi _ _;exact ⟨n,_,(qGe n _ _ _ _).trans hn,.inl rfl⟩
def E_z79:EnvP:=eQ [(100,s_z100)] 5 (some [2]) nC nC nP
def C_z79:Code:=cO Tryz.f79
def R_z79:Array ResultVar:=Tryz.f79.results
theorem qIs (n:Nat) (c0:UInt8) (o0:Lab):evFnP E_z79 n C_z79 R_z79 [dn c0 o0]=qCI n c0:=by
 kernel_rfl
theorem qxc:qe G Tryz.prog 79 s_z79:=by
 refine sQ (E:=E_z79) (c:=C_z79) rfl (fun w S hg=>(qa (qkq w S hg) qc)) Tryz.func79 ?_;intro avs r h;unfold s_z79 at h;split at h <;> cases h
 obtain ⟨n,hn⟩:=qBL _;exact ⟨n,_,(qIs n _ _).trans hn,.inl rfl⟩
def qGf:EnvP:=eQ [] 6 (some [2]) nC nC nP
def qGg:Code:=cO Tryz.f132
def qIt:Array ResultVar:=Tryz.f132.results
theorem qGh (n:Nat) (n0:Int) (o0:Lab):evFnP qGf n qGg qIt [de n0 o0]=quN n n0:=by
 kernel_rfl
theorem qsX:qe G Tryz.prog 132 s_z132:=by
 refine sQ (E:=qGf) (c:=qGg) rfl (fun w S hg=>qc) Tryz.func132 ?_;intro avs r h;unfold s_z132 at h;split at h
 ·obtain ⟨hp,rfl⟩:=yj h;obtain ⟨n,hn⟩:=qzl _ hp;exact ⟨n,_,(qGh n _ _).trans hn,.inl rfl⟩
 ·cases h
def qGi:EnvP:=eQ [(132,s_z132)] 11 (some [2]) nC nC nP
def qGj:Code:=cO Tryz.f116
def qIu:Array ResultVar:=Tryz.f116.results
theorem qGk (n:Nat) (c0:UInt8) (o0:Lab):evFnP qGi n qGj qIu [dn c0 o0]=quP n c0:=by
 kernel_rfl
theorem qsY:qe G Tryz.prog 116 s_z116:=by
 refine sQ (E:=qGi) (c:=qGj) rfl (fun w S hg=>(qa (qsX w S hg) qc)) Tryz.func116 ?_;intro avs r h;unfold s_z116 at h;split at h <;> cases h
 obtain ⟨n,hn⟩:=qzn _;exact ⟨n,_,(qGk n _ _).trans hn,.inl rfl⟩
def E_z80:EnvP:=eQ [(53,s_z53),(116,s_z116)] 15 (some [6]) nC nC nP
def C_z80:Code:=cO Tryz.f80
def R_z80:Array ResultVar:=Tryz.f80.results
theorem qIv (n:Nat) (b0:List UInt8) (o0:Lab) (sign1:UInt8) (o1:Lab) (c2:UInt8) (o2:Lab):evFnP E_z80 n C_z80 R_z80 [db b0 o0,dn sign1 o1,dn c2 o2]=qCJ n b0 sign1 c2:=by
 kernel_rfl
theorem qxd:qe G Tryz.prog 80 s_z80:=by
 refine sQ (E:=E_z80) (c:=C_z80) rfl (fun w S hg=>(qa (qdF w S hg) (qa (qsY w S hg) qc))) Tryz.func80 ?_;intro avs r h;unfold s_z80 at h;split at h
 ·obtain ⟨hp,rfl⟩:=yj h;obtain ⟨n,hn⟩:=qDw _ _ _ hp;exact ⟨n,_,(qIv n _ _ _ _ _ _).trans hn,.inl rfl⟩
 ·cases h
def E_z45:EnvP:=eQ [(79,s_z79),(80,s_z80)] 24 (some [2]) (fun x=>if x=3 then some [3,6,7,8] else none) (fun x=>if x=0 then some [3] else if x=1 then some [3,6,7,8] else none) nP
def C_z45:Code:=cO Tryz.f45
def R_z45:Array ResultVar:=Tryz.f45.results
noncomputable def qkr (K:Ex→Fr→Option AV):=fun out3=>K (.exit 0) (frOf [(3,(db out3 (some (3,5))))])
def qnT (n:Nat):Ex→Fr→Option AV:=qp 0 (E_z45.cutb 0) (kSeq (evCP E_z45 (evLP E_z45 n) (sub C_z45 [1,1,1])) (kFnP E_z45 R_z45))
def qsZ (out3:List UInt8) (s6:List UInt8) (s7:Int) (s8:Int):Fr:=frOf [(3,(db out3 (some (3,5)))),(6,da s6),(7,dc s7),(8,dc s8)]
theorem qxe (K:Ex→Fr→Option AV):∀ (n:Nat) (out3:List UInt8) (s6:List UInt8) (s7:Int) (s8:Int),evLP E_z45 n (sub C_z45 [1,1,0,1,0,0]) K (qsZ out3 s6 s7 s8)=qmf (qkr K) n out3 s6 s7 s8:=by
 intro n;induction n with
 | zero=>intros; rfl
 | succ n IH =>
 intro out3 s6 s7 s8;have ih:(fun out3 s6 s7 s8=>evLP E_z45 n (sub C_z45 [1,1,0,1,0,0]) K (qsZ out3 s6 s7 s8))=qmf (qkr K) n:=by
  funext out3 s6 s7 s8;exact IH out3 s6 s7 s8
 show _=qeB (qkr K) (qmf (qkr K) n) n out3 s6 s7 s8;rw [← ih];kernel_rfl
theorem qqn (n:Nat) (out3:List UInt8):(qnT n) (.exit 0) (frOf [(3,(db out3 (some (3,5))))])=qeC n out3:=by
 kernel_rfl
theorem qIw (n:Nat) (s0:List UInt8) (o0:Lab):evFnP E_z45 n C_z45 R_z45 [db s0 o0]=qyG n s0:=by
 unfold qyG;rw [show qmf (qeC n) n=(fun out3 s6 s7 s8=>evLP E_z45 n (sub C_z45 [1,1,0,1,0,0]) (qnT n) (qsZ out3 s6 s7 s8)) from by
  funext out3 s6 s7 s8;refine Eq.trans ?_ (qxe (qnT n) n out3 s6 s7 s8).symm;rw [show (qkr (qnT n))=(qeC n) from by
   funext out3;exact qqn n out3]
  all_goals kernel_rfl]
 kernel_rfl
theorem qxf:qe G Tryz.prog 45 s_z45:=by
 refine sQ (E:=E_z45) (c:=C_z45) rfl (fun w S hg=>(qa (qxc w S hg) (qa (qxd w S hg) qc))) Tryz.func45 ?_;intro avs r h;unfold s_z45 at h;split at h
 ·obtain ⟨hp,rfl⟩:=yj h;obtain ⟨n,hn⟩:=qBM _ hp;exact ⟨n,_,(qIw n _ _).trans hn,.inl rfl⟩
 ·cases h
def E_z23:EnvP:=eQ [(44,s_z44),(45,s_z45)] 31 (some [4]) (fun x=>if x=3 then some [0,1,5,10,11] else none) (fun x=>if x=0 then some [5] else if x=1 then some [0,1,5,10,11] else none) nP
def C_z23:Code:=cO Tryz.f23
def R_z23:Array ResultVar:=Tryz.f23.results
noncomputable def qks (K:Ex→Fr→Option AV):=fun l5=>K (.exit 0) (frOf [(5,(.dat (.sl (.sl .byte)) l5 (some (5,22))))])
def qnU (n:Nat):Ex→Fr→Option AV:=qp 0 (E_z23.cutb 0) (kSeq (evCP E_z23 (evLP E_z23 n) (sub C_z23 [1,1,1])) (kFnP E_z23 R_z23))
def qta (charset0:Int) (t1:List Int) (l5:List (List UInt8)) (s10:Int) (s11:Int):Fr:=frOf [(0,dc charset0),(1,(.dat (.sl (.int .i32)) t1 none)),(5,(.dat (.sl (.sl .byte)) l5 (some (5,22)))),(10,dc s10),(11,dc s11)]
theorem qxg (K:Ex→Fr→Option AV):∀ (n:Nat) (charset0:Int) (t1:List Int) (l5:List (List UInt8)) (s10:Int) (s11:Int),evLP E_z23 n (sub C_z23 [1,1,0,1,0,0]) K (qta charset0 t1 l5 s10 s11)=qmg (qks K) n charset0 t1 l5 s10 s11:=by
 intro n;induction n with
 | zero=>intros; rfl
 | succ n IH =>
 intro charset0 t1 l5 s10 s11;have ih:(fun charset0 t1 l5 s10 s11=>evLP E_z23 n (sub C_z23 [1,1,0,1,0,0]) K (qta charset0 t1 l5 s10 s11))=qmg (qks K) n:=by
  funext charset0 t1 l5 s10 s11;exact IH charset0 t1 l5 s10 s11
 show _=qeD (qks K) (qmg (qks K) n) n charset0 t1 l5 s10 s11;rw [← ih];kernel_rfl
theorem qqo (n:Nat) (l5:List (List UInt8)):(qnU n) (.exit 0) (frOf [(5,(.dat (.sl (.sl .byte)) l5 (some (5,22))))])=qeE n l5:=by
 kernel_rfl
theorem qIx (n:Nat) (charset0:Int) (o0:Lab) (t1:List Int) (o1:Lab):evFnP E_z23 n C_z23 R_z23 [de charset0 o0,.dat (.sl (.int .i32)) t1 o1]=qyH n charset0 t1:=by
 unfold qyH;rw [show qmg (qeE n) n=(fun charset0 t1 l5 s10 s11=>evLP E_z23 n (sub C_z23 [1,1,0,1,0,0]) (qnU n) (qta charset0 t1 l5 s10 s11)) from by
  funext charset0 t1 l5 s10 s11;refine Eq.trans ?_ (qxg (qnU n) n charset0 t1 l5 s10 s11).symm;rw [show (qks (qnU n))=(qeE n) from by
   funext l5;exact qqo n l5]
  all_goals kernel_rfl]
 kernel_rfl
theorem qnV:qe G Tryz.prog 23 s_z23:=by
 refine sQ (E:=E_z23) (c:=C_z23) rfl (fun w S hg=>(qa (qxb w S hg) (qa (qxf w S hg) qc))) Tryz.func23 ?_;intro avs r h;unfold s_z23 at h;split at h
 ·obtain ⟨hp,rfl⟩:=yj h;obtain ⟨n,hn⟩:=qCm _ _ hp;exact ⟨n,_,(qIx n _ _ _ _).trans hn,.inl rfl⟩
 ·cases h
def E_z64:EnvP:=eQ [(100,s_z100)] 21 (some [4]) (fun x=>if x=3 then some [1,5,8,9,10] else none) (fun x=>if x=0 then some [5] else if x=1 then some [1,5,8,9,10] else none) nP
def C_z64:Code:=cO Tryz.f64
def R_z64:Array ResultVar:=Tryz.f64.results
noncomputable def qkt (K:Ex→Fr→Option AV):=fun n5=>K (.exit 0) (frOf [(5,dc n5)])
def qnW (n:Nat):Ex→Fr→Option AV:=qp 0 (E_z64.cutb 0) (kSeq (evCP E_z64 (evLP E_z64 n) (sub C_z64 [1,1,1])) (kFnP E_z64 R_z64))
def qtb (kinds1:Int) (n5:Int) (s8:List UInt8) (s9:Int) (s10:Int):Fr:=frOf [(1,dc kinds1),(5,dc n5),(8,da s8),(9,dc s9),(10,dc s10)]
theorem qxh (K:Ex→Fr→Option AV):∀ (n:Nat) (kinds1:Int) (n5:Int) (s8:List UInt8) (s9:Int) (s10:Int),evLP E_z64 n (sub C_z64 [1,1,0,1,0,0]) K (qtb kinds1 n5 s8 s9 s10)=qja (qkt K) n kinds1 n5 s8 s9 s10:=by
 intro n;induction n with
 | zero=>intros; rfl
 | succ n IH =>
 intro kinds1 n5 s8 s9 s10;have ih:(fun kinds1 n5 s8 s9 s10=>evLP E_z64 n (sub C_z64 [1,1,0,1,0,0]) K (qtb kinds1 n5 s8 s9 s10))=qja (qkt K) n:=by
  funext kinds1 n5 s8 s9 s10;exact IH kinds1 n5 s8 s9 s10
 show _=qeF (qkt K) (qja (qkt K) n) n kinds1 n5 s8 s9 s10;rw [← ih];kernel_rfl
theorem qqp (n:Nat) (n5:Int):(qnW n) (.exit 0) (frOf [(5,dc n5)])=qgR n n5:=by
 kernel_rfl
theorem qIy (n:Nat) (s0:List UInt8) (o0:Lab) (kinds1:Int) (o1:Lab):evFnP E_z64 n C_z64 R_z64 [db s0 o0,de kinds1 o1]=qyI n s0 kinds1:=by
 unfold qyI;rw [show qja (qgR n) n=(fun kinds1 n5 s8 s9 s10=>evLP E_z64 n (sub C_z64 [1,1,0,1,0,0]) (qnW n) (qtb kinds1 n5 s8 s9 s10)) from by
  funext kinds1 n5 s8 s9 s10;refine Eq.trans ?_ (qxh (qnW n) n kinds1 n5 s8 s9 s10).symm;rw [show (qkt (qnW n))=(qgR n) from by
   funext n5;exact qqp n n5]
  all_goals kernel_rfl]
 kernel_rfl
theorem qxi:qe G Tryz.prog 64 s_z64:=by
 refine sQ (E:=E_z64) (c:=C_z64) rfl (fun w S hg=>(qa (qkq w S hg) qc)) Tryz.func64 ?_;intro avs r h;unfold s_z64 at h;split at h
 ·obtain ⟨hp,rfl⟩:=yj h;obtain ⟨n,hn⟩:=qEi _ _ hp;exact ⟨n,_,(qIy n _ _ _ _).trans hn,.inl rfl⟩
 ·cases h
def E_z36:EnvP:=eQ [(64,s_z64)] 11 (some [4]) nC nC nP
def C_z36:Code:=cO Tryz.f36
def R_z36:Array ResultVar:=Tryz.f36.results
theorem qIz (n:Nat) (s0:List UInt8) (o0:Lab) (kinds1:Int) (o1:Lab):evFnP E_z36 n C_z36 R_z36 [db s0 o0,de kinds1 o1]=qCK n s0 kinds1:=by
 kernel_rfl
theorem qnX:qe G Tryz.prog 36 s_z36:=by
 refine sQ (E:=E_z36) (c:=C_z36) rfl (fun w S hg=>(qa (qxi w S hg) qc)) Tryz.func36 ?_;intro avs r h;unfold s_z36 at h;split at h
 ·obtain ⟨hp,rfl⟩:=yj h;obtain ⟨n,hn⟩:=qEj _ _ hp;exact ⟨n,_,(qIz n _ _ _ _).trans hn,.inl rfl⟩
 ·cases h
def E_z18:EnvP:=eQ [(36,s_z36)] 15 (some [2]) nC nC nP
def C_z18:Code:=cO Tryz.f18
def R_z18:Array ResultVar:=Tryz.f18.results
theorem qIA (n:Nat) (name0:List UInt8) (o0:Lab):evFnP E_z18 n C_z18 R_z18 [db name0 o0]=qCL n name0:=by
 kernel_rfl
theorem qnY:qe G Tryz.prog 18 s_z18:=by
 refine sQ (E:=E_z18) (c:=C_z18) rfl (fun w S hg=>(qa (qnX w S hg) qc)) Tryz.func18 ?_;intro avs r h;unfold s_z18 at h;split at h
 ·obtain ⟨hp,rfl⟩:=yj h;obtain ⟨n,hn⟩:=qBZ _ hp;exact ⟨n,_,(qIA n _ _).trans hn,.inl rfl⟩
 ·cases h
def E_z50:EnvP:=eQ [(89,s_z89)] 9 (some [4]) nC nC nP
def C_z50:Code:=cO Tryz.f50
def R_z50:Array ResultVar:=Tryz.f50.results
theorem qIB (n:Nat) (s0:List Int) (o0:Lab) (v1:Int) (o1:Lab):evFnP E_z50 n C_z50 R_z50 [.dat (.sl (.int .i32)) s0 o0,di v1 o1]=qCM n s0 v1:=by
 kernel_rfl
theorem qxj:qe G Tryz.prog 50 s_z50:=by
 refine sQ (E:=E_z50) (c:=C_z50) rfl (fun w S hg=>(qa (qnC w S hg) qc)) Tryz.func50 ?_;intro avs r h;unfold s_z50 at h;split at h
 ·obtain ⟨hp,rfl⟩:=yj h;obtain ⟨n,hn⟩:=qCb _ _ hp;exact ⟨n,_,(qIB n _ _ _ _).trans hn,.inl rfl⟩
 ·cases h
def E_z27:EnvP:=eQ [(18,s_z18),(49,s_z49),(50,s_z50)] 16 (some [4]) nC (fun x=>if x=0 then some [] else none) nP
def C_z27:Code:=cO Tryz.f27
def R_z27:Array ResultVar:=Tryz.f27.results
theorem qIC (n:Nat) (name0:List UInt8) (o0:Lab) (t1:List Int) (o1:Lab):evFnP E_z27 n C_z27 R_z27 [db name0 o0,.dat (.sl (.int .i32)) t1 o1]=qCN n name0 t1:=by
 kernel_rfl
theorem qnZ:qe G Tryz.prog 27 s_z27:=by
 refine sQ (E:=E_z27) (c:=C_z27) rfl (fun w S hg=>(qa (qnY w S hg) (qa (qnO w S hg) (qa (qxj w S hg) qc)))) Tryz.func27 ?_;intro avs r h;unfold s_z27 at h;split at h
 ·obtain ⟨hp,rfl⟩:=yj h;obtain ⟨n,hn⟩:=qCg _ _ hp;exact ⟨n,_,(qIC n _ _ _ _).trans hn,.inl rfl⟩
 ·cases h
def E_z90:EnvP:=eQ [(121,s_z121)] 9 (some [4]) nC nC nP
def C_z90:Code:=cO Tryz.f90
def R_z90:Array ResultVar:=Tryz.f90.results
theorem qID (n:Nat) (s0:List Int) (o0:Lab):evFnP E_z90 n C_z90 R_z90 [.dat (.sl (.int .i32)) s0 o0,.fn 91 []]=qCO n s0:=by
 kernel_rfl
theorem qxk:qe G Tryz.prog 90 s_z90:=by
 refine sQ (E:=E_z90) (c:=C_z90) rfl (fun w S hg=>(qa (qkm w S hg) qc)) Tryz.func90 ?_;intro avs r h;unfold s_z90 at h;split at h
 ·obtain ⟨hp,rfl⟩:=yj h;obtain ⟨n,hn⟩:=qCd _ hp;exact ⟨n,_,(qID n _ _).trans hn,.inl rfl⟩
 ·cases h
def E_z51:EnvP:=eQ [(90,s_z90)] 6 (some [2]) nC nC nP
def C_z51:Code:=cO Tryz.f51
def R_z51:Array ResultVar:=Tryz.f51.results
theorem qIE (n:Nat) (t0:List Int) (o0:Lab):evFnP E_z51 n C_z51 R_z51 [.dat (.sl (.int .i32)) t0 o0]=qCP n t0:=by
 kernel_rfl
theorem qxl:qe G Tryz.prog 51 s_z51:=by
 refine sQ (E:=E_z51) (c:=C_z51) rfl (fun w S hg=>(qa (qxk w S hg) qc)) Tryz.func51 ?_;intro avs r h;unfold s_z51 at h;split at h
 ·obtain ⟨hp,rfl⟩:=yj h;obtain ⟨n,hn⟩:=qCe _ hp;exact ⟨n,_,(qIE n _ _).trans hn,.inl rfl⟩
 ·cases h
def E_z93:EnvP:=eQ [(36,s_z36)] 10 (some [2]) nC nC nP
def C_z93:Code:=cO Tryz.f93
def R_z93:Array ResultVar:=Tryz.f93.results
theorem qIF (n:Nat) (s0:List UInt8) (o0:Lab):evFnP E_z93 n C_z93 R_z93 [db s0 o0]=qCQ n s0:=by
 kernel_rfl
theorem qxm:qe G Tryz.prog 93 s_z93:=by
 refine sQ (E:=E_z93) (c:=C_z93) rfl (fun w S hg=>(qa (qnX w S hg) qc)) Tryz.func93 ?_;intro avs r h;unfold s_z93 at h;split at h
 ·obtain ⟨hp,rfl⟩:=yj h;obtain ⟨n,hn⟩:=qBR _ hp;exact ⟨n,_,(qIF n _ _).trans hn,.inl rfl⟩
 ·cases h
def E_z94:EnvP:=eQ [] 28 (some [2]) (fun x=>if x=3 then some [3,7,8,9] else none) (fun x=>if x=0 then some [3] else if x=1 then some [3,7,8,9] else if x=2 then some [3,7,8,9] else if x=3 then some [3,5,7,8,9] else if x=4 then some [3,5,7,8,9] else none) nP
def C_z94:Code:=cO Tryz.f94
def R_z94:Array ResultVar:=Tryz.f94.results
noncomputable def qku (K:Ex→Fr→Option AV):=fun out3=>K (.exit 0) (frOf [(3,(db out3 (some (3,5))))])
def qoa (n:Nat):Ex→Fr→Option AV:=qp 0 (E_z94.cutb 0) (kSeq (evCP E_z94 (evLP E_z94 n) (sub C_z94 [1,1,1])) (kFnP E_z94 R_z94))
def qtc (out3:List UInt8) (s7:List UInt8) (s8:Int) (s9:Int):Fr:=frOf [(3,(db out3 (some (3,5)))),(7,da s7),(8,dc s8),(9,dc s9)]
theorem qxn (K:Ex→Fr→Option AV):∀ (n:Nat) (out3:List UInt8) (s7:List UInt8) (s8:Int) (s9:Int),evLP E_z94 n (sub C_z94 [1,1,0,1,0,0]) K (qtc out3 s7 s8 s9)=qmh (qku K) n out3 s7 s8 s9:=by
 intro n;induction n with
 | zero=>intros; rfl
 | succ n IH =>
 intro out3 s7 s8 s9;have ih:(fun out3 s7 s8 s9=>evLP E_z94 n (sub C_z94 [1,1,0,1,0,0]) K (qtc out3 s7 s8 s9))=qmh (qku K) n:=by
  funext out3 s7 s8 s9;exact IH out3 s7 s8 s9
 show _=qeG (qku K) (qmh (qku K) n) n out3 s7 s8 s9;rw [← ih];kernel_rfl
theorem qqq (n:Nat) (out3:List UInt8):(qoa n) (.exit 0) (frOf [(3,(db out3 (some (3,5))))])=qcZ n out3:=by
 kernel_rfl
theorem qIG (n:Nat) (s0:List UInt8) (o0:Lab):evFnP E_z94 n C_z94 R_z94 [db s0 o0]=qyJ n s0:=by
 unfold qyJ;rw [show qmh (qcZ n) n=(fun out3 s7 s8 s9=>evLP E_z94 n (sub C_z94 [1,1,0,1,0,0]) (qoa n) (qtc out3 s7 s8 s9)) from by
  funext out3 s7 s8 s9;refine Eq.trans ?_ (qxn (qoa n) n out3 s7 s8 s9).symm;rw [show (qku (qoa n))=(qcZ n) from by
   funext out3;exact qqq n out3]
  all_goals kernel_rfl]
 kernel_rfl
theorem qxo:qe G Tryz.prog 94 s_z94:=by
 refine sQ (E:=E_z94) (c:=C_z94) rfl (fun w S hg=>qc) Tryz.func94 ?_;intro avs r h;unfold s_z94 at h;split at h
 ·obtain ⟨hp,rfl⟩:=yj h;obtain ⟨n,hn⟩:=qBP _ hp;exact ⟨n,_,(qIG n _ _).trans hn,.inl rfl⟩
 ·cases h
end
end Go.Av
