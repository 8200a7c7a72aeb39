import Derived.Test.YtmdadpepccbpcaaGreatDoorPoEvD
import Derived.Test.YtmdadpepccbpcaaGreatDoorPoD
import Derived.Test.YtmdadpepccbpcaaGreatDoorAvE
import Derived.Test.YtmdadpepccbpcaaGreatDoorProg
import Derived.KernelRfl
namespace Go.Av
set_option linter.unusedSimpArgs false
set_option linter.unusedVariables false
section
noncomputable section
open Go.Proofs
set_option maxRecDepth 100000
set_option linter.unusedVariables false
def qkx:EnvP:=eQ [(105,s_z105)] 20 (some [4]) (fun x=>if x=2 then some [0,7,8,9] else none) (fun x=>if x=0 then some [] else if x=1 then some [0,7,8,9] else none) nP
def qsB:Code:=cO Tryz.f124
def qKj:Array ResultVar:=Tryz.f124.results
noncomputable def qky (K:Ex→Fr→OA):=fun s4=>K .ret (frOf [(4,dc s4)])
def qkz (n:Nat):Ex→Fr→OA:=qo 0 (qkx.cutb 0) (kSeq (evCP qkx (evLP qkx n) (sub qsB [1,1])) (kFnP qkx qKj))
def qop (charset0:Int) (s7:LI) (s8:Int) (s9:Int):Fr:=frOf [(0,dc charset0),(7,(.dat (.sl (.int .i32)) s7 none)),(8,dc s8),(9,dc s9)]
theorem qwa (K:Ex→Fr→OA):∀ (n:Nat) (charset0:Int) (s7:LI) (s8:Int) (s9:Int),evLP qkx n (sub qsB [1,0,1,0,0]) K (qop charset0 s7 s8 s9)=qil (qky K) (K (.exit 0) (frOf [])) n charset0 s7 s8 s9:=by
 intro n;induction n with
 | zero=>intros; rfl
 | succ n IH =>
 intro charset0 s7 s8 s9;have ih:(fun charset0 s7 s8 s9=>evLP qkx n (sub qsB [1,0,1,0,0]) K (qop charset0 s7 s8 s9))=qil (qky K) (K (.exit 0) (frOf [])) n:=by
  funext charset0 s7 s8 s9;exact IH charset0 s7 s8 s9
 show _=qds (qky K) (K (.exit 0) (frOf [])) (qil (qky K) (K (.exit 0) (frOf [])) n) n charset0 s7 s8 s9;rw [← ih];kernel_rfl
theorem qoq (n:Nat)  : (qkz n) (.exit 0) (frOf [])=qeL n  := by
 kernel_rfl
theorem qKk (n:Nat) (charset0:Int) (o0:Lab) (t1:LI) (o1:Lab):evFnP qkx n qsB qKj [de charset0 o0,.dat (.sl (.int .i32)) t1 o1]=qrc n charset0 t1:=by
 unfold qrc;rw [show qil qik (qeL n) n=(fun charset0 s7 s8 s9=>evLP qkx n (sub qsB [1,0,1,0,0]) (qkz n) (qop charset0 s7 s8 s9)) from by
  funext charset0 s7 s8 s9;refine Eq.trans ?_ (qwa (qkz n) n charset0 s7 s8 s9).symm;rw [show ((qkz n) (.exit 0) (frOf []))=(qeL n) from by
   exact qoq n ]
  all_goals kernel_rfl]
 kernel_rfl
theorem qwb:qe G Tryz.prog 124 s_z124:=by
 refine sQ (E:=qkx) (c:=qsB) rfl (fun w S hg=>(qa (qmI w S hg) qc)) Tryz.func124 ?_;intro avs r h;unfold s_z124 at h;split at h
 ·obtain ⟨hp,rfl⟩:=yj h;obtain ⟨n,hn⟩:=qCB _ _ hp;exact ⟨n,_,(qKk n _ _ _ _).trans hn,.inl rfl⟩
 ·cases h
def E_z66:EnvP:=eQ [(65,s_z65),(124,s_z124)] 14 (some [4]) nC nC nP
def C_z66:Code:=cO Tryz.f66
def R_z66:Array ResultVar:=Tryz.f66.results
theorem qNu (n:Nat) (charset0:Int) (o0:Lab) (t1:LI) (o1:Lab):evFnP E_z66 n C_z66 R_z66 [de charset0 o0,.dat (.sl (.int .i32)) t1 o1]=qFR n charset0 t1:=by
 kernel_rfl
theorem qAB:qe G Tryz.prog 66 s_z66:=by
 refine sQ (E:=E_z66) (c:=C_z66) rfl (fun w S hg=>(qa (qqw w S hg) (qa (qwb w S hg) qc))) Tryz.func66 ?_;intro avs r h;unfold s_z66 at h;split at h
 ·obtain ⟨hp,rfl⟩:=yj h;obtain ⟨n,hn⟩:=qGA _ _ hp;exact ⟨n,_,(qNu n _ _ _ _).trans hn,.inl rfl⟩
 ·cases h
def qKl:EnvP:=eQ [(161,s_z161)] 6 (some [2]) nC nC nP
def qKm:Code:=cO Tryz.f224
def qNv:Array ResultVar:=Tryz.f224.results
theorem qKn (n:Nat) (c0:Int) (o0:Lab):evFnP qKl n qKm qNv [di c0 o0]=qDV n c0:=by
 kernel_rfl
theorem qwc:qe G Tryz.prog 224 s_z224:=by
 refine sQ (E:=qKl) (c:=qKm) rfl (fun w S hg=>(qa (qhK w S hg) qc)) Tryz.func224 ?_;intro avs r h;unfold s_z224 at h;split at h <;> cases h
 obtain ⟨n,hn⟩:=qCx _;exact ⟨n,_,(qKn n _ _).trans hn,.inl rfl⟩
def qkA:EnvP:=eQ [(224,s_z224)] 19 (some [4]) (fun x=>if x=2 then some [0,1,7,8] else none) (fun x=>if x=0 then some [] else if x=1 then some [0,1,7,8] else none) nP
def qsC:Code:=cO Tryz.f223
def qKo:Array ResultVar:=Tryz.f223.results
noncomputable def qkB (K:Ex→Fr→OA):=fun s4=>K .ret (frOf [(4,dc s4)])
def qkC (n:Nat):Ex→Fr→OA:=qo 0 (qkA.cutb 0) (kSeq (evCP qkA (evLP qkA n) (sub qsC [1,1])) (kFnP qkA qKo))
def qor (s0:LI) (s7:Int) (s8:Int):Fr:=frOf [(0,(.dat (.sl (.int .i32)) s0 none)),(1,(.fn 224 [])),(7,dc s7),(8,dc s8)]
theorem qwd (K:Ex→Fr→OA):∀ (n:Nat) (s0:LI) (s7:Int) (s8:Int),evLP qkA n (sub qsC [1,0,1,0,0]) K (qor s0 s7 s8)=qin (qkB K) (K (.exit 0) (frOf [])) n s0 s7 s8:=by
 intro n;induction n with
 | zero=>intros; rfl
 | succ n IH =>
 intro s0 s7 s8;have ih:(fun s0 s7 s8=>evLP qkA n (sub qsC [1,0,1,0,0]) K (qor s0 s7 s8))=qin (qkB K) (K (.exit 0) (frOf [])) n:=by
  funext s0 s7 s8;exact IH s0 s7 s8
 show _=qdt (qkB K) (K (.exit 0) (frOf [])) (qin (qkB K) (K (.exit 0) (frOf [])) n) n s0 s7 s8;rw [← ih];kernel_rfl
theorem qos (n:Nat)  : (qkC n) (.exit 0) (frOf [])=qeM n  := by
 kernel_rfl
theorem qKp (n:Nat) (s0:LI) (o0:Lab):evFnP qkA n qsC qKo [.dat (.sl (.int .i32)) s0 o0,.fn 224 []]=qrd n s0:=by
 unfold qrd;rw [show qin qim (qeM n) n=(fun s0 s7 s8=>evLP qkA n (sub qsC [1,0,1,0,0]) (qkC n) (qor s0 s7 s8)) from by
  funext s0 s7 s8;refine Eq.trans ?_ (qwd (qkC n) n s0 s7 s8).symm;rw [show ((qkC n) (.exit 0) (frOf []))=(qeM n) from by
   exact qos n ]
  all_goals kernel_rfl]
 kernel_rfl
theorem qwe:qe G Tryz.prog 223 s_z223:=by
 refine sQ (E:=qkA) (c:=qsC) rfl (fun w S hg=>(qa (qwc w S hg) qc)) Tryz.func223 ?_;intro avs r h;unfold s_z223 at h;split at h
 ·obtain ⟨hp,rfl⟩:=yj h;obtain ⟨n,hn⟩:=qCT _ hp;exact ⟨n,_,(qKp n _ _).trans hn,.inl rfl⟩
 ·cases h
def qKq:EnvP:=eQ [(223,s_z223)] 5 (some [2]) nC nC nP
def qKr:Code:=cO Tryz.f183
def qNw:Array ResultVar:=Tryz.f183.results
theorem qKs (n:Nat) (t0:LI) (o0:Lab):evFnP qKq n qKr qNw [.dat (.sl (.int .i32)) t0 o0]=qxY n t0:=by
 kernel_rfl
theorem qwf:qe G Tryz.prog 183 s_z183:=by
 refine sQ (E:=qKq) (c:=qKr) rfl (fun w S hg=>(qa (qwe w S hg) qc)) Tryz.func183 ?_;intro avs r h;unfold s_z183 at h;split at h
 ·obtain ⟨hp,rfl⟩:=yj h;obtain ⟨n,hn⟩:=qCC _ hp;exact ⟨n,_,(qKs n _ _).trans hn,.inl rfl⟩
 ·cases h
def qKt:EnvP:=eQ [(183,s_z183)] 6 (some [2]) nC nC nP
def qKu:Code:=cO Tryz.f125
def qNx:Array ResultVar:=Tryz.f125.results
theorem qKv (n:Nat) (t0:LI) (o0:Lab):evFnP qKt n qKu qNx [.dat (.sl (.int .i32)) t0 o0]=qya n t0:=by
 kernel_rfl
theorem qwg:qe G Tryz.prog 125 s_z125:=by
 refine sQ (E:=qKt) (c:=qKu) rfl (fun w S hg=>(qa (qwf w S hg) qc)) Tryz.func125 ?_;intro avs r h;unfold s_z125 at h;split at h
 ·obtain ⟨hp,rfl⟩:=yj h;obtain ⟨n,hn⟩:=qCD _ hp;exact ⟨n,_,(qKv n _ _).trans hn,.inl rfl⟩
 ·cases h
def qKw:EnvP:=eQ [(161,s_z161)] 16 (some [2]) nC (fun x=>if x=0 then some [] else none) nP
def qKx:Code:=cO Tryz.f184
def qNy:Array ResultVar:=Tryz.f184.results
theorem qKy (n:Nat) (c0:Int) (o0:Lab):evFnP qKw n qKx qNy [di c0 o0]=qyb n c0:=by
 kernel_rfl
theorem qwh:qe G Tryz.prog 184 s_z184:=by
 refine sQ (E:=qKw) (c:=qKx) rfl (fun w S hg=>(qa (qhK w S hg) qc)) Tryz.func184 ?_;intro avs r h;unfold s_z184 at h;split at h <;> cases h
 obtain ⟨n,hn⟩:=qCE _;exact ⟨n,_,(qKy n _ _).trans hn,.inl rfl⟩
def qKz:EnvP:=eQ [(153,s_z153),(184,s_z184),(185,s_z185)] 56 (some [4,5]) nC (fun x=>if x=0 then some [7] else if x=1 then some [1,7] else if x=2 then some [1,7] else if x=3 then some [1,7] else none) nP
def qKA:Code:=cO Tryz.f126
def qNz:Array ResultVar:=Tryz.f126.results
theorem qKB (n:Nat) (b0:LU) (o0:Lab) (c1:Int) (o1:Lab):evFnP qKz n qKA qNz [db b0 o0,di c1 o1]=qyc n b0 c1:=by
 kernel_rfl
theorem qwi:qe G Tryz.prog 126 s_z126:=by
 refine sQ (E:=qKz) (c:=qKA) rfl (fun w S hg=>(qa (qhF w S hg) (qa (qwh w S hg) (qa (qvA w S hg) qc)))) Tryz.func126 ?_;intro avs r h;unfold s_z126 at h;split at h
 ·obtain ⟨hp,rfl⟩:=yj h;obtain ⟨n,hn⟩:=qCF _ _ hp;exact ⟨n,_,(qKB n _ _ _ _).trans hn,.inl rfl⟩
 ·cases h
def E_z67:EnvP:=eQ [(125,s_z125),(126,s_z126)] 28 (some [2,3]) (fun x=>if x=5 then some [4,12,13,14] else none) (fun x=>if x=0 then some [4] else if x=1 then some [4,12,13,14] else none) nP
def C_z67:Code:=cO Tryz.f67
def R_z67:Array ResultVar:=Tryz.f67.results
noncomputable def qmJ (K:Ex→Fr→OA):=fun out4=>K (.exit 0) (frOf [(4,(db out4 (some (4,5))))])
def qqx (n:Nat):Ex→Fr→OA:=qo 0 (E_z67.cutb 0) (kSeq (evCP E_z67 (evLP E_z67 n) (sub C_z67 [1,1,1,1])) (kFnP E_z67 R_z67))
def qwj (out4:LU) (s12:LI) (s13:Int) (s14:Int):Fr:=frOf [(4,(db out4 (some (4,5)))),(12,(.dat (.sl (.int .i32)) s12 none)),(13,dc s13),(14,dc s14)]
theorem qAC (K:Ex→Fr→OA):∀ (n:Nat) (out4:LU) (s12:LI) (s13:Int) (s14:Int),evLP E_z67 n (sub C_z67 [1,1,1,0,1,0,0]) K (qwj out4 s12 s13 s14)=qoX (qmJ K) n out4 s12 s13 s14:=by
 intro n;induction n with
 | zero=>intros; rfl
 | succ n IH =>
 intro out4 s12 s13 s14;have ih:(fun out4 s12 s13 s14=>evLP E_z67 n (sub C_z67 [1,1,1,0,1,0,0]) K (qwj out4 s12 s13 s14))=qoX (qmJ K) n:=by
  funext out4 s12 s13 s14;exact IH out4 s12 s13 s14
 show _=qfH (qmJ K) (qoX (qmJ K) n) n out4 s12 s13 s14;rw [← ih];kernel_rfl
theorem qsD (n:Nat) (out4:LU):(qqx n) (.exit 0) (frOf [(4,(db out4 (some (4,5))))])=qfI n out4:=by
 kernel_rfl
theorem qNA (n:Nat) (t0:LI) (o0:Lab):evFnP E_z67 n C_z67 R_z67 [.dat (.sl (.int .i32)) t0 o0]=qBH n t0:=by
 unfold qBH;rw [show qoX (qfI n) n=(fun out4 s12 s13 s14=>evLP E_z67 n (sub C_z67 [1,1,1,0,1,0,0]) (qqx n) (qwj out4 s12 s13 s14)) from by
  funext out4 s12 s13 s14;refine Eq.trans ?_ (qAC (qqx n) n out4 s12 s13 s14).symm;rw [show (qmJ (qqx n))=(qfI n) from by
   funext out4;exact qsD n out4]
  all_goals kernel_rfl]
 kernel_rfl
theorem qAD:qe G Tryz.prog 67 s_z67:=by
 refine sQ (E:=E_z67) (c:=C_z67) rfl (fun w S hg=>(qa (qwg w S hg) (qa (qwi w S hg) qc))) Tryz.func67 ?_;intro avs r h;unfold s_z67 at h;split at h
 ·obtain ⟨hp,rfl⟩:=yj h;obtain ⟨n,hn⟩:=qGD _ hp;exact ⟨n,_,(qNA n _ _).trans hn,.inl rfl⟩
 ·cases h
def E_z68:EnvP:=eQ [(127,s_z127)] 28 (some [2,3]) (fun x=>if x=3 then some [4,9,10,11] else none) (fun x=>if x=0 then some [4] else if x=1 then some [4,9,10,11] else none) nP
def C_z68:Code:=cO Tryz.f68
def R_z68:Array ResultVar:=Tryz.f68.results
noncomputable def qqy (K:Ex→Fr→OA):=fun s2 s3=>K .ret (frOf [(2,(db s2 (some (2,5)))),(3,dc s3)])
noncomputable def qmK (K:Ex→Fr→OA):=fun s4=>K (.exit 0) (frOf [(4,(db s4 (some (4,5))))])
def qqz (n:Nat):Ex→Fr→OA:=qo 0 (E_z68.cutb 0) (kSeq (evCP E_z68 (evLP E_z68 n) (sub C_z68 [1,1,1])) (kFnP E_z68 R_z68))
def qwk (s4:LU) (s9:LI) (s10:Int) (s11:Int):Fr:=frOf [(4,(db s4 (some (4,5)))),(9,(.dat (.sl (.int .i32)) s9 none)),(10,dc s10),(11,dc s11)]
theorem qAE (K:Ex→Fr→OA):∀ (n:Nat) (s4:LU) (s9:LI) (s10:Int) (s11:Int),evLP E_z68 n (sub C_z68 [1,1,0,1,0,0]) K (qwk s4 s9 s10 s11)=qoY (qqy K) (qmK K) n s4 s9 s10 s11:=by
 intro n;induction n with
 | zero=>intros; rfl
 | succ n IH =>
 intro s4 s9 s10 s11;have ih:(fun s4 s9 s10 s11=>evLP E_z68 n (sub C_z68 [1,1,0,1,0,0]) K (qwk s4 s9 s10 s11))=qoY (qqy K) (qmK K) n:=by
  funext s4 s9 s10 s11;exact IH s4 s9 s10 s11
 show _=qfJ (qqy K) (qmK K) (qoY (qqy K) (qmK K) n) n s4 s9 s10 s11;rw [← ih];kernel_rfl
theorem qsE (n:Nat) (s4:LU):(qqz n) (.exit 0) (frOf [(4,(db s4 (some (4,5))))])=qfK n s4:=by
 kernel_rfl
theorem qNB (n:Nat) (t0:LI) (o0:Lab):evFnP E_z68 n C_z68 R_z68 [.dat (.sl (.int .i32)) t0 o0]=qBI n t0:=by
 unfold qBI;rw [show qoY qjm (qfK n) n=(fun s4 s9 s10 s11=>evLP E_z68 n (sub C_z68 [1,1,0,1,0,0]) (qqz n) (qwk s4 s9 s10 s11)) from by
  funext s4 s9 s10 s11;refine Eq.trans ?_ (qAE (qqz n) n s4 s9 s10 s11).symm;rw [show (qmK (qqz n))=(qfK n) from by
   funext s4;exact qsE n s4]
  all_goals kernel_rfl]
 kernel_rfl
theorem qAF:qe G Tryz.prog 68 s_z68:=by
 refine sQ (E:=E_z68) (c:=C_z68) rfl (fun w S hg=>(qa (qmF w S hg) qc)) Tryz.func68 ?_;intro avs r h;unfold s_z68 at h;split at h
 ·obtain ⟨hp,rfl⟩:=yj h;obtain ⟨n,hn⟩:=qGB _ hp;exact ⟨n,_,(qNB n _ _).trans hn,.inl rfl⟩
 ·cases h
def qkD:EnvP:=eQ [(160,s_z160)] 17 (some [2]) (fun x=>if x=2 then some [5,6,7] else none) (fun x=>if x=0 then some [] else if x=1 then some [5,6,7] else none) nP
def qsF:Code:=cO Tryz.f128
def qKC:Array ResultVar:=Tryz.f128.results
noncomputable def qkE (K:Ex→Fr→OA):=fun s2=>K .ret (frOf [(2,dc s2)])
def qkF (n:Nat):Ex→Fr→OA:=qo 0 (qkD.cutb 0) (kSeq (evCP qkD (evLP qkD n) (sub qsF [1,1])) (kFnP qkD qKC))
def qot (s5:LI) (s6:Int) (s7:Int):Fr:=frOf [(5,(.dat (.sl (.int .i32)) s5 none)),(6,dc s6),(7,dc s7)]
theorem qwl (K:Ex→Fr→OA):∀ (n:Nat) (s5:LI) (s6:Int) (s7:Int),evLP qkD n (sub qsF [1,0,1,0,0]) K (qot s5 s6 s7)=qiq (qkE K) (K (.exit 0) (frOf [])) n s5 s6 s7:=by
 intro n;induction n with
 | zero=>intros; rfl
 | succ n IH =>
 intro s5 s6 s7;have ih:(fun s5 s6 s7=>evLP qkD n (sub qsF [1,0,1,0,0]) K (qot s5 s6 s7))=qiq (qkE K) (K (.exit 0) (frOf [])) n:=by
  funext s5 s6 s7;exact IH s5 s6 s7
 show _=qdu (qkE K) (K (.exit 0) (frOf [])) (qiq (qkE K) (K (.exit 0) (frOf [])) n) n s5 s6 s7;rw [← ih];kernel_rfl
theorem qou (n:Nat)  : (qkF n) (.exit 0) (frOf [])=qeN n  := by
 kernel_rfl
theorem qKD (n:Nat) (t0:LI) (o0:Lab):evFnP qkD n qsF qKC [.dat (.sl (.int .i32)) t0 o0]=qre n t0:=by
 unfold qre;rw [show qiq qip (qeN n) n=(fun s5 s6 s7=>evLP qkD n (sub qsF [1,0,1,0,0]) (qkF n) (qot s5 s6 s7)) from by
  funext s5 s6 s7;refine Eq.trans ?_ (qwl (qkF n) n s5 s6 s7).symm;rw [show ((qkF n) (.exit 0) (frOf []))=(qeN n) from by
   exact qou n ]
  all_goals kernel_rfl]
 kernel_rfl
theorem qwm:qe G Tryz.prog 128 s_z128:=by
 refine sQ (E:=qkD) (c:=qsF) rfl (fun w S hg=>(qa (qmH w S hg) qc)) Tryz.func128 ?_;intro avs r h;unfold s_z128 at h;split at h
 ·obtain ⟨hp,rfl⟩:=yj h;obtain ⟨n,hn⟩:=qCz _ hp;exact ⟨n,_,(qKD n _ _).trans hn,.inl rfl⟩
 ·cases h
def E_z69:EnvP:=eQ [(128,s_z128),(129,s_z129)] 32 (some [2,3]) (fun x=>if x=5 then some [4,15,16,17] else none) (fun x=>if x=0 then some [4] else if x=1 then some [4,15,16,17] else none) nP
def C_z69:Code:=cO Tryz.f69
def R_z69:Array ResultVar:=Tryz.f69.results
noncomputable def qmL (K:Ex→Fr→OA):=fun s4=>K (.exit 0) (frOf [(4,(db s4 (some (4,5))))])
def qqA (n:Nat):Ex→Fr→OA:=qo 0 (E_z69.cutb 0) (kSeq (evCP E_z69 (evLP E_z69 n) (sub C_z69 [1,1,1,1])) (kFnP E_z69 R_z69))
def qwn (s4:LU) (s15:LI) (s16:Int) (s17:Int):Fr:=frOf [(4,(db s4 (some (4,5)))),(15,(.dat (.sl (.int .i32)) s15 none)),(16,dc s16),(17,dc s17)]
theorem qAG (K:Ex→Fr→OA):∀ (n:Nat) (s4:LU) (s15:LI) (s16:Int) (s17:Int),evLP E_z69 n (sub C_z69 [1,1,1,0,1,0,0]) K (qwn s4 s15 s16 s17)=qoZ (qmL K) n s4 s15 s16 s17:=by
 intro n;induction n with
 | zero=>intros; rfl
 | succ n IH =>
 intro s4 s15 s16 s17;have ih:(fun s4 s15 s16 s17=>evLP E_z69 n (sub C_z69 [1,1,1,0,1,0,0]) K (qwn s4 s15 s16 s17))=qoZ (qmL K) n:=by
  funext s4 s15 s16 s17;exact IH s4 s15 s16 s17
 show _=qfL (qmL K) (qoZ (qmL K) n) n s4 s15 s16 s17;rw [← ih];kernel_rfl
theorem qsG (n:Nat) (s4:LU):(qqA n) (.exit 0) (frOf [(4,(db s4 (some (4,5))))])=qfM n s4:=by
 kernel_rfl
theorem qNC (n:Nat) (t0:LI) (o0:Lab):evFnP E_z69 n C_z69 R_z69 [.dat (.sl (.int .i32)) t0 o0]=qBJ n t0:=by
 unfold qBJ;rw [show qoZ (qfM n) n=(fun s4 s15 s16 s17=>evLP E_z69 n (sub C_z69 [1,1,1,0,1,0,0]) (qqA n) (qwn s4 s15 s16 s17)) from by
  funext s4 s15 s16 s17;refine Eq.trans ?_ (qAG (qqA n) n s4 s15 s16 s17).symm;rw [show (qmL (qqA n))=(qfM n) from by
   funext s4;exact qsG n s4]
  all_goals kernel_rfl]
 kernel_rfl
theorem qAH:qe G Tryz.prog 69 s_z69:=by
 refine sQ (E:=E_z69) (c:=C_z69) rfl (fun w S hg=>(qa (qwm w S hg) (qa (qmG w S hg) qc))) Tryz.func69 ?_;intro avs r h;unfold s_z69 at h;split at h
 ·obtain ⟨hp,rfl⟩:=yj h;obtain ⟨n,hn⟩:=qGC _ hp;exact ⟨n,_,(qNC n _ _).trans hn,.inl rfl⟩
 ·cases h
def qkG:EnvP:=eQ [(158,s_z158)] 17 (some [2]) (fun x=>if x=2 then some [0,5,6] else none) (fun x=>if x=0 then some [] else if x=1 then some [0,5,6] else none) nP
def qsH:Code:=cO Tryz.f130
def qKE:Array ResultVar:=Tryz.f130.results
noncomputable def qkH (K:Ex→Fr→OA):=fun s2=>K .ret (frOf [(2,dc s2)])
def qkI (n:Nat):Ex→Fr→OA:=qo 0 (qkG.cutb 0) (kSeq (evCP qkG (evLP qkG n) (sub qsH [1,1])) (kFnP qkG qKE))
def qov (t0:LI) (s5:Int) (s6:Int):Fr:=frOf [(0,(.dat (.sl (.int .i32)) t0 none)),(5,dc s5),(6,dc s6)]
theorem qwo (K:Ex→Fr→OA):∀ (n:Nat) (t0:LI) (s5:Int) (s6:Int),evLP qkG n (sub qsH [1,0,1,0,0]) K (qov t0 s5 s6)=qis (qkH K) (K (.exit 0) (frOf [])) n t0 s5 s6:=by
 intro n;induction n with
 | zero=>intros; rfl
 | succ n IH =>
 intro t0 s5 s6;have ih:(fun t0 s5 s6=>evLP qkG n (sub qsH [1,0,1,0,0]) K (qov t0 s5 s6))=qis (qkH K) (K (.exit 0) (frOf [])) n:=by
  funext t0 s5 s6;exact IH t0 s5 s6
 show _=qdv (qkH K) (K (.exit 0) (frOf [])) (qis (qkH K) (K (.exit 0) (frOf [])) n) n t0 s5 s6;rw [← ih];kernel_rfl
theorem qow (n:Nat)  : (qkI n) (.exit 0) (frOf [])=qeO n  := by
 kernel_rfl
theorem qKF (n:Nat) (t0:LI) (o0:Lab):evFnP qkG n qsH qKE [.dat (.sl (.int .i32)) t0 o0]=qrf n t0:=by
 unfold qrf;rw [show qis qir (qeO n) n=(fun t0 s5 s6=>evLP qkG n (sub qsH [1,0,1,0,0]) (qkI n) (qov t0 s5 s6)) from by
  funext t0 s5 s6;refine Eq.trans ?_ (qwo (qkI n) n t0 s5 s6).symm;rw [show ((qkI n) (.exit 0) (frOf []))=(qeO n) from by
   exact qow n ]
  all_goals kernel_rfl]
 kernel_rfl
theorem qwp:qe G Tryz.prog 130 s_z130:=by
 refine sQ (E:=qkG) (c:=qsH) rfl (fun w S hg=>(qa (qmE w S hg) qc)) Tryz.func130 ?_;intro avs r h;unfold s_z130 at h;split at h
 ·obtain ⟨hp,rfl⟩:=yj h;obtain ⟨n,hn⟩:=qCA _ hp;exact ⟨n,_,(qKF n _ _).trans hn,.inl rfl⟩
 ·cases h
end
end
end Go.Av
