import Derived.Test.YtabdohophompiaaDoorPxEvD
import Derived.Test.YtabdohophompiaaDoorPxN
import Derived.Test.YtabdohophompiaaDoorProg
import Derived.KernelRfl
namespace Go.Av
set_option linter.unusedSimpArgs false
noncomputable section
open Go.Proofs
set_option maxRecDepth 100000
set_option linter.unusedVariables false
def E_z54:EnvP:=eQ [(61,s_z61)] 11 (some [2]) nC nC nP
def C_z54:Code:=cO Tryd.f54
def R_z54:Array ResultVar:=Tryd.f54.results
theorem qxV (n:Nat) (c0:Int) (o0:Lab):evFnP E_z54 n C_z54 R_z54 [dh c0 o0]=qwY n c0:=by
 kernel_rfl
theorem qka:qk G Tryd.prog 54 s_z54:=by
 refine sQ (E:=E_z54) (c:=C_z54) rfl (fun w S hg=>(qb (qjZ w S hg) qe)) Tryd.func54 ?_;intro avs r h;unfold s_z54 at h;split at h <;> cases h
 obtain ⟨n,hn⟩:=qvt _;exact ⟨n,_,(qxV n _ _).trans hn,.inl rfl⟩
def E_z37:EnvP:=eQ [(51,s_z51),(52,s_z52),(53,s_z53),(54,s_z54)] 30 (some [4]) nC (fun x=>if x=0 then some [] else none) nP
def C_z37:Code:=cO Tryd.f37
def R_z37:Array ResultVar:=Tryd.f37.results
theorem qxW (n:Nat) (charset0:Int) (o0:Lab) (c1:Int) (o1:Lab):evFnP E_z37 n C_z37 R_z37 [de charset0 o0,dh c1 o1]=quu n charset0 c1:=by
 kernel_rfl
theorem qkb:qk G Tryd.prog 37 s_z37:=by
 refine sQ (E:=E_z37) (c:=C_z37) rfl (fun w S hg=>(qb (qgE w S hg) (qb (qjQ w S hg) (qb (qqo w S hg) (qb (qka w S hg) qe))))) Tryd.func37 ?_;intro avs r h;unfold s_z37 at h;split at h <;> cases h
 obtain ⟨n,hn⟩:=qvw _ _;exact ⟨n,_,(qxW n _ _ _ _).trans hn,.inl rfl⟩
def E_z21:EnvP:=eQ [(37,s_z37)] 19 (some [2]) (fun x=>if x=3 then some [0,3,5] else none) (fun x=>if x=0 then some [3] else if x=1 then some [0,3,5] else none) nP
def C_z21:Code:=cO Tryd.f21
def R_z21:Array ResultVar:=Tryd.f21.results
noncomputable def qhN (K:Ex→Fr→Option AV):=fun s3=>K (.exit 0) (frOf [(3,dc s3)])
def qkc (n:Nat):Ex→Fr→Option AV:=qL 0 (E_z21.cutb 0) (kSeq (evCP E_z21 (evLP E_z21 n) (sub C_z21 [1,1,1])) (kFnP E_z21 R_z21))
def qnp (c0:Int) (s3:Int) (s5:Int):Fr:=frOf [(0,(dh c0 none)),(3,dc s3),(5,dc s5)]
theorem qqq (K:Ex→Fr→Option AV):∀ (n:Nat) (c0:Int) (s3:Int) (s5:Int),evLP E_z21 n (sub C_z21 [1,1,0,1,0,0]) K (qnp c0 s3 s5)=qgP (qhN K) n c0 s3 s5:=by
 intro n;induction n with
 | zero=>intros; rfl
 | succ n IH =>
 intro c0 s3 s5;have ih:(fun c0 s3 s5=>evLP E_z21 n (sub C_z21 [1,1,0,1,0,0]) K (qnp c0 s3 s5))=qgP (qhN K) n:=by
  funext c0 s3 s5;exact IH c0 s3 s5
 show _=qdq (qhN K) (qgP (qhN K) n) n c0 s3 s5;rw [← ih];kernel_rfl
theorem qln (n:Nat) (s3:Int):(qkc n) (.exit 0) (frOf [(3,dc s3)])=qcf n s3:=by
 kernel_rfl
theorem qxX (n:Nat) (c0:Int) (o0:Lab):evFnP E_z21 n C_z21 R_z21 [dh c0 o0]=qrt n c0:=by
 unfold qrt;rw [show qgP (qcf n) n=(fun c0 s3 s5=>evLP E_z21 n (sub C_z21 [1,1,0,1,0,0]) (qkc n) (qnp c0 s3 s5)) from by
  funext c0 s3 s5;refine Eq.trans ?_ (qqq (qkc n) n c0 s3 s5).symm;rw [show (qhN (qkc n))=(qcf n) from by
   funext s3;exact qln n s3]
  all_goals kernel_rfl]
 kernel_rfl
theorem qqr:qk G Tryd.prog 21 s_z21:=by
 refine sQ (E:=E_z21) (c:=C_z21) rfl (fun w S hg=>(qb (qkb w S hg) qe)) Tryd.func21 ?_;intro avs r h;unfold s_z21 at h;split at h <;> cases h
 obtain ⟨n,hn⟩:=qvH _;exact ⟨n,_,(qxX n _ _).trans hn,.inl rfl⟩
def E_z38:EnvP:=eQ [(56,s_z56)] 8 (some [2]) nC nC nP
def C_z38:Code:=cO Tryd.f38
def R_z38:Array ResultVar:=Tryd.f38.results
theorem qxY (n:Nat) (x0:Int) (o0:Lab):evFnP E_z38 n C_z38 R_z38 [.dat (.int .u64) x0 o0]=quv n x0:=by
 kernel_rfl
theorem qqs:qk G Tryd.prog 38 s_z38:=by
 refine sQ (E:=E_z38) (c:=C_z38) rfl (fun w S hg=>(qb (qpL w S hg) qe)) Tryd.func38 ?_;intro avs r h;unfold s_z38 at h;split at h
 ·obtain ⟨hp,rfl⟩:=yj h;obtain ⟨n,hn⟩:=qvD _ hp;exact ⟨n,_,(qxY n _ _).trans hn,.inl rfl⟩
 ·cases h
def E_z22:EnvP:=eQ [(38,s_z38)] 8 (some [2]) nC nC nP
def C_z22:Code:=cO Tryd.f22
def R_z22:Array ResultVar:=Tryd.f22.results
theorem qxZ (n:Nat) (sets0:Int) (o0:Lab):evFnP E_z22 n C_z22 R_z22 [de sets0 o0]=quw n sets0:=by
 kernel_rfl
theorem qqt:qk G Tryd.prog 22 s_z22:=by
 refine sQ (E:=E_z22) (c:=C_z22) rfl (fun w S hg=>(qb (qqs w S hg) qe)) Tryd.func22 ?_;intro avs r h;unfold s_z22 at h;split at h
 ·obtain ⟨hp,rfl⟩:=yj h;obtain ⟨n,hn⟩:=qvE _ hp;exact ⟨n,_,(qxZ n _ _).trans hn,.inl rfl⟩
 ·cases h
def E_z9:EnvP:=eQ [(21,s_z21),(22,s_z22)] 22 (some [2,3]) (fun x=>if x=3 then some [4,7,8,9] else none) (fun x=>if x=0 then some [4] else if x=1 then some [4,7,8,9] else none) nP
def C_z9:Code:=cO Tryd.f9
def R_z9:Array ResultVar:=Tryd.f9.results
noncomputable def qnq (K:Ex→Fr→Option AV):=fun all4=>K (.exit 0) (frOf [(4,dc all4)])
def qqu (n:Nat):Ex→Fr→Option AV:=qL 0 (E_z9.cutb 0) (kSeq (evCP E_z9 (evLP E_z9 n) (sub C_z9 [1,1,1])) (kFnP E_z9 R_z9))
def qts (all4:Int) (s7:List Int) (s8:Int) (s9:Int):Fr:=frOf [(4,dc all4),(7,(.dat (.sl (.int .i32)) s7 none)),(8,dc s8),(9,dc s9)]
theorem qtt (K:Ex→Fr→Option AV):∀ (n:Nat) (all4:Int) (s7:List Int) (s8:Int) (s9:Int),evLP E_z9 n (sub C_z9 [1,1,0,1,0,0]) K (qts all4 s7 s8 s9)=z9_l3 (qnq K) n all4 s7 s8 s9:=by
 intro n;induction n with
 | zero=>intros; rfl
 | succ n IH =>
 intro all4 s7 s8 s9;have ih:(fun all4 s7 s8 s9=>evLP E_z9 n (sub C_z9 [1,1,0,1,0,0]) K (qts all4 s7 s8 s9))=z9_l3 (qnq K) n:=by
  funext all4 s7 s8 s9;exact IH all4 s7 s8 s9
 show _=qfQ (qnq K) (z9_l3 (qnq K) n) n all4 s7 s8 s9;rw [← ih];kernel_rfl
theorem qnr (n:Nat) (all4:Int):(qqu n) (.exit 0) (frOf [(4,dc all4)])=qfi n all4:=by
 kernel_rfl
theorem z9_ev (n:Nat) (t0:List Int) (o0:Lab):evFnP E_z9 n C_z9 R_z9 [.dat (.sl (.int .i32)) t0 o0]=z9_sh n t0:=by
 unfold z9_sh;rw [show z9_l3 (qfi n) n=(fun all4 s7 s8 s9=>evLP E_z9 n (sub C_z9 [1,1,0,1,0,0]) (qqu n) (qts all4 s7 s8 s9)) from by
  funext all4 s7 s8 s9;refine Eq.trans ?_ (qtt (qqu n) n all4 s7 s8 s9).symm;rw [show (qnq (qqu n))=(qfi n) from by
   funext all4;exact qnr n all4]
  all_goals kernel_rfl]
 kernel_rfl
theorem qtu:qk G Tryd.prog 9 s_z9:=by
 refine sQ (E:=E_z9) (c:=C_z9) rfl (fun w S hg=>(qb (qqr w S hg) (qb (qqt w S hg) qe))) Tryd.func9 ?_;intro avs r h;unfold s_z9 at h;split at h
 ·obtain ⟨hp,rfl⟩:=yj h;obtain ⟨n,hn⟩:=qxe _ hp;exact ⟨n,_,(z9_ev n _ _).trans hn,.inl rfl⟩
 ·cases h
def E_z39:EnvP:=eQ [] 13 (some [2]) nC (fun x=>if x=0 then some [] else none) nP
def C_z39:Code:=cO Tryd.f39
def R_z39:Array ResultVar:=Tryd.f39.results
theorem qya (n:Nat) (charset0:Int) (o0:Lab):evFnP E_z39 n C_z39 R_z39 [de charset0 o0]=quy n charset0:=by
 kernel_rfl
theorem qkd:qk G Tryd.prog 39 s_z39:=by
 refine sQ (E:=E_z39) (c:=C_z39) rfl (fun w S hg=>qe) Tryd.func39 ?_;intro avs r h;unfold s_z39 at h;split at h <;> cases h
 obtain ⟨n,hn⟩:=qvx _;exact ⟨n,_,(qya n _ _).trans hn,.inl rfl⟩
def E_z57:EnvP:=eQ [(37,s_z37)] 20 (some [4]) (fun x=>if x=2 then some [0,7,8,9] else none) (fun x=>if x=0 then some [] else if x=1 then some [0,7,8,9] else none) nP
def C_z57:Code:=cO Tryd.f57
def R_z57:Array ResultVar:=Tryd.f57.results
noncomputable def qke (K:Ex→Fr→Option AV):=fun s4=>K .ret (frOf [(4,dc s4)])
def qkf (n:Nat):Ex→Fr→Option AV:=qL 0 (E_z57.cutb 0) (kSeq (evCP E_z57 (evLP E_z57 n) (sub C_z57 [1,1])) (kFnP E_z57 R_z57))
def qns (charset0:Int) (s7:List Int) (s8:Int) (s9:Int):Fr:=frOf [(0,dc charset0),(7,(.dat (.sl (.int .i32)) s7 none)),(8,dc s8),(9,dc s9)]
theorem qqv (K:Ex→Fr→Option AV):∀ (n:Nat) (charset0:Int) (s7:List Int) (s8:Int) (s9:Int),evLP E_z57 n (sub C_z57 [1,0,1,0,0]) K (qns charset0 s7 s8 s9)=qiO (qke K) (K (.exit 0) (frOf [])) n charset0 s7 s8 s9:=by
 intro n;induction n with
 | zero=>intros; rfl
 | succ n IH =>
 intro charset0 s7 s8 s9;have ih:(fun charset0 s7 s8 s9=>evLP E_z57 n (sub C_z57 [1,0,1,0,0]) K (qns charset0 s7 s8 s9))=qiO (qke K) (K (.exit 0) (frOf [])) n:=by
  funext charset0 s7 s8 s9;exact IH charset0 s7 s8 s9
 show _=qdr (qke K) (K (.exit 0) (frOf [])) (qiO (qke K) (K (.exit 0) (frOf [])) n) n charset0 s7 s8 s9;rw [← ih];kernel_rfl
theorem qlo (n:Nat)  : (qkf n) (.exit 0) (frOf [])=qfj n  := by
 kernel_rfl
theorem qyb (n:Nat) (charset0:Int) (o0:Lab) (t1:List Int) (o1:Lab):evFnP E_z57 n C_z57 R_z57 [de charset0 o0,.dat (.sl (.int .i32)) t1 o1]=qru n charset0 t1:=by
 unfold qru;rw [show qiO qhX (qfj n) n=(fun charset0 s7 s8 s9=>evLP E_z57 n (sub C_z57 [1,0,1,0,0]) (qkf n) (qns charset0 s7 s8 s9)) from by
  funext charset0 s7 s8 s9;refine Eq.trans ?_ (qqv (qkf n) n charset0 s7 s8 s9).symm;rw [show ((qkf n) (.exit 0) (frOf []))=(qfj n) from by
   exact qlo n ]
  all_goals kernel_rfl]
 kernel_rfl
theorem qqw:qk G Tryd.prog 57 s_z57:=by
 refine sQ (E:=E_z57) (c:=C_z57) rfl (fun w S hg=>(qb (qkb w S hg) qe)) Tryd.func57 ?_;intro avs r h;unfold s_z57 at h;split at h
 ·obtain ⟨hp,rfl⟩:=yj h;obtain ⟨n,hn⟩:=qvl _ _ hp;exact ⟨n,_,(qyb n _ _ _ _).trans hn,.inl rfl⟩
 ·cases h
end
end Go.Av
