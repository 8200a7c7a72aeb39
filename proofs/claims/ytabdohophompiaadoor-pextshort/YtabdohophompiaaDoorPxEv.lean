import Derived.Test.YtabdohophompiaaDoorPxEvH
import Derived.Test.YtabdohophompiaaDoorPxN
import Derived.Test.YtabdohophompiaaDoorProg
import Derived.KernelRfl
namespace Go.Av
set_option linter.unusedSimpArgs false
noncomputable section
open Go.Proofs
set_option maxRecDepth 100000
set_option linter.unusedVariables false
def E_z4:EnvP:=eQ [(5,s_z5),(6,s_z6)] 54 (some [0]) nC nC nP
def C_z4:Code:=cO Tryd.f4
def R_z4:Array ResultVar:=Tryd.f4.results
theorem z4_ev (n:Nat)  : evFnP E_z4 n C_z4 R_z4 []=z4_sh n  := by
 kernel_rfl
theorem qtm:qk G Tryd.prog 4 s_z4:=by
 refine sQ (E:=E_z4) (c:=C_z4) rfl (fun w S hg=>(qb (qiH w S hg) (qb (qtx w S hg) qe))) Tryd.func4 ?_;intro avs r h;unfold s_z4 at h;split at h <;> cases h
 obtain ⟨n,hn⟩:=qwE;exact ⟨n,_,(z4_ev n ).trans hn,.inl rfl⟩
def E_z3:EnvP:=eQ [(4,s_z4),(5,s_z5)] 68 (some [4]) (fun x=>if x=7 then some [5,34,35,36] else if x=12 then some [5,34,35,36,48,49,50] else none) (fun x=>if x=0 then some [5] else if x=1 then some [5,34,35,36] else if x=2 then some [5,34,35,36] else if x=3 then some [5,34,35,36,48,49,50] else none) nP
def C_z3:Code:=cO Tryd.f3
def R_z3:Array ResultVar:=Tryd.f3.results
def qhI (l5:List (List UInt8)) (s34:List (List UInt8)) (s35:Int) (s36:Int):Fr:=frOf [(5,(.dat (.sl (.sl .byte)) l5 none)),(34,(.dat (.sl (.sl .byte)) s34 none)),(35,dc s35),(36,dc s36)]
noncomputable def qnd (K:Ex→Fr→Option AV):=fun l5 s34 s35 s36=>K (.exit 2) (qhI l5 s34 s35 s36)
noncomputable def qeZ (K:Ex→Fr→Option AV):=fun s4=>K .ret (frOf [(4,df s4)])
noncomputable def qiE (K:Ex→Fr→Option AV):=fun l5=>K (.exit 0) (frOf [(5,(.dat (.sl (.sl .byte)) l5 none))])
def qpH (n:Nat) (K:Ex→Fr→Option AV):Ex→Fr→Option AV:=qL 2 (E_z3.cutb 2) (qL 1 (E_z3.cutb 1) (kSeq (evCP E_z3 (evLP E_z3 n) (sub C_z3 [1,1,1,1,0,1,0,0,1,1,1])) (kSeq (fun K fr=>evLP E_z3 n (sub C_z3 [1,1,1,1,0,1,0,0]) K (cutFP (E_z3.cuts 7) fr)) K)))
def qpI (n:Nat):Ex→Fr→Option AV:=qL 0 (E_z3.cutb 0) (kSeq (evCP E_z3 (evLP E_z3 n) (sub C_z3 [1,1,1,1,1])) (kFnP E_z3 R_z3))
def qtn (l5:List (List UInt8)) (s34:List (List UInt8)) (s35:Int) (s36:Int) (s48:List UInt8) (s49:Int) (s50:Int):Fr:=frOf [(5,(.dat (.sl (.sl .byte)) l5 none)),(34,(.dat (.sl (.sl .byte)) s34 none)),(35,dc s35),(36,dc s36),(48,da s48),(49,dc s49),(50,dc s50)]
theorem qpJ (K:Ex→Fr→Option AV):∀ (n:Nat) (l5:List (List UInt8)) (s34:List (List UInt8)) (s35:Int) (s36:Int) (s48:List UInt8) (s49:Int) (s50:Int),evLP E_z3 n (sub C_z3 [1,1,1,1,0,1,0,0,1,1,0,0,1,1,1,0,0]) K (qtn l5 s34 s35 s36 s48 s49 s50)=qgV (qeZ K) (qnd K) n l5 s34 s35 s36 s48 s49 s50:=by
 intro n;induction n with
 | zero=>intros; rfl
 | succ n IH =>
 intro l5 s34 s35 s36 s48 s49 s50;have ih:(fun l5 s34 s35 s36 s48 s49 s50=>evLP E_z3 n (sub C_z3 [1,1,1,1,0,1,0,0,1,1,0,0,1,1,1,0,0]) K (qtn l5 s34 s35 s36 s48 s49 s50))=qgV (qeZ K) (qnd K) n:=by
  funext l5 s34 s35 s36 s48 s49 s50;exact IH l5 s34 s35 s36 s48 s49 s50
 show _=qdF (qeZ K) (qnd K) (qgV (qeZ K) (qnd K) n) n l5 s34 s35 s36 s48 s49 s50;rw [← ih];kernel_rfl
theorem qlg (K:Ex→Fr→Option AV) (n:Nat) (l5:List (List UInt8)) (s34:List (List UInt8)) (s35:Int) (s36:Int):(qpH n K) (.exit 2) (qhI l5 s34 s35 s36)=qdG (fun s4=>K .ret (frOf [(4,df s4)])) (fun l5=>K (.exit 0) (frOf [(5,(.dat (.sl (.sl .byte)) l5 none))])) (fun l5 s34 s35 s36=>evLP E_z3 n (sub C_z3 [1,1,1,1,0,1,0,0]) K (qhI l5 s34 s35 s36)) n l5 s34 s35 s36:=by
 kernel_rfl
theorem qto (K:Ex→Fr→Option AV):∀ (n:Nat) (l5:List (List UInt8)) (s34:List (List UInt8)) (s35:Int) (s36:Int),evLP E_z3 n (sub C_z3 [1,1,1,1,0,1,0,0]) K (qhI l5 s34 s35 s36)=z3_l7 (qeZ K) (qiE K) n l5 s34 s35 s36:=by
 intro n;induction n with
 | zero=>intros; rfl
 | succ n IH =>
 intro l5 s34 s35 s36;have ih:(fun l5 s34 s35 s36=>evLP E_z3 n (sub C_z3 [1,1,1,1,0,1,0,0]) K (qhI l5 s34 s35 s36))=z3_l7 (qeZ K) (qiE K) n:=by
  funext l5 s34 s35 s36;exact IH l5 s34 s35 s36
 show _=qfn (qeZ K) (qiE K) (z3_l7 (qeZ K) (qiE K) n) n l5 s34 s35 s36;rw [← ih];unfold qfn;rw [show qgV (qeZ K) (qdG (qeZ K) (qiE K) (fun l5 s34 s35 s36=>evLP E_z3 n (sub C_z3 [1,1,1,1,0,1,0,0]) K (qhI l5 s34 s35 s36)) n) n=(fun l5 s34 s35 s36 s48 s49 s50=>evLP E_z3 n (sub C_z3 [1,1,1,1,0,1,0,0,1,1,0,0,1,1,1,0,0]) (qpH n K) (qtn l5 s34 s35 s36 s48 s49 s50)) from by
  funext l5 s34 s35 s36 s48 s49 s50;refine Eq.trans ?_ (qpJ (qpH n K) n l5 s34 s35 s36 s48 s49 s50).symm;rw [show (qnd (qpH n K))=(qdG (qeZ K) (qiE K) (fun l5 s34 s35 s36=>evLP E_z3 n (sub C_z3 [1,1,1,1,0,1,0,0]) K (qhI l5 s34 s35 s36)) n) from by
   funext l5 s34 s35 s36;exact qlg K n l5 s34 s35 s36]
  all_goals kernel_rfl]
 kernel_rfl
theorem qne (n:Nat) (l5:List (List UInt8)):(qpI n) (.exit 0) (frOf [(5,(.dat (.sl (.sl .byte)) l5 none))])=qfX n l5:=by
 kernel_rfl
theorem z3_ev (n:Nat) (name0:List UInt8) (o0:Lab) (t1:List Int) (o1:Lab):evFnP E_z3 n C_z3 R_z3 [db name0 o0,.dat (.sl (.int .i32)) t1 o1]=z3_sh n name0 t1:=by
 unfold z3_sh;rw [show z3_l7 qfC (qfX n) n=(fun l5 s34 s35 s36=>evLP E_z3 n (sub C_z3 [1,1,1,1,0,1,0,0]) (qpI n) (qhI l5 s34 s35 s36)) from by
  funext l5 s34 s35 s36;refine Eq.trans ?_ (qto (qpI n) n l5 s34 s35 s36).symm;rw [show (qiE (qpI n))=(qfX n) from by
   funext l5;exact qne n l5]
  all_goals kernel_rfl]
 kernel_rfl
theorem qtp:qk G Tryd.prog 3 s_z3:=by
 refine sQ (E:=E_z3) (c:=C_z3) rfl (fun w S hg=>(qb (qtm w S hg) (qb (qiH w S hg) qe))) Tryd.func3 ?_;intro avs r h;unfold s_z3 at h;split at h <;> cases h
 obtain ⟨n,hn⟩:=qwO _ _;exact ⟨n,_,(z3_ev n _ _ _ _).trans hn,.inl rfl⟩
end
end Go.Av
