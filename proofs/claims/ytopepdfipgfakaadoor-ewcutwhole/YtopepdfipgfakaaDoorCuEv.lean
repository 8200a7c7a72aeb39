import Derived.Test.YtopepdfipgfakaaDoorCuEvF
import Derived.Test.YtopepdfipgfakaaDoorCuC
import Derived.Test.YtopepdfipgfakaaDoorProg
import Derived.KernelRfl
namespace Go.Av
set_option linter.unusedSimpArgs false
noncomputable section
open Go.Proofs
set_option maxRecDepth 100000
set_option linter.unusedVariables false
def E_z24:EnvP:=eQ [(27,s_z27),(28,s_z28),(39,s_z39),(40,s_z40),(41,s_z41)] 41 (some [1000006,7]) nC (fun x=>if x=0 then some [0,1,2] else none) (fun x=>if x=32 then some (.osl 5 .byte) else if x=34 then some (.osl 5 .byte) else if x=36 then some (.osl 5 .byte) else none)
def C_z24:Code:=cO Tryd.f24
def R_z24:Array ResultVar:=Tryd.f24.results
theorem qyp (n:Nat) (charset0:Int) (o0:Lab) (code1:Int) (o1:Lab) (s2:List UInt8) (o2:Lab):evFnP E_z24 n C_z24 R_z24 [.dat (.int .i64) charset0 o0,.dat (.int .i64) code1 o1,.dat (.sl .byte) s2 o2]=quX n charset0 code1 s2:=by
 kernel_rfl
theorem qpq:qg Gc Tryd.prog 24 s_z24:=by
 refine sQ (E:=E_z24) (c:=C_z24) rfl (fun w S hg=>(qb (qjU w S hg) (qb (qjW w S hg) (qb (qjV w S hg) (qb (qqS w S hg) (qb (qqX w S hg) qd)))))) Tryd.func24 ?_
 intro avs r h
 unfold s_z24 at h
 split at h
 ·obtain ⟨hp,rfl⟩:=Prod.mk.inj h
  obtain ⟨n,hn⟩:=qvD _ _ _ hp
  exact ⟨n,_,(qyp n _ _ _ _ _ _).trans hn,.inl rfl⟩
 ·cases h
def E_z15:EnvP:=eQ [(23,s_z23),(24,s_z24)] 25 (some [1000006,7]) nC nC nP
def C_z15:Code:=cO Tryd.f15
def R_z15:Array ResultVar:=Tryd.f15.results
theorem qyq (n:Nat) (charset0:Int) (o0:Lab) (code1:Int) (o1:Lab) (p2:List Int) (o2:Lab):evFnP E_z15 n C_z15 R_z15 [.dat (.int .i64) charset0 o0,.dat (.int .i64) code1 o1,.dat (.sl (.int .i32)) p2 o2]=quY n charset0 code1 p2:=by
 kernel_rfl
theorem qpr:qg Gc Tryd.prog 15 s_z15:=by
 refine sQ (E:=E_z15) (c:=C_z15) rfl (fun w S hg=>(qb (qjQ w S hg) (qb (qpq w S hg) qd))) Tryd.func15 ?_
 intro avs r h
 unfold s_z15 at h
 split at h
 ·obtain ⟨hp,rfl⟩:=Prod.mk.inj h
  obtain ⟨n,hn⟩:=quj _ _ _ hp
  exact ⟨n,_,(qyq n _ _ _ _ _ _).trans hn,.inl rfl⟩
 ·cases h
def E_z8:EnvP:=eQ [(5,s_z5),(14,s_z14),(15,s_z15)] 57 (some [4,5]) (fun x=>if x=9 then some [6,7,10,35,36,37] else none) (fun x=>if x=0 then some [10] else if x=1 then some [6,7,10,35,36,37] else none) nP
def C_z8:Code:=cO Tryd.f8
def R_z8:Array ResultVar:=Tryd.f8.results
noncomputable def qps (K:Ex→Fr→Option AV):=fun s4 s5=>K .ret (frOf [(4,(.dat (.sl (.sl .byte)) s4 (some (4,31)))),(5,(.dat (.int .i64) s5 none))])
noncomputable def qmY (K:Ex→Fr→Option AV):=fun out10=>K (.exit 0) (frOf [(10,(.dat (.sl (.sl .byte)) out10 (some (10,31))))])
def qpt (n:Nat):Ex→Fr→Option AV:=qN 0 (E_z8.cutb 0) (kSeq (evCP E_z8 (evLP E_z8 n) (sub C_z8 [1,1,1,1,1,1,1])) (kFnP E_z8 R_z8))
def qtH (charset6:Int) (code7:Int) (out10:List (List UInt8)) (s35:List (List Int)) (s36:Int) (s37:Int):Fr:=frOf [(6,(.dat (.int .i64) charset6 none)),(7,(.dat (.int .i64) code7 none)),(10,(.dat (.sl (.sl .byte)) out10 (some (10,31)))),(35,(.dat (.sl (.sl (.int .i32))) s35 none)),(36,(.dat (.int .i64) s36 none)),(37,(.dat (.int .i64) s37 none))]
theorem qtI (K:Ex→Fr→Option AV):∀ (n:Nat) (charset6:Int) (code7:Int) (out10:List (List UInt8)) (s35:List (List Int)) (s36:Int) (s37:Int),evLP E_z8 n (sub C_z8 [1,1,1,1,1,1,0,1,0,0]) K (qtH charset6 code7 out10 s35 s36 s37)=z8_l9 (qps K) (qmY K) n charset6 code7 out10 s35 s36 s37:=by
 intro n
 induction n with
 | zero=>intros; rfl
 | succ n IH =>
 intro charset6 code7 out10 s35 s36 s37
 have ih:(fun charset6 code7 out10 s35 s36 s37=>evLP E_z8 n (sub C_z8 [1,1,1,1,1,1,0,1,0,0]) K (qtH charset6 code7 out10 s35 s36 s37))=z8_l9 (qps K) (qmY K) n:=by
  funext charset6 code7 out10 s35 s36 s37
  exact IH charset6 code7 out10 s35 s36 s37
 show _=qfu (qps K) (qmY K) (z8_l9 (qps K) (qmY K) n) n charset6 code7 out10 s35 s36 s37
 rw [← ih]
 kernel_rfl
theorem qmZ (n:Nat) (out10:List (List UInt8)):(qpt n) (.exit 0) (frOf [(10,(.dat (.sl (.sl .byte)) out10 (some (10,31))))])=qhE n out10:=by
 kernel_rfl
theorem z8_ev (n:Nat) (t0:List Int) (o0:Lab) (first1:Int) (o1:Lab):evFnP E_z8 n C_z8 R_z8 [.dat (.sl (.int .i32)) t0 o0,.dat (.int .i64) first1 o1]=z8_sh n t0 first1:=by
 unfold z8_sh
 rw [show z8_l9 qeP (qhE n) n=(fun charset6 code7 out10 s35 s36 s37=>evLP E_z8 n (sub C_z8 [1,1,1,1,1,1,0,1,0,0]) (qpt n) (qtH charset6 code7 out10 s35 s36 s37)) from by
  funext charset6 code7 out10 s35 s36 s37
  refine Eq.trans ?_ (qtI (qpt n) n charset6 code7 out10 s35 s36 s37).symm
  rw [show (qmY (qpt n))=(qhE n) from by
   funext out10
   exact qmZ n out10]
  all_goals kernel_rfl]
 kernel_rfl
theorem qir:qg Gc Tryd.prog 8 s_z8:=by
 refine sQ (E:=E_z8) (c:=C_z8) rfl (fun w S hg=>(qb (qnx w S hg) (qb (qqN w S hg) (qb (qpr w S hg) qd)))) Tryd.func8 ?_
 intro avs r h
 unfold s_z8 at h
 split at h
 ·obtain ⟨hp,rfl⟩:=Prod.mk.inj h
  obtain ⟨n,hn⟩:=qxn _ _ hp
  exact ⟨n,_,(z8_ev n _ _ _ _).trans hn,.inl rfl⟩
 ·cases h
def E_z7:EnvP:=eQ [(8,s_z8),(13,s_z13)] 21 (some [1000004,5]) nC nC nP
def C_z7:Code:=cO Tryd.f7
def R_z7:Array ResultVar:=Tryd.f7.results
theorem z7_ev (n:Nat) (t0:List Int) (o0:Lab) (first1:Int) (o1:Lab):evFnP E_z7 n C_z7 R_z7 [.dat (.sl (.int .i32)) t0 o0,.dat (.int .i64) first1 o1]=z7_sh n t0 first1:=by
 kernel_rfl
theorem qtJ:qg Gc Tryd.prog 7 s_z7:=by
 refine sQ (E:=E_z7) (c:=C_z7) rfl (fun w S hg=>(qb (qir w S hg) (qb (qpA w S hg) qd))) Tryd.func7 ?_
 intro avs r h
 unfold s_z7 at h
 split at h
 ·obtain ⟨hp,rfl⟩:=Prod.mk.inj h
  obtain ⟨n,hn⟩:=qxo _ _ hp
  exact ⟨n,_,(z7_ev n _ _ _ _).trans hn,.inl rfl⟩
 ·cases h
def E_z9:EnvP:=eQ [(8,s_z8)] 15 (some [4]) nC nC nP
def C_z9:Code:=cO Tryd.f9
def R_z9:Array ResultVar:=Tryd.f9.results
theorem z9_ev (n:Nat) (t0:List Int) (o0:Lab) (first1:Int) (o1:Lab):evFnP E_z9 n C_z9 R_z9 [.dat (.sl (.int .i32)) t0 o0,.dat (.int .i64) first1 o1]=z9_sh n t0 first1:=by
 kernel_rfl
theorem qtK:qg Gc Tryd.prog 9 s_z9:=by
 refine sQ (E:=E_z9) (c:=C_z9) rfl (fun w S hg=>(qb (qir w S hg) qd)) Tryd.func9 ?_
 intro avs r h
 unfold s_z9 at h
 split at h
 ·obtain ⟨hp,rfl⟩:=Prod.mk.inj h
  obtain ⟨n,hn⟩:=qxp _ _ hp
  exact ⟨n,_,(z9_ev n _ _ _ _).trans hn,.inl rfl⟩
 ·cases h
def E_z4:EnvP:=eQ [(7,s_z7),(8,s_z8),(9,s_z9)] 31 (some [0]) nC nC nP
def C_z4:Code:=cO Tryd.f4
def R_z4:Array ResultVar:=Tryd.f4.results
theorem z4_ev (n:Nat)  : evFnP E_z4 n C_z4 R_z4 []=z4_sh n  := by
 kernel_rfl
theorem qtL:qg Gc Tryd.prog 4 s_z4:=by
 refine sQ (E:=E_z4) (c:=C_z4) rfl (fun w S hg=>(qb (qtJ w S hg) (qb (qir w S hg) (qb (qtK w S hg) qd)))) Tryd.func4 ?_
 intro avs r h
 unfold s_z4 at h
 split at h <;> cases h
 obtain ⟨n,hn⟩:=qxS
 exact ⟨n,_,(z4_ev n ).trans hn,.inl rfl⟩
def E_z6:EnvP:=eQ [] 26 (some [4]) (fun x=>if x=4 then some [0,1,5] else none) (fun x=>if x=0 then some [] else if x=1 then some [0,1,5] else none) nP
def C_z6:Code:=cO Tryd.f6
def R_z6:Array ResultVar:=Tryd.f6.results
noncomputable def qpu (K:Ex→Fr→Option AV):=fun s4=>K .ret (frOf [(4,(.dat .bool s4 none))])
def qpv (n:Nat):Ex→Fr→Option AV:=qN 0 (E_z6.cutb 0) (kSeq (evCP E_z6 (evLP E_z6 n) (sub C_z6 [1,1,1])) (kFnP E_z6 R_z6))
def qtM (a0:List Int) (b1:List Int) (i5:Int):Fr:=frOf [(0,(.dat (.sl (.int .i32)) a0 none)),(1,(.dat (.sl (.int .i32)) b1 none)),(5,(.dat (.int .i64) i5 none))]
theorem qtN (K:Ex→Fr→Option AV):∀ (n:Nat) (a0:List Int) (b1:List Int) (i5:Int),evLP E_z6 n (sub C_z6 [1,1,0,1,0,0]) K (qtM a0 b1 i5)=z6_l4 (qpu K) (K (.exit 0) (frOf [])) n a0 b1 i5:=by
 intro n
 induction n with
 | zero=>intros; rfl
 | succ n IH =>
 intro a0 b1 i5
 have ih:(fun a0 b1 i5=>evLP E_z6 n (sub C_z6 [1,1,0,1,0,0]) K (qtM a0 b1 i5))=z6_l4 (qpu K) (K (.exit 0) (frOf [])) n:=by
  funext a0 b1 i5
  exact IH a0 b1 i5
 show _=qfv (qpu K) (K (.exit 0) (frOf [])) (z6_l4 (qpu K) (K (.exit 0) (frOf [])) n) n a0 b1 i5
 rw [← ih]
 kernel_rfl
theorem qna (n:Nat)  : (qpv n) (.exit 0) (frOf [])=qkq n  := by
 kernel_rfl
theorem z6_ev (n:Nat) (a0:List Int) (o0:Lab) (b1:List Int) (o1:Lab):evFnP E_z6 n C_z6 R_z6 [.dat (.sl (.int .i32)) a0 o0,.dat (.sl (.int .i32)) b1 o1]=z6_sh n a0 b1:=by
 unfold z6_sh
 rw [show z6_l4 qlA (qkq n) n=(fun a0 b1 i5=>evLP E_z6 n (sub C_z6 [1,1,0,1,0,0]) (qpv n) (qtM a0 b1 i5)) from by
  funext a0 b1 i5
  refine Eq.trans ?_ (qtN (qpv n) n a0 b1 i5).symm
  rw [show ((qpv n) (.exit 0) (frOf []))=(qkq n) from by
   exact qna n ]
  all_goals kernel_rfl]
 kernel_rfl
theorem qtO:qg Gc Tryd.prog 6 s_z6:=by
 refine sQ (E:=E_z6) (c:=C_z6) rfl (fun w S hg=>qd) Tryd.func6 ?_
 intro avs r h
 unfold s_z6 at h
 split at h
 ·obtain ⟨hp,rfl⟩:=Prod.mk.inj h
  obtain ⟨n,hn⟩:=qxI _ _ hp
  exact ⟨n,_,(z6_ev n _ _ _ _).trans hn,.inl rfl⟩
 ·cases h
def E_z3:EnvP:=eQ [(4,s_z4),(5,s_z5),(6,s_z6)] 52 (some [4]) (fun x=>if x=8 then some [1,7,33,34,35] else none) (fun x=>if x=0 then some [1,7] else if x=1 then some [1,7,33,34,35] else none) nP
def C_z3:Code:=cO Tryd.f3
def R_z3:Array ResultVar:=Tryd.f3.results
noncomputable def qnb (K:Ex→Fr→Option AV):=fun t1 all7=>K (.exit 0) (frOf [(1,(.dat (.sl (.int .i32)) t1 none)),(7,(.dat (.sl (.int .i32)) all7 (some (7,21))))])
noncomputable def qpw (K:Ex→Fr→Option AV):=fun s4=>K .ret (frOf [(4,(.dat .bool s4 none))])
def qpx (n:Nat):Ex→Fr→Option AV:=qN 0 (E_z3.cutb 0) (kSeq (evCP E_z3 (evLP E_z3 n) (sub C_z3 [1,1,1,1,1,1])) (kFnP E_z3 R_z3))
def qtP (t1:List Int) (all7:List Int) (s33:List (List Int)) (s34:Int) (s35:Int):Fr:=frOf [(1,(.dat (.sl (.int .i32)) t1 none)),(7,(.dat (.sl (.int .i32)) all7 (some (7,21)))),(33,(.dat (.sl (.sl (.int .i32))) s33 none)),(34,(.dat (.int .i64) s34 none)),(35,(.dat (.int .i64) s35 none))]
theorem qtQ (K:Ex→Fr→Option AV):∀ (n:Nat) (t1:List Int) (all7:List Int) (s33:List (List Int)) (s34:Int) (s35:Int),evLP E_z3 n (sub C_z3 [1,1,1,1,1,0,1,0,0]) K (qtP t1 all7 s33 s34 s35)=z3_l8 (qpw K) (qnb K) n t1 all7 s33 s34 s35:=by
 intro n
 induction n with
 | zero=>intros; rfl
 | succ n IH =>
 intro t1 all7 s33 s34 s35
 have ih:(fun t1 all7 s33 s34 s35=>evLP E_z3 n (sub C_z3 [1,1,1,1,1,0,1,0,0]) K (qtP t1 all7 s33 s34 s35))=z3_l8 (qpw K) (qnb K) n:=by
  funext t1 all7 s33 s34 s35
  exact IH t1 all7 s33 s34 s35
 show _=qfw (qpw K) (qnb K) (z3_l8 (qpw K) (qnb K) n) n t1 all7 s33 s34 s35
 rw [← ih]
 kernel_rfl
theorem qnc (n:Nat) (t1:List Int) (all7:List Int):(qpx n) (.exit 0) (frOf [(1,(.dat (.sl (.int .i32)) t1 none)),(7,(.dat (.sl (.int .i32)) all7 (some (7,21))))])=qeQ n t1 all7:=by
 kernel_rfl
theorem z3_ev (n:Nat) (how0:List Int) (o0:Lab) (t1:List Int) (o1:Lab):evFnP E_z3 n C_z3 R_z3 [.dat (.arr 3 (.int .i64)) how0 o0,.dat (.sl (.int .i32)) t1 o1]=z3_sh n how0 t1:=by
 unfold z3_sh
 rw [show z3_l8 qfc (qeQ n) n=(fun t1 all7 s33 s34 s35=>evLP E_z3 n (sub C_z3 [1,1,1,1,1,0,1,0,0]) (qpx n) (qtP t1 all7 s33 s34 s35)) from by
  funext t1 all7 s33 s34 s35
  refine Eq.trans ?_ (qtQ (qpx n) n t1 all7 s33 s34 s35).symm
  rw [show (qnb (qpx n))=(qeQ n) from by
   funext t1 all7
   exact qnc n t1 all7]
  all_goals kernel_rfl]
 kernel_rfl
theorem qtR:qg Gc Tryd.prog 3 s_z3:=by
 refine sQ (E:=E_z3) (c:=C_z3) rfl (fun w S hg=>(qb (qtL w S hg) (qb (qnx w S hg) (qb (qtO w S hg) qd)))) Tryd.func3 ?_
 intro avs r h
 unfold s_z3 at h
 split at h
 ·obtain ⟨hp,rfl⟩:=Prod.mk.inj h
  obtain ⟨n,hn⟩:=qxU _ _ hp
  exact ⟨n,_,(z3_ev n _ _ _ _).trans hn,.inl rfl⟩
 ·cases h
end
end Go.Av
