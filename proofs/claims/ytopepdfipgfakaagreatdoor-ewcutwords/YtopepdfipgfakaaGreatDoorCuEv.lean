import Derived.Test.YtopepdfipgfakaaGreatDoorCuEvH
import Derived.Test.YtopepdfipgfakaaGreatDoorCuC
import Derived.Test.YtopepdfipgfakaaGreatDoorProg
import Derived.KernelRfl
namespace Go.Av
set_option linter.unusedSimpArgs false
noncomputable section
open Go.Proofs
set_option maxRecDepth 100000
set_option linter.unusedVariables false
def qii:EnvP:=eQ [(167,s_z167)] 20 (some [4]) (fun x=>if x=2 then some [0,1,5] else none) (fun x=>if x=0 then some [] else if x=1 then some [0,1,5] else none) nP
def qqS:Code:=cO Tryz.f160
def qFx:Array ResultVar:=Tryz.f160.results
noncomputable def qij (K:Ex→Fr→Option AV):=fun s4=>K .ret (frOf [(4,(.dat (.int .i64) s4 none))])
def qik (n:Nat):Ex→Fr→Option AV:=qm 0 (qii.cutb 0) (kSeq (evCP qii (evLP qii n) (sub qqS [1,1])) (kFnP qii qFx))
def qlQ (charset0:Int) (t1:List Int) (i5:Int):Fr:=frOf [(0,(.dat (.int .i64) charset0 none)),(1,(.dat (.sl (.int .i32)) t1 none)),(5,(.dat (.int .i64) i5 none))]
theorem qtg (K:Ex→Fr→Option AV):∀ (n:Nat) (charset0:Int) (t1:List Int) (i5:Int),evLP qii n (sub qqS [1,0,1,0,0]) K (qlQ charset0 t1 i5)=qgN (qij K) (K (.exit 0) (frOf [])) n charset0 t1 i5:=by
 intro n
 induction n with
 | zero=>intros; rfl
 | succ n IH =>
 intro charset0 t1 i5
 have ih:(fun charset0 t1 i5=>evLP qii n (sub qqS [1,0,1,0,0]) K (qlQ charset0 t1 i5))=qgN (qij K) (K (.exit 0) (frOf [])) n:=by
  funext charset0 t1 i5
  exact IH charset0 t1 i5
 show _=qch (qij K) (K (.exit 0) (frOf [])) (qgN (qij K) (K (.exit 0) (frOf [])) n) n charset0 t1 i5
 rw [← ih]
 kernel_rfl
theorem qlR (n:Nat)  : (qik n) (.exit 0) (frOf [])=qdD n  := by
 kernel_rfl
theorem qFy (n:Nat) (charset0:Int) (o0:Lab) (t1:List Int) (o1:Lab):evFnP qii n qqS qFx [.dat (.int .i64) charset0 o0,.dat (.sl (.int .i32)) t1 o1]=qpK n charset0 t1:=by
 unfold qpK
 rw [show qgN qgM (qdD n) n=(fun charset0 t1 i5=>evLP qii n (sub qqS [1,0,1,0,0]) (qik n) (qlQ charset0 t1 i5)) from by
  funext charset0 t1 i5
  refine Eq.trans ?_ (qtg (qik n) n charset0 t1 i5).symm
  rw [show ((qik n) (.exit 0) (frOf []))=(qdD n) from by
   exact qlR n ]
  all_goals kernel_rfl]
 kernel_rfl
theorem qth:qe Gc Tryz.prog 160 s_z160:=by
 refine sQ (E:=qii) (c:=qqS) rfl (fun w S hg=>(qb (qkL w S hg) qc)) Tryz.func160 ?_
 intro avs r h
 unfold s_z160 at h
 split at h
 ·obtain ⟨hp,rfl⟩:=Prod.mk.inj h
  obtain ⟨n,hn⟩:=qzr _ _ hp
  exact ⟨n,_,(qFy n _ _ _ _).trans hn,.inl rfl⟩
 ·cases h
def qFz:EnvP:=eQ [(160,s_z160)] 17 (some [4]) nC nC nP
def qFA:Code:=cO Tryz.f119
def qJW:Array ResultVar:=Tryz.f119.results
theorem qFB (n:Nat) (charset0:Int) (o0:Lab) (t1:List Int) (o1:Lab):evFnP qFz n qFA qJW [.dat (.int .i64) charset0 o0,.dat (.sl (.int .i32)) t1 o1]=qwI n charset0 t1:=by
 kernel_rfl
theorem qti:qe Gc Tryz.prog 119 s_z119:=by
 refine sQ (E:=qFz) (c:=qFA) rfl (fun w S hg=>(qb (qth w S hg) qc)) Tryz.func119 ?_
 intro avs r h
 unfold s_z119 at h
 split at h
 ·obtain ⟨hp,rfl⟩:=Prod.mk.inj h
  obtain ⟨n,hn⟩:=qzs _ _ hp
  exact ⟨n,_,(qFB n _ _ _ _).trans hn,.inl rfl⟩
 ·cases h
def E_z73:EnvP:=eQ [(119,s_z119)] 13 (some [2,3]) (fun x=>if x=2 then some [0,4] else none) (fun x=>if x=0 then some [] else if x=1 then some [0,4] else none) nP
def C_z73:Code:=cO Tryz.f73
def R_z73:Array ResultVar:=Tryz.f73.results
noncomputable def qoa (K:Ex→Fr→Option AV):=fun s2 s3=>K .ret (frOf [(2,(.dat (.int .i64) s2 none)),(3,(.dat (.int .i64) s3 none))])
def qob (n:Nat):Ex→Fr→Option AV:=qm 0 (E_z73.cutb 0) (kSeq (evCP E_z73 (evLP E_z73 n) (sub C_z73 [1,1])) (kFnP E_z73 R_z73))
def qtj (t0:List Int) (n4:Int):Fr:=frOf [(0,(.dat (.sl (.int .i32)) t0 none)),(4,(.dat (.int .i64) n4 none))]
theorem qya (K:Ex→Fr→Option AV):∀ (n:Nat) (t0:List Int) (n4:Int),evLP E_z73 n (sub C_z73 [1,0,1,0,0]) K (qtj t0 n4)=qju (qoa K) (K (.exit 0) (frOf [])) n t0 n4:=by
 intro n
 induction n with
 | zero=>intros; rfl
 | succ n IH =>
 intro t0 n4
 have ih:(fun t0 n4=>evLP E_z73 n (sub C_z73 [1,0,1,0,0]) K (qtj t0 n4))=qju (qoa K) (K (.exit 0) (frOf [])) n:=by
  funext t0 n4
  exact IH t0 n4
 show _=qes (qoa K) (K (.exit 0) (frOf [])) (qju (qoa K) (K (.exit 0) (frOf [])) n) n t0 n4
 rw [← ih]
 kernel_rfl
theorem qqT (n:Nat)  : (qob n) (.exit 0) (frOf [])=qcH n  := by
 kernel_rfl
theorem qJX (n:Nat) (t0:List Int) (o0:Lab):evFnP E_z73 n C_z73 R_z73 [.dat (.sl (.int .i32)) t0 o0]=qzL n t0:=by
 unfold qzL
 rw [show qju qdE (qcH n) n=(fun t0 n4=>evLP E_z73 n (sub C_z73 [1,0,1,0,0]) (qob n) (qtj t0 n4)) from by
  funext t0 n4
  refine Eq.trans ?_ (qya (qob n) n t0 n4).symm
  rw [show ((qob n) (.exit 0) (frOf []))=(qcH n) from by
   exact qqT n ]
  all_goals kernel_rfl]
 kernel_rfl
theorem qyb:qe Gc Tryz.prog 73 s_z73:=by
 refine sQ (E:=E_z73) (c:=C_z73) rfl (fun w S hg=>(qb (qti w S hg) qc)) Tryz.func73 ?_
 intro avs r h
 unfold s_z73 at h
 split at h
 ·obtain ⟨hp,rfl⟩:=Prod.mk.inj h
  obtain ⟨n,hn⟩:=qCZ _ hp
  exact ⟨n,_,(qJX n _ _).trans hn,.inl rfl⟩
 ·cases h
def E_z74:EnvP:=eQ [(69,s_z69)] 28 (some [4,5]) nC nC nP
def C_z74:Code:=cO Tryz.f74
def R_z74:Array ResultVar:=Tryz.f74.results
theorem qJY (n:Nat) (charset0:Int) (o0:Lab) (t1:List Int) (o1:Lab):evFnP E_z74 n C_z74 R_z74 [.dat (.int .i64) charset0 o0,.dat (.sl (.int .i32)) t1 o1]=qDP n charset0 t1:=by
 kernel_rfl
theorem qyc:qe Gc Tryz.prog 74 s_z74:=by
 refine sQ (E:=E_z74) (c:=C_z74) rfl (fun w S hg=>(qb (qjh w S hg) qc)) Tryz.func74 ?_
 intro avs r h
 unfold s_z74 at h
 split at h
 ·obtain ⟨hp,rfl⟩:=Prod.mk.inj h
  obtain ⟨n,hn⟩:=qEA _ _ hp
  exact ⟨n,_,(qJY n _ _ _ _).trans hn,.inl rfl⟩
 ·cases h
def E_z31:EnvP:=eQ [(73,s_z73),(74,s_z74)] 25 (some [2,3,4]) nC nC nP
def C_z31:Code:=cO Tryz.f31
def R_z31:Array ResultVar:=Tryz.f31.results
theorem qJZ (n:Nat) (t0:List Int) (o0:Lab):evFnP E_z31 n C_z31 R_z31 [.dat (.sl (.int .i32)) t0 o0]=qDQ n t0:=by
 kernel_rfl
theorem qyd:qe Gc Tryz.prog 31 s_z31:=by
 refine sQ (E:=E_z31) (c:=C_z31) rfl (fun w S hg=>(qb (qyb w S hg) (qb (qyc w S hg) qc))) Tryz.func31 ?_
 intro avs r h
 unfold s_z31 at h
 split at h
 ·obtain ⟨hp,rfl⟩:=Prod.mk.inj h
  obtain ⟨n,hn⟩:=qDg _ hp
  exact ⟨n,_,(qJZ n _ _).trans hn,.inl rfl⟩
 ·cases h
def E_z33:EnvP:=eQ [(16,s_z16),(29,s_z29),(31,s_z31),(76,s_z76)] 63 (some [4,5]) (fun x=>if x=9 then some [6,7,9,10,11] else none) (fun x=>if x=0 then some [10] else if x=1 then some [6,7,9,10,11] else none) nP
def C_z33:Code:=cO Tryz.f33
def R_z33:Array ResultVar:=Tryz.f33.results
noncomputable def qkn (K:Ex→Fr→Option AV):=fun out10=>K (.exit 0) (frOf [(10,(.dat (.sl (.sl .byte)) out10 (some (10,22))))])
def qoc (n:Nat):Ex→Fr→Option AV:=qm 0 (E_z33.cutb 0) (kSeq (evCP E_z33 (evLP E_z33 n) (sub C_z33 [1,1,1,1,1,1,1])) (kFnP E_z33 R_z33))
def qtk (n6:Int) (c7:Int) (l9:List (List Int)) (out10:List (List UInt8)) (i11:Int):Fr:=frOf [(6,(.dat (.int .i64) n6 none)),(7,(.dat (.int .i64) c7 none)),(9,(.dat (.sl (.sl (.int .i32))) l9 none)),(10,(.dat (.sl (.sl .byte)) out10 (some (10,22)))),(11,(.dat (.int .i64) i11 none))]
theorem qye (K:Ex→Fr→Option AV):∀ (n:Nat) (n6:Int) (c7:Int) (l9:List (List Int)) (out10:List (List UInt8)) (i11:Int),evLP E_z33 n (sub C_z33 [1,1,1,1,1,1,0,1,0,0]) K (qtk n6 c7 l9 out10 i11)=qnc (qkn K) n n6 c7 l9 out10 i11:=by
 intro n
 induction n with
 | zero=>intros; rfl
 | succ n IH =>
 intro n6 c7 l9 out10 i11
 have ih:(fun n6 c7 l9 out10 i11=>evLP E_z33 n (sub C_z33 [1,1,1,1,1,1,0,1,0,0]) K (qtk n6 c7 l9 out10 i11))=qnc (qkn K) n:=by
  funext n6 c7 l9 out10 i11
  exact IH n6 c7 l9 out10 i11
 show _=qet (qkn K) (qnc (qkn K) n) n n6 c7 l9 out10 i11
 rw [← ih]
 kernel_rfl
theorem qqU (n:Nat) (out10:List (List UInt8)):(qoc n) (.exit 0) (frOf [(10,(.dat (.sl (.sl .byte)) out10 (some (10,22))))])=qeu n out10:=by
 kernel_rfl
theorem qKa (n:Nat) (t0:List Int) (o0:Lab) (first1:Int) (o1:Lab):evFnP E_z33 n C_z33 R_z33 [.dat (.sl (.int .i32)) t0 o0,.dat (.int .i64) first1 o1]=qzM n t0 first1:=by
 unfold qzM
 rw [show qnc (qeu n) n=(fun n6 c7 l9 out10 i11=>evLP E_z33 n (sub C_z33 [1,1,1,1,1,1,0,1,0,0]) (qoc n) (qtk n6 c7 l9 out10 i11)) from by
  funext n6 c7 l9 out10 i11
  refine Eq.trans ?_ (qye (qoc n) n n6 c7 l9 out10 i11).symm
  rw [show (qkn (qoc n))=(qeu n) from by
   funext out10
   exact qqU n out10]
  all_goals kernel_rfl]
 kernel_rfl
theorem qod:qe Gc Tryz.prog 33 s_z33:=by
 refine sQ (E:=E_z33) (c:=C_z33) rfl (fun w S hg=>(qb (qyU w S hg) (qb (qzc w S hg) (qb (qyd w S hg) (qb (qoM w S hg) qc))))) Tryz.func33 ?_
 intro avs r h
 unfold s_z33 at h
 split at h
 ·obtain ⟨hp,rfl⟩:=Prod.mk.inj h
  obtain ⟨n,hn⟩:=qDj _ _ hp
  exact ⟨n,_,(qKa n _ _ _ _).trans hn,.inl rfl⟩
 ·cases h
def E_z35:EnvP:=eQ [(33,s_z33)] 35 (some [4,5]) (fun x=>if x=4 then some [6,7,8,9] else none) (fun x=>if x=0 then some [7,8] else if x=1 then some [6,7,8,9] else none) nP
def C_z35:Code:=cO Tryz.f35
def R_z35:Array ResultVar:=Tryz.f35.results
noncomputable def qko (K:Ex→Fr→Option AV):=fun e7 out8=>K (.exit 0) (frOf [(7,(.dat (.int .i64) e7 none)),(8,(.dat (.sl .byte) out8 (some (8,5))))])
def qoe (n:Nat):Ex→Fr→Option AV:=qm 0 (E_z35.cutb 0) (kSeq (evCP E_z35 (evLP E_z35 n) (sub C_z35 [1,1,1,1])) (kFnP E_z35 R_z35))
def qtl (l6:List (List UInt8)) (e7:Int) (out8:List UInt8) (i9:Int):Fr:=frOf [(6,(.dat (.sl (.sl .byte)) l6 none)),(7,(.dat (.int .i64) e7 none)),(8,(.dat (.sl .byte) out8 (some (8,5)))),(9,(.dat (.int .i64) i9 none))]
theorem qyf (K:Ex→Fr→Option AV):∀ (n:Nat) (l6:List (List UInt8)) (e7:Int) (out8:List UInt8) (i9:Int),evLP E_z35 n (sub C_z35 [1,1,1,0,1,0,0]) K (qtl l6 e7 out8 i9)=qnd (qko K) n l6 e7 out8 i9:=by
 intro n
 induction n with
 | zero=>intros; rfl
 | succ n IH =>
 intro l6 e7 out8 i9
 have ih:(fun l6 e7 out8 i9=>evLP E_z35 n (sub C_z35 [1,1,1,0,1,0,0]) K (qtl l6 e7 out8 i9))=qnd (qko K) n:=by
  funext l6 e7 out8 i9
  exact IH l6 e7 out8 i9
 show _=qbE (qko K) (qnd (qko K) n) n l6 e7 out8 i9
 rw [← ih]
 kernel_rfl
theorem qqV (n:Nat) (e7:Int) (out8:List UInt8):(qoe n) (.exit 0) (frOf [(7,(.dat (.int .i64) e7 none)),(8,(.dat (.sl .byte) out8 (some (8,5))))])=qgO n e7 out8:=by
 kernel_rfl
theorem qKb (n:Nat) (t0:List Int) (o0:Lab) (first1:Int) (o1:Lab):evFnP E_z35 n C_z35 R_z35 [.dat (.sl (.int .i32)) t0 o0,.dat (.int .i64) first1 o1]=qzN n t0 first1:=by
 unfold qzN
 rw [show qnd (qgO n) n=(fun l6 e7 out8 i9=>evLP E_z35 n (sub C_z35 [1,1,1,0,1,0,0]) (qoe n) (qtl l6 e7 out8 i9)) from by
  funext l6 e7 out8 i9
  refine Eq.trans ?_ (qyf (qoe n) n l6 e7 out8 i9).symm
  rw [show (qko (qoe n))=(qgO n) from by
   funext e7 out8
   exact qqV n e7 out8]
  all_goals kernel_rfl]
 kernel_rfl
theorem qyg:qe Gc Tryz.prog 35 s_z35:=by
 refine sQ (E:=E_z35) (c:=C_z35) rfl (fun w S hg=>(qb (qod w S hg) qc)) Tryz.func35 ?_
 intro avs r h
 unfold s_z35 at h
 split at h
 ·obtain ⟨hp,rfl⟩:=Prod.mk.inj h
  obtain ⟨n,hn⟩:=qDm _ _ hp
  exact ⟨n,_,(qKb n _ _ _ _).trans hn,.inl rfl⟩
 ·cases h
def E_z8:EnvP:=eQ [(13,s_z13),(27,s_z27),(32,s_z32),(33,s_z33),(34,s_z34),(35,s_z35),(36,s_z36)] 88 (some [4]) (fun x=>if x=10 then some [5,7,72,73] else none) (fun x=>if x=0 then some [] else if x=1 then some [5,7,72,73] else none) nP
def C_z8:Code:=cO Tryz.f8
def R_z8:Array ResultVar:=Tryz.f8.results
noncomputable def qyh (K:Ex→Fr→Option AV):=fun s4=>K .ret (frOf [(4,(.dat .bool s4 none))])
def qyi (n:Nat):Ex→Fr→Option AV:=qm 0 (E_z8.cutb 0) (kSeq (evCP E_z8 (evLP E_z8 n) (sub C_z8 [1,1,1,1,1,1,1,1])) (kFnP E_z8 R_z8))
def qCT (a5:List (List UInt8)) (b7:List (List UInt8)) (s72:Int) (s73:Int):Fr:=frOf [(5,(.dat (.sl (.sl .byte)) a5 none)),(7,(.dat (.sl (.sl .byte)) b7 none)),(72,(.dat (.int .i64) s72 none)),(73,(.dat (.int .i64) s73 none))]
theorem qyj (K:Ex→Fr→Option AV):∀ (n:Nat) (a5:List (List UInt8)) (b7:List (List UInt8)) (s72:Int) (s73:Int),evLP E_z8 n (sub C_z8 [1,1,1,1,1,1,1,0,1,0,0]) K (qCT a5 b7 s72 s73)=qne (qyh K) (K (.exit 0) (frOf [])) n a5 b7 s72 s73:=by
 intro n
 induction n with
 | zero=>intros; rfl
 | succ n IH =>
 intro a5 b7 s72 s73
 have ih:(fun a5 b7 s72 s73=>evLP E_z8 n (sub C_z8 [1,1,1,1,1,1,1,0,1,0,0]) K (qCT a5 b7 s72 s73))=qne (qyh K) (K (.exit 0) (frOf [])) n:=by
  funext a5 b7 s72 s73
  exact IH a5 b7 s72 s73
 show _=qev (qyh K) (K (.exit 0) (frOf [])) (qne (qyh K) (K (.exit 0) (frOf [])) n) n a5 b7 s72 s73
 rw [← ih]
 kernel_rfl
theorem qqW (n:Nat)  : (qyi n) (.exit 0) (frOf [])=qgP n  := by
 kernel_rfl
theorem z8_ev (n:Nat) (t0:List Int) (o0:Lab) (first1:Int) (o1:Lab):evFnP E_z8 n C_z8 R_z8 [.dat (.sl (.int .i32)) t0 o0,.dat (.int .i64) first1 o1]=z8_sh n t0 first1:=by
 unfold z8_sh
 rw [show qne qeT (qgP n) n=(fun a5 b7 s72 s73=>evLP E_z8 n (sub C_z8 [1,1,1,1,1,1,1,0,1,0,0]) (qyi n) (qCT a5 b7 s72 s73)) from by
  funext a5 b7 s72 s73
  refine Eq.trans ?_ (qyj (qyi n) n a5 b7 s72 s73).symm
  rw [show ((qyi n) (.exit 0) (frOf []))=(qgP n) from by
   exact qqW n ]
  all_goals kernel_rfl]
 kernel_rfl
theorem qCU:qe Gc Tryz.prog 8 s_z8:=by
 refine sQ (E:=E_z8) (c:=C_z8) rfl (fun w S hg=>(qb (qyn w S hg) (qb (qyL w S hg) (qb (qfd w S hg) (qb (qod w S hg) (qb (qoB w S hg) (qb (qyg w S hg) (qb (qoC w S hg) qc)))))))) Tryz.func8 ?_
 intro avs r h
 unfold s_z8 at h
 split at h
 ·obtain ⟨hp,rfl⟩:=Prod.mk.inj h
  obtain ⟨n,hn⟩:=qJp _ _ hp
  exact ⟨n,_,(z8_ev n _ _ _ _).trans hn,.inl rfl⟩
 ·cases h
end
end Go.Av
