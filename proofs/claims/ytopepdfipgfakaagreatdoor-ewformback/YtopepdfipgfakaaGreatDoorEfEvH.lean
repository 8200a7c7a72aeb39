import Derived.Test.YtopepdfipgfakaaGreatDoorEfEvG
import Derived.Test.YtopepdfipgfakaaGreatDoorEfLayX
import Derived.Test.YtopepdfipgfakaaGreatDoorProg
import Derived.KernelRfl
namespace Go.Av
set_option linter.unusedSimpArgs false
open Go.Proofs
set_option maxRecDepth 100000
set_option linter.unusedVariables false
noncomputable def E_z21:EnvP:=eQ [] 26 (some [4]) (fun x=>if x=4 then some [0,1,5] else none) (fun x=>if x=0 then some [] else if x=1 then some [0,1,5] else none) nP
noncomputable def C_z21:Code:=cO Tryz.f21
noncomputable def R_z21:Array ResultVar:=Tryz.f21.results
theorem quX (K:Ex→Fr→Option AV):∀ (n:Nat) (a0:List Int) (b1:List Int) (i5:Int),evLP E_z21 n (sub C_z21 [1,1,0,1,0,0]) K (frOf [(0,(.dat (.sl (.int .i32)) a0 none)),(1,(.dat (.sl (.int .i32)) b1 none)),(5,(.dat (.int .i64) i5 none))])=qij (fun s4=>K .ret (frOf [(4,(.dat .bool s4 none))])) (K (.exit 0) (frOf [])) n a0 b1 i5:=by
 intro n
 induction n with
 | zero=>intros; rfl
 | succ n IH =>
 intro a0 b1 i5
 have ih:(fun a0 b1 i5=>evLP E_z21 n (sub C_z21 [1,1,0,1,0,0]) K (frOf [(0,(.dat (.sl (.int .i32)) a0 none)),(1,(.dat (.sl (.int .i32)) b1 none)),(5,(.dat (.int .i64) i5 none))]))=qij (fun s4=>K .ret (frOf [(4,(.dat .bool s4 none))])) (K (.exit 0) (frOf [])) n:=by
  funext a0 b1 i5
  exact IH a0 b1 i5
 show _=qen (fun s4=>K .ret (frOf [(4,(.dat .bool s4 none))])) (K (.exit 0) (frOf [])) (qij (fun s4=>K .ret (frOf [(4,(.dat .bool s4 none))])) (K (.exit 0) (frOf [])) n) n a0 b1 i5
 rw [← ih]
 kernel_rfl
theorem qnN (n:Nat)  : (qc 0 (E_z21.cutb 0) (kSeq (evCP E_z21 (evLP E_z21 n) (sub C_z21 [1,1,1])) (kFnP E_z21 R_z21))) (.exit 0) (frOf [])=qik n  := by
 kernel_rfl
theorem qFx (n:Nat) (a0:List Int) (o0:Lab) (b1:List Int) (o1:Lab):evFnP E_z21 n C_z21 R_z21 [.dat (.sl (.int .i32)) a0 o0,.dat (.sl (.int .i32)) b1 o1]=qwm n a0 b1:=by
 unfold qwm
 rw [show qij qgV (qik n) n=(fun a0 b1 i5=>evLP E_z21 n (sub C_z21 [1,1,0,1,0,0]) (qc 0 (E_z21.cutb 0) (kSeq (evCP E_z21 (evLP E_z21 n) (sub C_z21 [1,1,1])) (kFnP E_z21 R_z21))) (frOf [(0,(.dat (.sl (.int .i32)) a0 none)),(1,(.dat (.sl (.int .i32)) b1 none)),(5,(.dat (.int .i64) i5 none))])) from by
  funext a0 b1 i5
  refine Eq.trans ?_ (quX (qc 0 (E_z21.cutb 0) (kSeq (evCP E_z21 (evLP E_z21 n) (sub C_z21 [1,1,1])) (kFnP E_z21 R_z21))) n a0 b1 i5).symm
  rw [show ((qc 0 (E_z21.cutb 0) (kSeq (evCP E_z21 (evLP E_z21 n) (sub C_z21 [1,1,1])) (kFnP E_z21 R_z21))) (.exit 0) (frOf []))=(qik n) from by
   exact qnN n ]
  all_goals kernel_rfl]
 kernel_rfl
theorem quY:qh G Tryz.prog 21 s_z21:=by
 refine sQ (E:=E_z21) (c:=C_z21) rfl (fun w S hg=>qd) Tryz.func21 (by kernel_rfl) (by kernel_rfl) (by kernel_rfl) ?_
 intro avs r h
 unfold s_z21 at h
 split at h
 ·simp only [Prod.mk.injEq] at h
  obtain ⟨hp,rfl⟩:=h
  obtain ⟨n,hn⟩:=qyR _ _ hp
  exact ⟨n,_,(qFx n _ _ _ _).trans hn,.inl rfl⟩
 ·cases h
noncomputable def E_z22:EnvP:=eQ [(11,s_z11),(53,s_z53)] 14 (some [2]) nC nC nP
noncomputable def C_z22:Code:=cO Tryz.f22
noncomputable def R_z22:Array ResultVar:=Tryz.f22.results
theorem qFy (n:Nat) (s0:List UInt8) (o0:Lab):evFnP E_z22 n C_z22 R_z22 [.dat (.sl .byte) s0 o0]=qzO n s0:=by
 kernel_rfl
theorem quZ:qh G Tryz.prog 22 s_z22:=by
 refine sQ (E:=E_z22) (c:=C_z22) rfl (fun w S hg=>(qb (qfc w S hg) (qb (qma w S hg) qd))) Tryz.func22 (by kernel_rfl) (by kernel_rfl) (by kernel_rfl) ?_
 intro avs r h
 unfold s_z22 at h
 split at h
 ·simp only [Prod.mk.injEq] at h
  obtain ⟨hp,rfl⟩:=h
  obtain ⟨n,hn⟩:=qyT _ hp
  exact ⟨n,_,(qFy n _ _).trans hn,.inl rfl⟩
 ·cases h
noncomputable def qDj:EnvP:=eQ [(175,s_z175)] 21 (some [4]) nC nC nP
noncomputable def qDk:Code:=cO Tryz.f228
noncomputable def qFz:Array ResultVar:=Tryz.f228.results
theorem qDl (n:Nat) (s0:List UInt8) (o0:Lab) (suffix1:List UInt8) (o1:Lab):evFnP qDj n qDk qFz [.dat (.sl .byte) s0 o0,.dat (.sl .byte) suffix1 o1]=qsX n s0 suffix1:=by
 kernel_rfl
theorem qra:qh G Tryz.prog 228 s_z228:=by
 refine sQ (E:=qDj) (c:=qDk) rfl (fun w S hg=>(qb (qpL w S hg) qd)) Tryz.func228 (by kernel_rfl) (by kernel_rfl) (by kernel_rfl) ?_
 intro avs r h
 unfold s_z228 at h
 split at h
 ·simp only [Prod.mk.injEq] at h
  obtain ⟨hp,rfl⟩:=h
  obtain ⟨n,hn⟩:=qwN _ _ hp
  exact ⟨n,_,(qDl n _ _ _ _).trans hn,.inl rfl⟩
 ·cases h
noncomputable def qDm:EnvP:=eQ [(228,s_z228)] 16 (some [4]) nC nC nP
noncomputable def qDn:Code:=cO Tryz.f191
noncomputable def qFA:Array ResultVar:=Tryz.f191.results
theorem qDo (n:Nat) (s0:List UInt8) (o0:Lab) (suffix1:List UInt8) (o1:Lab):evFnP qDm n qDn qFA [.dat (.sl .byte) s0 o0,.dat (.sl .byte) suffix1 o1]=qsY n s0 suffix1:=by
 kernel_rfl
theorem qrb:qh G Tryz.prog 191 s_z191:=by
 refine sQ (E:=qDm) (c:=qDn) rfl (fun w S hg=>(qb (qra w S hg) qd)) Tryz.func191 (by kernel_rfl) (by kernel_rfl) (by kernel_rfl) ?_
 intro avs r h
 unfold s_z191 at h
 split at h
 ·simp only [Prod.mk.injEq] at h
  obtain ⟨hp,rfl⟩:=h
  obtain ⟨n,hn⟩:=qvG _ _ hp
  exact ⟨n,_,(qDo n _ _ _ _).trans hn,.inl rfl⟩
 ·cases h
noncomputable def qbe:EnvP:=eQ [(191,s_z191)] 10 (some [2]) (fun x=>if x=2 then some [0,3] else none) (fun x=>if x=0 then some [0] else if x=1 then some [0,3] else none) nP
noncomputable def qhV:Code:=cO Tryz.f149
noncomputable def qrc:Array ResultVar:=Tryz.f149.results
theorem qrd (K:Ex→Fr→Option AV):∀ (n:Nat) (s0:List UInt8) (s3:Int),evLP qbe n (sub qhV [1,0,1,0,0]) K (frOf [(0,(.dat (.sl .byte) s0 none)),(3,(.dat (.int .i64) s3 none))])=qgW (fun s0=>K (.exit 0) (frOf [(0,(.dat (.sl .byte) s0 none))])) n s0 s3:=by
 intro n
 induction n with
 | zero=>intros; rfl
 | succ n IH =>
 intro s0 s3
 have ih:(fun s0 s3=>evLP qbe n (sub qhV [1,0,1,0,0]) K (frOf [(0,(.dat (.sl .byte) s0 none)),(3,(.dat (.int .i64) s3 none))]))=qgW (fun s0=>K (.exit 0) (frOf [(0,(.dat (.sl .byte) s0 none))])) n:=by
  funext s0 s3
  exact IH s0 s3
 show _=qmL (fun s0=>K (.exit 0) (frOf [(0,(.dat (.sl .byte) s0 none))])) (qgW (fun s0=>K (.exit 0) (frOf [(0,(.dat (.sl .byte) s0 none))])) n) n s0 s3
 rw [← ih]
 kernel_rfl
theorem qkD (n:Nat) (s0:List UInt8):(qc 0 (qbe.cutb 0) (kSeq (evCP qbe (evLP qbe n) (sub qhV [1,1])) (kFnP qbe qrc))) (.exit 0) (frOf [(0,(.dat (.sl .byte) s0 none))])=qfo n s0:=by
 kernel_rfl
theorem qDp (n:Nat) (s0:List UInt8) (o0:Lab):evFnP qbe n qhV qrc [.dat (.sl .byte) s0 o0]=qmM n s0:=by
 unfold qmM
 rw [show qgW (qfo n) n=(fun s0 s3=>evLP qbe n (sub qhV [1,0,1,0,0]) (qc 0 (qbe.cutb 0) (kSeq (evCP qbe (evLP qbe n) (sub qhV [1,1])) (kFnP qbe qrc))) (frOf [(0,(.dat (.sl .byte) s0 none)),(3,(.dat (.int .i64) s3 none))])) from by
  funext s0 s3
  refine Eq.trans ?_ (qrd (qc 0 (qbe.cutb 0) (kSeq (evCP qbe (evLP qbe n) (sub qhV [1,1])) (kFnP qbe qrc))) n s0 s3).symm
  rw [show (fun s0=>(qc 0 (qbe.cutb 0) (kSeq (evCP qbe (evLP qbe n) (sub qhV [1,1])) (kFnP qbe qrc))) (.exit 0) (frOf [(0,(.dat (.sl .byte) s0 none))]))=(qfo n) from by
   funext s0
   exact qkD n s0]
  all_goals kernel_rfl]
 kernel_rfl
theorem qre:qh G Tryz.prog 149 s_z149:=by
 refine sQ (E:=qbe) (c:=qhV) rfl (fun w S hg=>(qb (qrb w S hg) qd)) Tryz.func149 (by kernel_rfl) (by kernel_rfl) (by kernel_rfl) ?_
 intro avs r h
 unfold s_z149 at h
 split at h
 ·simp only [Prod.mk.injEq] at h
  obtain ⟨hp,rfl⟩:=h
  obtain ⟨n,hn⟩:=qvH _ hp
  exact ⟨n,_,(qDp n _ _).trans hn,.inl rfl⟩
 ·cases h
noncomputable def qbf:EnvP:=eQ [(149,s_z149),(150,s_z150)] 57 (some [2,3]) (fun x=>if x=4 then some [0,4,5,6,12,13,14] else none) (fun x=>if x=0 then some [0,4,5] else if x=1 then some [0,4,5,6,12,13,14] else if x=2 then some [4] else none) nP
noncomputable def qhW:Code:=cO Tryz.f108
noncomputable def qrf:Array ResultVar:=Tryz.f108.results
theorem qrg (K:Ex→Fr→Option AV):∀ (n:Nat) (s0:List UInt8) (out4:List UInt8) (held5:Int) (many6:Int) (s12:List UInt8) (s13:Int) (s14:Int),evLP qbf n (sub qhW [1,1,1,0,1,0,0]) K (frOf [(0,(.dat (.sl .byte) s0 none)),(4,(.dat (.sl .byte) out4 (some (4,5)))),(5,(.dat (.int .i64) held5 none)),(6,(.dat (.int .i64) many6 none)),(12,(.dat (.sl .byte) s12 none)),(13,(.dat (.int .i64) s13 none)),(14,(.dat (.int .i64) s14 none))])=qcG (fun s2 s3=>K .ret (frOf [(2,(.dat (.sl .byte) s2 (some (2,5)))),(3,(.dat (.int .i64) s3 none))])) (fun s0 out4 held5=>K (.exit 0) (frOf [(0,(.dat (.sl .byte) s0 none)),(4,(.dat (.sl .byte) out4 (some (4,5)))),(5,(.dat (.int .i64) held5 none))])) n s0 out4 held5 many6 s12 s13 s14:=by
 intro n
 induction n with
 | zero=>intros; rfl
 | succ n IH =>
 intro s0 out4 held5 many6 s12 s13 s14
 have ih:(fun s0 out4 held5 many6 s12 s13 s14=>evLP qbf n (sub qhW [1,1,1,0,1,0,0]) K (frOf [(0,(.dat (.sl .byte) s0 none)),(4,(.dat (.sl .byte) out4 (some (4,5)))),(5,(.dat (.int .i64) held5 none)),(6,(.dat (.int .i64) many6 none)),(12,(.dat (.sl .byte) s12 none)),(13,(.dat (.int .i64) s13 none)),(14,(.dat (.int .i64) s14 none))]))=qcG (fun s2 s3=>K .ret (frOf [(2,(.dat (.sl .byte) s2 (some (2,5)))),(3,(.dat (.int .i64) s3 none))])) (fun s0 out4 held5=>K (.exit 0) (frOf [(0,(.dat (.sl .byte) s0 none)),(4,(.dat (.sl .byte) out4 (some (4,5)))),(5,(.dat (.int .i64) held5 none))])) n:=by
  funext s0 out4 held5 many6 s12 s13 s14
  exact IH s0 out4 held5 many6 s12 s13 s14
 show _=qcq (fun s2 s3=>K .ret (frOf [(2,(.dat (.sl .byte) s2 (some (2,5)))),(3,(.dat (.int .i64) s3 none))])) (fun s0 out4 held5=>K (.exit 0) (frOf [(0,(.dat (.sl .byte) s0 none)),(4,(.dat (.sl .byte) out4 (some (4,5)))),(5,(.dat (.int .i64) held5 none))])) (qcG (fun s2 s3=>K .ret (frOf [(2,(.dat (.sl .byte) s2 (some (2,5)))),(3,(.dat (.int .i64) s3 none))])) (fun s0 out4 held5=>K (.exit 0) (frOf [(0,(.dat (.sl .byte) s0 none)),(4,(.dat (.sl .byte) out4 (some (4,5)))),(5,(.dat (.int .i64) held5 none))])) n) n s0 out4 held5 many6 s12 s13 s14
 rw [← ih]
 kernel_rfl
theorem qkE (n:Nat) (s0:List UInt8) (out4:List UInt8) (held5:Int):(qc 0 (qbf.cutb 0) (kSeq (evCP qbf (evLP qbf n) (sub qhW [1,1,1,1])) (kFnP qbf qrf))) (.exit 0) (frOf [(0,(.dat (.sl .byte) s0 none)),(4,(.dat (.sl .byte) out4 (some (4,5)))),(5,(.dat (.int .i64) held5 none))])=qaz n s0 out4 held5:=by
 kernel_rfl
theorem qDq (n:Nat) (s0:List UInt8) (o0:Lab):evFnP qbf n qhW qrf [.dat (.sl .byte) s0 o0]=qmN n s0:=by
 unfold qmN
 rw [show qcG qaf (qaz n) n=(fun s0 out4 held5 many6 s12 s13 s14=>evLP qbf n (sub qhW [1,1,1,0,1,0,0]) (qc 0 (qbf.cutb 0) (kSeq (evCP qbf (evLP qbf n) (sub qhW [1,1,1,1])) (kFnP qbf qrf))) (frOf [(0,(.dat (.sl .byte) s0 none)),(4,(.dat (.sl .byte) out4 (some (4,5)))),(5,(.dat (.int .i64) held5 none)),(6,(.dat (.int .i64) many6 none)),(12,(.dat (.sl .byte) s12 none)),(13,(.dat (.int .i64) s13 none)),(14,(.dat (.int .i64) s14 none))])) from by
  funext s0 out4 held5 many6 s12 s13 s14
  refine Eq.trans ?_ (qrg (qc 0 (qbf.cutb 0) (kSeq (evCP qbf (evLP qbf n) (sub qhW [1,1,1,1])) (kFnP qbf qrf))) n s0 out4 held5 many6 s12 s13 s14).symm
  rw [show (fun s0 out4 held5=>(qc 0 (qbf.cutb 0) (kSeq (evCP qbf (evLP qbf n) (sub qhW [1,1,1,1])) (kFnP qbf qrf))) (.exit 0) (frOf [(0,(.dat (.sl .byte) s0 none)),(4,(.dat (.sl .byte) out4 (some (4,5)))),(5,(.dat (.int .i64) held5 none))]))=(qaz n) from by
   funext s0 out4 held5
   exact qkE n s0 out4 held5]
  all_goals kernel_rfl]
 kernel_rfl
theorem qrh:qh G Tryz.prog 108 s_z108:=by
 refine sQ (E:=qbf) (c:=qhW) rfl (fun w S hg=>(qb (qre w S hg) (qb (qje w S hg) qd))) Tryz.func108 (by kernel_rfl) (by kernel_rfl) (by kernel_rfl) ?_
 intro avs r h
 unfold s_z108 at h
 split at h
 ·simp only [Prod.mk.injEq] at h
  obtain ⟨hp,rfl⟩:=h
  obtain ⟨n,hn⟩:=qvF _ hp
  exact ⟨n,_,(qDq n _ _).trans hn,.inl rfl⟩
 ·cases h
noncomputable def E_z59:EnvP:=eQ [(108,s_z108)] 12 (some [2]) nC nC nP
noncomputable def C_z59:Code:=cO Tryz.f59
noncomputable def R_z59:Array ResultVar:=Tryz.f59.results
theorem qFB (n:Nat) (s0:List UInt8) (o0:Lab):evFnP E_z59 n C_z59 R_z59 [.dat (.sl .byte) s0 o0]=qzP n s0:=by
 kernel_rfl
theorem qva:qh G Tryz.prog 59 s_z59:=by
 refine sQ (E:=E_z59) (c:=C_z59) rfl (fun w S hg=>(qb (qrh w S hg) qd)) Tryz.func59 (by kernel_rfl) (by kernel_rfl) (by kernel_rfl) ?_
 intro avs r h
 unfold s_z59 at h
 split at h
 ·simp only [Prod.mk.injEq] at h
  obtain ⟨hp,rfl⟩:=h
  obtain ⟨n,hn⟩:=qzc _ hp
  exact ⟨n,_,(qFB n _ _).trans hn,.inl rfl⟩
 ·cases h
noncomputable def qDr:EnvP:=eQ [(144,s_z144)] 11 (some [2]) nC nC nP
noncomputable def qDs:Code:=cO Tryz.f110
noncomputable def qFC:Array ResultVar:=Tryz.f110.results
theorem qDt (n:Nat) (s0:List UInt8) (o0:Lab):evFnP qDr n qDs qFC [.dat (.sl .byte) s0 o0]=qta n s0:=by
 kernel_rfl
theorem qri:qh G Tryz.prog 110 s_z110:=by
 refine sQ (E:=qDr) (c:=qDs) rfl (fun w S hg=>(qb (qjf w S hg) qd)) Tryz.func110 (by kernel_rfl) (by kernel_rfl) (by kernel_rfl) ?_
 intro avs r h
 unfold s_z110 at h
 split at h
 ·simp only [Prod.mk.injEq] at h
  obtain ⟨hp,rfl⟩:=h
  obtain ⟨n,hn⟩:=qvJ _ hp
  exact ⟨n,_,(qDt n _ _).trans hn,.inl rfl⟩
 ·cases h
noncomputable def E_z60:EnvP:=eQ [(80,s_z80),(109,s_z109),(110,s_z110)] 16 (some [2]) nC nC nP
noncomputable def C_z60:Code:=cO Tryz.f60
noncomputable def R_z60:Array ResultVar:=Tryz.f60.results
theorem qFD (n:Nat) (s0:List UInt8) (o0:Lab):evFnP E_z60 n C_z60 R_z60 [.dat (.sl .byte) s0 o0]=qzQ n s0:=by
 kernel_rfl
theorem qvb:qh G Tryz.prog 60 s_z60:=by
 refine sQ (E:=E_z60) (c:=C_z60) rfl (fun w S hg=>(qb (qlR w S hg) (qb (qiV w S hg) (qb (qri w S hg) qd)))) Tryz.func60 (by kernel_rfl) (by kernel_rfl) (by kernel_rfl) ?_
 intro avs r h
 unfold s_z60 at h
 split at h
 ·simp only [Prod.mk.injEq] at h
  obtain ⟨hp,rfl⟩:=h
  obtain ⟨n,hn⟩:=qze _ hp
  exact ⟨n,_,(qFD n _ _).trans hn,.inl rfl⟩
 ·cases h
noncomputable def E_z24:EnvP:=eQ [(11,s_z11),(58,s_z58),(59,s_z59),(60,s_z60)] 36 (some [2]) nC nC nP
noncomputable def C_z24:Code:=cO Tryz.f24
noncomputable def R_z24:Array ResultVar:=Tryz.f24.results
theorem qFE (n:Nat) (s0:List UInt8) (o0:Lab):evFnP E_z24 n C_z24 R_z24 [.dat (.sl .byte) s0 o0]=qzR n s0:=by
 kernel_rfl
theorem qvc:qh G Tryz.prog 24 s_z24:=by
 refine sQ (E:=E_z24) (c:=C_z24) rfl (fun w S hg=>(qb (qfc w S hg) (qb (qlZ w S hg) (qb (qva w S hg) (qb (qvb w S hg) qd))))) Tryz.func24 (by kernel_rfl) (by kernel_rfl) (by kernel_rfl) ?_
 intro avs r h
 unfold s_z24 at h
 split at h
 ·simp only [Prod.mk.injEq] at h
  obtain ⟨hp,rfl⟩:=h
  obtain ⟨n,hn⟩:=qyU _ hp
  exact ⟨n,_,(qFE n _ _).trans hn,.inl rfl⟩
 ·cases h
noncomputable def qDu:EnvP:=eQ [] 23 (some [2]) nC nC nP
noncomputable def qDv:Code:=cO Tryz.f153
noncomputable def qFF:Array ResultVar:=Tryz.f153.results
theorem qDw (n:Nat) (c0:UInt8) (o0:Lab):evFnP qDu n qDv qFF [.dat .byte c0 o0]=qtb n c0:=by
 kernel_rfl
theorem qjg:qh G Tryz.prog 153 s_z153:=by
 refine sQ (E:=qDu) (c:=qDv) rfl (fun w S hg=>qd) Tryz.func153 (by kernel_rfl) (by kernel_rfl) (by kernel_rfl) ?_
 intro avs r h
 unfold s_z153 at h
 split at h
 ·simp only [Prod.mk.injEq,true_and] at h
  subst h
  obtain ⟨n,hn⟩:=qvV _
  exact ⟨n,_,(qDw n _ _).trans hn,.inl rfl⟩
 ·cases h
noncomputable def qDx:EnvP:=eQ [] 12 (some [2,3]) nC nC nP
noncomputable def qDy:Code:=cO Tryz.f193
noncomputable def qFG:Array ResultVar:=Tryz.f193.results
theorem qDz (n:Nat) (c0:UInt8) (o0:Lab):evFnP qDx n qDy qFG [.dat .byte c0 o0]=qtc n c0:=by
 kernel_rfl
theorem qrj:qh G Tryz.prog 193 s_z193:=by
 refine sQ (E:=qDx) (c:=qDy) rfl (fun w S hg=>qd) Tryz.func193 (by kernel_rfl) (by kernel_rfl) (by kernel_rfl) ?_
 intro avs r h
 unfold s_z193 at h
 split at h
 ·simp only [Prod.mk.injEq,true_and] at h
  subst h
  obtain ⟨n,hn⟩:=qvW _
  exact ⟨n,_,(qDz n _ _).trans hn,.inl rfl⟩
 ·cases h
noncomputable def qbg:EnvP:=eQ [(153,s_z153),(193,s_z193)] 55 (some [2]) (fun x=>if x=4 then some [0,3] else none) (fun x=>if x=0 then some [3] else if x=1 then some [0,3] else none) nP
noncomputable def qhX:Code:=cO Tryz.f152
noncomputable def qrk:Array ResultVar:=Tryz.f152.results
theorem qrl (K:Ex→Fr→Option AV):∀ (n:Nat) (s0:List UInt8) (n3:Int),evLP qbg n (sub qhX [1,1,1,0,0,0]) K (frOf [(0,(.dat (.sl .byte) s0 none)),(3,(.dat (.int .i64) n3 none))])=qeE (fun s2=>K .ret (frOf [(2,(.dat (.int .i64) s2 none))])) (fun n3=>K (.exit 0) (frOf [(3,(.dat (.int .i64) n3 none))])) n s0 n3:=by
 intro n
 induction n with
 | zero=>intros; rfl
 | succ n IH =>
 intro s0 n3
 have ih:(fun s0 n3=>evLP qbg n (sub qhX [1,1,1,0,0,0]) K (frOf [(0,(.dat (.sl .byte) s0 none)),(3,(.dat (.int .i64) n3 none))]))=qeE (fun s2=>K .ret (frOf [(2,(.dat (.int .i64) s2 none))])) (fun n3=>K (.exit 0) (frOf [(3,(.dat (.int .i64) n3 none))])) n:=by
  funext s0 n3
  exact IH s0 n3
 show _=qcr (fun s2=>K .ret (frOf [(2,(.dat (.int .i64) s2 none))])) (fun n3=>K (.exit 0) (frOf [(3,(.dat (.int .i64) n3 none))])) (qeE (fun s2=>K .ret (frOf [(2,(.dat (.int .i64) s2 none))])) (fun n3=>K (.exit 0) (frOf [(3,(.dat (.int .i64) n3 none))])) n) n s0 n3
 rw [← ih]
 kernel_rfl
theorem qkF (n:Nat) (n3:Int):(qc 0 (qbg.cutb 0) (kSeq (evCP qbg (evLP qbg n) (sub qhX [1,1,1,1])) (kFnP qbg qrk))) (.exit 0) (frOf [(3,(.dat (.int .i64) n3 none))])=qcs n n3:=by
 kernel_rfl
theorem qDA (n:Nat) (s0:List UInt8) (o0:Lab):evFnP qbg n qhX qrk [.dat (.sl .byte) s0 o0]=qmO n s0:=by
 unfold qmO
 rw [show qeE qbi (qcs n) n=(fun s0 n3=>evLP qbg n (sub qhX [1,1,1,0,0,0]) (qc 0 (qbg.cutb 0) (kSeq (evCP qbg (evLP qbg n) (sub qhX [1,1,1,1])) (kFnP qbg qrk))) (frOf [(0,(.dat (.sl .byte) s0 none)),(3,(.dat (.int .i64) n3 none))])) from by
  funext s0 n3
  refine Eq.trans ?_ (qrl (qc 0 (qbg.cutb 0) (kSeq (evCP qbg (evLP qbg n) (sub qhX [1,1,1,1])) (kFnP qbg qrk))) n s0 n3).symm
  rw [show (fun n3=>(qc 0 (qbg.cutb 0) (kSeq (evCP qbg (evLP qbg n) (sub qhX [1,1,1,1])) (kFnP qbg qrk))) (.exit 0) (frOf [(3,(.dat (.int .i64) n3 none))]))=(qcs n) from by
   funext n3
   exact qkF n n3]
  all_goals kernel_rfl]
 kernel_rfl
theorem qrm:qh G Tryz.prog 152 s_z152:=by
 refine sQ (E:=qbg) (c:=qhX) rfl (fun w S hg=>(qb (qjg w S hg) (qb (qrj w S hg) qd))) Tryz.func152 (by kernel_rfl) (by kernel_rfl) (by kernel_rfl) ?_
 intro avs r h
 unfold s_z152 at h
 split at h
 ·simp only [Prod.mk.injEq] at h
  obtain ⟨hp,rfl⟩:=h
  obtain ⟨n,hn⟩:=qvY _ hp
  exact ⟨n,_,(qDA n _ _).trans hn,.inl rfl⟩
 ·cases h
end Go.Av
