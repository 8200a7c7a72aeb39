import Derived.Test.YtopepdfipgfakaaGreatDoorEfEvF
import Derived.Test.YtopepdfipgfakaaGreatDoorEfLayX
import Derived.Test.YtopepdfipgfakaaGreatDoorProg
import Derived.KernelRfl
namespace Go.Av
set_option linter.unusedSimpArgs false
open Go.Proofs
set_option maxRecDepth 100000
set_option linter.unusedVariables false
noncomputable def qCi:EnvP:=⟨⟨tiOf tis,fnsOf [],cnsOf [],[],39,(fun x=>if x=2000005 then some [4,5,6] else none),(fun x=>if x=0 then some [4,6] else if x=1 then some [1043,1044,1045] else none),some [1000002,3]⟩,(fun x=>if x=4 then some (.osl 5 .byte) else if x=5 then some (.leaf (.int .i64)) else if x=6 then some (.leaf (.int .i64)) else if x=25 then some (.osl 5 .byte) else if x=31 then some (.osl 5 .byte) else none),fun _=>none,fun _=>[],fun _=>none,(fun x=>if x=188 then some s_z188 else none),(fun x=>if x=219 then some qwi else none),fun _=>none⟩
noncomputable def qCj:Code:=cO Tryz.f143
noncomputable def qEB:Array ResultVar:=Tryz.f143.results
theorem qCk (n:Nat) (s0:List UInt8) (o0:Lab):evFnP qCi n qCj qEB [.dat (.sl .byte) s0 o0]=qrW n s0:=by
 kernel_rfl
theorem qqn:qg G Tryz.prog 143 s_z143:=by
 refine qO G_stays (E:=qCi) (fn:=Tryz.f143) (c:=qCj) (qp rfl qea) (fun w S hg=>⟨⟨qd,fun f sp h=>qbB f sp h w S⟩,qbH w S hg,(fun _ _ h=>by cases h),(fun f sp h=>(qnI (qqm w S hg) qcs) f sp h),(fun f it h=>(qwX (qql w S hg) qct) f it h),(fun t kt vt h=>qbL t kt vt h)⟩) follows Tryz.func143 (by kernel_rfl) (by kernel_rfl) (by kernel_rfl) ?_
 intro avs r h
 unfold s_z143 at h
 split at h
 ·simp only [Prod.mk.injEq] at h
  obtain ⟨hp,rfl⟩:=h
  obtain ⟨n,hn⟩:=quR _ hp
  exact ⟨n,_,(qCk n _ _).trans hn,.inl rfl⟩
 ·cases h
noncomputable def E_z98:EnvP:=eQ [(143,s_z143)] 11 (some [2]) nC nC nP
noncomputable def C_z98:Code:=cO Tryz.f98
noncomputable def R_z98:Array ResultVar:=Tryz.f98.results
theorem qEC (n:Nat) (s0:List UInt8) (o0:Lab):evFnP E_z98 n C_z98 R_z98 [.dat (.sl .byte) s0 o0]=qyM n s0:=by
 kernel_rfl
theorem qub:qg G Tryz.prog 98 s_z98:=by
 refine sQ (E:=E_z98) (c:=C_z98) rfl (fun w S hg=>(qb (qqn w S hg) qd)) Tryz.func98 (by kernel_rfl) (by kernel_rfl) (by kernel_rfl) ?_
 intro avs r h
 unfold s_z98 at h
 split at h
 ·simp only [Prod.mk.injEq] at h
  obtain ⟨hp,rfl⟩:=h
  obtain ⟨n,hn⟩:=qyo _ hp
  exact ⟨n,_,(qEC n _ _).trans hn,.inl rfl⟩
 ·cases h
noncomputable def qCl:EnvP:=eQ [(126,s_z126),(129,s_z129)] 23 (some [2,3]) nC (fun x=>if x=0 then some [] else none) nP
noncomputable def qCm:Code:=cO Tryz.f237
noncomputable def qED:Array ResultVar:=Tryz.f237.results
theorem qCn (n:Nat) (c0:UInt8) (o0:Lab):evFnP qCl n qCm qED [.dat .byte c0 o0]=qrX n c0:=by
 kernel_rfl
theorem qqo:qg G Tryz.prog 237 s_z237:=by
 refine sQ (E:=qCl) (c:=qCm) rfl (fun w S hg=>(qb (qiH w S hg) (qb (qfO w S hg) qd))) Tryz.func237 (by kernel_rfl) (by kernel_rfl) (by kernel_rfl) ?_
 intro avs r h
 unfold s_z237 at h
 split at h
 ·simp only [Prod.mk.injEq,true_and] at h
  subst h
  obtain ⟨n,hn⟩:=qvJ _
  exact ⟨n,_,(qCn n _ _).trans hn,.inl rfl⟩
 ·cases h
noncomputable def qCo:EnvP:=eQ [(237,s_z237)] 31 (some [4,5]) nC nC nP
noncomputable def qCp:Code:=cO Tryz.f220
noncomputable def qEE:Array ResultVar:=Tryz.f220.results
theorem qCq (n:Nat) (a0:UInt8) (o0:Lab) (b1:UInt8) (o1:Lab):evFnP qCo n qCp qEE [.dat .byte a0 o0,.dat .byte b1 o1]=qrY n a0 b1:=by
 kernel_rfl
theorem qqp:qg G Tryz.prog 220 s_z220:=by
 refine sQ (E:=qCo) (c:=qCp) rfl (fun w S hg=>(qb (qqo w S hg) qd)) Tryz.func220 (by kernel_rfl) (by kernel_rfl) (by kernel_rfl) ?_
 intro avs r h
 unfold s_z220 at h
 split at h
 ·simp only [Prod.mk.injEq,true_and] at h
  subst h
  obtain ⟨n,hn⟩:=qvL _ _
  exact ⟨n,_,(qCq n _ _ _ _).trans hn,.inl rfl⟩
 ·cases h
noncomputable def qCr:EnvP:=eQ [(220,s_z220)] 38 (some [6,7]) nC nC nP
noncomputable def qCs:Code:=cO Tryz.f189
noncomputable def qEF:Array ResultVar:=Tryz.f189.results
theorem qCt (n:Nat) (s0:List UInt8) (o0:Lab) (at1:Int) (o1:Lab) (sign2:UInt8) (o2:Lab):evFnP qCr n qCs qEF [.dat (.sl .byte) s0 o0,.dat (.int .i64) at1 o1,.dat .byte sign2 o2]=qrZ n s0 at1 sign2:=by
 kernel_rfl
theorem qqq:qg G Tryz.prog 189 s_z189:=by
 refine sQ (E:=qCr) (c:=qCs) rfl (fun w S hg=>(qb (qqp w S hg) qd)) Tryz.func189 (by kernel_rfl) (by kernel_rfl) (by kernel_rfl) ?_
 intro avs r h
 unfold s_z189 at h
 split at h
 ·simp only [Prod.mk.injEq] at h
  obtain ⟨hp,rfl⟩:=h
  obtain ⟨n,hn⟩:=qvM _ _ _ hp
  exact ⟨n,_,(qCt n _ _ _ _ _ _).trans hn,.inl rfl⟩
 ·cases h
noncomputable def qbd:EnvP:=eQ [(189,s_z189)] 46 (some [2,3]) (fun x=>if x=4 then some [0,4,5,6] else none) (fun x=>if x=0 then some [4,5] else if x=1 then some [0,4,5,6] else if x=2 then some [0,4,5,6,7] else none) nP
noncomputable def qhJ:Code:=cO Tryz.f144
noncomputable def qqr:Array ResultVar:=Tryz.f144.results
theorem qqs (K:Ex→Fr→Option AV):∀ (n:Nat) (s0:List UInt8) (out4:List UInt8) (strange5:Int) (at6:Int),evLP qbd n (sub qhJ [1,0,1,1,1,1,0,0,0]) K (frOf [(0,(.dat (.sl .byte) s0 none)),(4,(.dat (.sl .byte) out4 (some (4,5)))),(5,(.dat (.int .i64) strange5 none)),(6,(.dat (.int .i64) at6 none))])=qgf (fun out4 strange5=>K (.exit 0) (frOf [(4,(.dat (.sl .byte) out4 (some (4,5)))),(5,(.dat (.int .i64) strange5 none))])) n s0 out4 strange5 at6:=by
 intro n
 induction n with
 | zero=>intros; rfl
 | succ n IH =>
 intro s0 out4 strange5 at6
 have ih:(fun s0 out4 strange5 at6=>evLP qbd n (sub qhJ [1,0,1,1,1,1,0,0,0]) K (frOf [(0,(.dat (.sl .byte) s0 none)),(4,(.dat (.sl .byte) out4 (some (4,5)))),(5,(.dat (.int .i64) strange5 none)),(6,(.dat (.int .i64) at6 none))]))=qgf (fun out4 strange5=>K (.exit 0) (frOf [(4,(.dat (.sl .byte) out4 (some (4,5)))),(5,(.dat (.int .i64) strange5 none))])) n:=by
  funext s0 out4 strange5 at6
  exact IH s0 out4 strange5 at6
 show _=qfi (fun out4 strange5=>K (.exit 0) (frOf [(4,(.dat (.sl .byte) out4 (some (4,5)))),(5,(.dat (.int .i64) strange5 none))])) (qgf (fun out4 strange5=>K (.exit 0) (frOf [(4,(.dat (.sl .byte) out4 (some (4,5)))),(5,(.dat (.int .i64) strange5 none))])) n) n s0 out4 strange5 at6
 rw [← ih]
 kernel_rfl
theorem qkc (n:Nat) (out4:List UInt8) (strange5:Int):(qc 0 (qbd.cutb 0) (kSeq (evCP qbd (evLP qbd n) (sub qhJ [1,0,1,1,1,1,1])) (kFnP qbd qqr))) (.exit 0) (frOf [(4,(.dat (.sl .byte) out4 (some (4,5)))),(5,(.dat (.int .i64) strange5 none))])=qdC n out4 strange5:=by
 kernel_rfl
theorem qCu (n:Nat) (s0:List UInt8) (o0:Lab):evFnP qbd n qhJ qqr [.dat (.sl .byte) s0 o0]=qsa n s0:=by
 unfold qsa
 rw [show qgf (qdC n) n=(fun s0 out4 strange5 at6=>evLP qbd n (sub qhJ [1,0,1,1,1,1,0,0,0]) (qc 0 (qbd.cutb 0) (kSeq (evCP qbd (evLP qbd n) (sub qhJ [1,0,1,1,1,1,1])) (kFnP qbd qqr))) (frOf [(0,(.dat (.sl .byte) s0 none)),(4,(.dat (.sl .byte) out4 (some (4,5)))),(5,(.dat (.int .i64) strange5 none)),(6,(.dat (.int .i64) at6 none))])) from by
  funext s0 out4 strange5 at6
  refine Eq.trans ?_ (qqs (qc 0 (qbd.cutb 0) (kSeq (evCP qbd (evLP qbd n) (sub qhJ [1,0,1,1,1,1,1])) (kFnP qbd qqr))) n s0 out4 strange5 at6).symm
  rw [show (fun out4 strange5=>(qc 0 (qbd.cutb 0) (kSeq (evCP qbd (evLP qbd n) (sub qhJ [1,0,1,1,1,1,1])) (kFnP qbd qqr))) (.exit 0) (frOf [(4,(.dat (.sl .byte) out4 (some (4,5)))),(5,(.dat (.int .i64) strange5 none))]))=(qdC n) from by
   funext out4 strange5
   exact qkc n out4 strange5]
  all_goals kernel_rfl]
 kernel_rfl
theorem qqt:qg G Tryz.prog 144 s_z144:=by
 refine sQ (E:=qbd) (c:=qhJ) rfl (fun w S hg=>(qb (qqq w S hg) qd)) Tryz.func144 (by kernel_rfl) (by kernel_rfl) (by kernel_rfl) ?_
 intro avs r h
 unfold s_z144 at h
 split at h
 ·simp only [Prod.mk.injEq] at h
  obtain ⟨hp,rfl⟩:=h
  obtain ⟨n,hn⟩:=quL _ hp
  exact ⟨n,_,(qCu n _ _).trans hn,.inl rfl⟩
 ·cases h
noncomputable def E_z99:EnvP:=eQ [(144,s_z144)] 11 (some [2]) nC nC nP
noncomputable def C_z99:Code:=cO Tryz.f99
noncomputable def R_z99:Array ResultVar:=Tryz.f99.results
theorem qEG (n:Nat) (s0:List UInt8) (o0:Lab):evFnP E_z99 n C_z99 R_z99 [.dat (.sl .byte) s0 o0]=qyN n s0:=by
 kernel_rfl
theorem quc:qg G Tryz.prog 99 s_z99:=by
 refine sQ (E:=E_z99) (c:=C_z99) rfl (fun w S hg=>(qb (qqt w S hg) qd)) Tryz.func99 (by kernel_rfl) (by kernel_rfl) (by kernel_rfl) ?_
 intro avs r h
 unfold s_z99 at h
 split at h
 ·simp only [Prod.mk.injEq] at h
  obtain ⟨hp,rfl⟩:=h
  obtain ⟨n,hn⟩:=qyj _ hp
  exact ⟨n,_,(qEG n _ _).trans hn,.inl rfl⟩
 ·cases h
noncomputable def E_z54:EnvP:=eQ [(98,s_z98),(99,s_z99)] 12 (some [2]) nC nC nP
noncomputable def C_z54:Code:=cO Tryz.f54
noncomputable def R_z54:Array ResultVar:=Tryz.f54.results
theorem qEH (n:Nat) (w0:(List UInt8)×(Int×((List UInt8)×Unit))) (o0:Lab):evFnP E_z54 n C_z54 R_z54 [.dat (.pair (.sl .byte) (.pair (.int .i64) (.pair (.sl .byte) .unit))) w0 o0]=qyO n w0:=by
 kernel_rfl
theorem qud:qg G Tryz.prog 54 s_z54:=by
 refine sQ (E:=E_z54) (c:=C_z54) rfl (fun w S hg=>(qb (qub w S hg) (qb (quc w S hg) qd))) Tryz.func54 (by kernel_rfl) (by kernel_rfl) (by kernel_rfl) ?_
 intro avs r h
 unfold s_z54 at h
 split at h
 ·simp only [Prod.mk.injEq] at h
  obtain ⟨hp,rfl⟩:=h
  obtain ⟨n,hn⟩:=qym _ hp
  exact ⟨n,_,(qEH n _ _).trans hn,.inl rfl⟩
 ·cases h
noncomputable def E_z19:EnvP:=eQ [(11,s_z11),(52,s_z52),(53,s_z53),(54,s_z54)] 18 (some [1000002,3]) nC nC nP
noncomputable def C_z19:Code:=cO Tryz.f19
noncomputable def R_z19:Array ResultVar:=Tryz.f19.results
theorem qEI (n:Nat) (s0:List UInt8) (o0:Lab):evFnP E_z19 n C_z19 R_z19 [.dat (.sl .byte) s0 o0]=qyP n s0:=by
 kernel_rfl
theorem que:qg G Tryz.prog 19 s_z19:=by
 refine sQ (E:=E_z19) (c:=C_z19) rfl (fun w S hg=>(qb (qlx w S hg) (qb (qtY w S hg) (qb (qua w S hg) (qb (qud w S hg) qd))))) Tryz.func19 (by kernel_rfl) (by kernel_rfl) (by kernel_rfl) ?_
 intro avs r h
 unfold s_z19 at h
 split at h
 ·simp only [Prod.mk.injEq] at h
  obtain ⟨hp,rfl⟩:=h
  obtain ⟨n,hn⟩:=qyb _ hp
  exact ⟨n,_,(qEI n _ _).trans hn,.inl rfl⟩
 ·cases h
noncomputable def E_z10:EnvP:=eQ [(14,s_z14),(15,s_z15),(17,s_z17),(19,s_z19)] 47 (some [0]) nC nC nP
noncomputable def C_z10:Code:=cO Tryz.f10
noncomputable def R_z10:Array ResultVar:=Tryz.f10.results
theorem qEJ (n:Nat)  : evFnP E_z10 n C_z10 R_z10 []=qCW n  := by
 kernel_rfl
theorem quf:qg G Tryz.prog 10 s_z10:=by
 refine sQ (E:=E_z10) (c:=C_z10) rfl (fun w S hg=>(qb (qtF w S hg) (qb (qlC w S hg) (qb (qlD w S hg) (qb (que w S hg) qd))))) Tryz.func10 (by kernel_rfl) (by kernel_rfl) (by kernel_rfl) ?_
 intro avs r h
 unfold s_z10 at h
 split at h
 ·simp only [Prod.mk.injEq,true_and] at h
  subst h
  obtain ⟨n,hn⟩:=qye
  exact ⟨n,_,(qEJ n ).trans hn,.inl rfl⟩
 ·cases h
noncomputable def E_z13:EnvP:=eQ [] 26 (some [4]) (fun x=>if x=4 then some [0,1,5] else none) (fun x=>if x=0 then some [] else if x=1 then some [0,1,5] else none) nP
noncomputable def C_z13:Code:=cO Tryz.f13
noncomputable def R_z13:Array ResultVar:=Tryz.f13.results
theorem qug (K:Ex→Fr→Option AV):∀ (n:Nat) (a0:List UInt8) (b1:List UInt8) (i5:Int),evLP E_z13 n (sub C_z13 [1,1,0,1,0,0]) K (frOf [(0,(.dat (.sl .byte) a0 none)),(1,(.dat (.sl .byte) b1 none)),(5,(.dat (.int .i64) i5 none))])=qhU (fun s4=>K .ret (frOf [(4,(.dat .bool s4 none))])) (K (.exit 0) (frOf [])) n a0 b1 i5:=by
 intro n
 induction n with
 | zero=>intros; rfl
 | succ n IH =>
 intro a0 b1 i5
 have ih:(fun a0 b1 i5=>evLP E_z13 n (sub C_z13 [1,1,0,1,0,0]) K (frOf [(0,(.dat (.sl .byte) a0 none)),(1,(.dat (.sl .byte) b1 none)),(5,(.dat (.int .i64) i5 none))]))=qhU (fun s4=>K .ret (frOf [(4,(.dat .bool s4 none))])) (K (.exit 0) (frOf [])) n:=by
  funext a0 b1 i5
  exact IH a0 b1 i5
 show _=qeo (fun s4=>K .ret (frOf [(4,(.dat .bool s4 none))])) (K (.exit 0) (frOf [])) (qhU (fun s4=>K .ret (frOf [(4,(.dat .bool s4 none))])) (K (.exit 0) (frOf [])) n) n a0 b1 i5
 rw [← ih]
 kernel_rfl
theorem qnf (n:Nat)  : (qc 0 (E_z13.cutb 0) (kSeq (evCP E_z13 (evLP E_z13 n) (sub C_z13 [1,1,1])) (kFnP E_z13 R_z13))) (.exit 0) (frOf [])=qhV n  := by
 kernel_rfl
theorem qEK (n:Nat) (a0:List UInt8) (o0:Lab) (b1:List UInt8) (o1:Lab):evFnP E_z13 n C_z13 R_z13 [.dat (.sl .byte) a0 o0,.dat (.sl .byte) b1 o1]=qvi n a0 b1:=by
 unfold qvi
 rw [show qhU qgL (qhV n) n=(fun a0 b1 i5=>evLP E_z13 n (sub C_z13 [1,1,0,1,0,0]) (qc 0 (E_z13.cutb 0) (kSeq (evCP E_z13 (evLP E_z13 n) (sub C_z13 [1,1,1])) (kFnP E_z13 R_z13))) (frOf [(0,(.dat (.sl .byte) a0 none)),(1,(.dat (.sl .byte) b1 none)),(5,(.dat (.int .i64) i5 none))])) from by
  funext a0 b1 i5
  refine Eq.trans ?_ (qug (qc 0 (E_z13.cutb 0) (kSeq (evCP E_z13 (evLP E_z13 n) (sub C_z13 [1,1,1])) (kFnP E_z13 R_z13))) n a0 b1 i5).symm
  rw [show ((qc 0 (E_z13.cutb 0) (kSeq (evCP E_z13 (evLP E_z13 n) (sub C_z13 [1,1,1])) (kFnP E_z13 R_z13))) (.exit 0) (frOf []))=(qhV n) from by
   exact qnf n ]
  all_goals kernel_rfl]
 kernel_rfl
theorem quh:qg G Tryz.prog 13 s_z13:=by
 refine sQ (E:=E_z13) (c:=C_z13) rfl (fun w S hg=>qd) Tryz.func13 (by kernel_rfl) (by kernel_rfl) (by kernel_rfl) ?_
 intro avs r h
 unfold s_z13 at h
 split at h
 ·simp only [Prod.mk.injEq] at h
  obtain ⟨hp,rfl⟩:=h
  obtain ⟨n,hn⟩:=qyV _ _ hp
  exact ⟨n,_,(qEK n _ _ _ _).trans hn,.inl rfl⟩
 ·cases h
noncomputable def qx:EnvP:=eQ [] 28 (some [2]) (fun x=>if x=3 then some [0,3,4] else if x=6 then some [0,3,4,5] else none) (fun x=>if x=0 then some [3] else if x=1 then some [0,3,4] else if x=2 then some [0,3,4] else if x=3 then some [0,3,4,5] else none) nP
noncomputable def qaF:Code:=cO Tryz.f134
noncomputable def qqu:Array ResultVar:=Tryz.f134.results
theorem qqv (K:Ex→Fr→Option AV):∀ (n:Nat) (s0:List UInt8) (out3:List Int) (i4:Int) (k5:Int),evLP qx n (sub qaF [1,1,0,1,0,0,1,0,0,1,0,0]) K (frOf [(0,(.dat (.sl .byte) s0 none)),(3,(.dat (.sl (.int .i64)) out3 (some (3,3)))),(4,(.dat (.int .i64) i4 none)),(5,(.dat (.int .i64) k5 none))])=qdD (fun s0 out3 i4=>K (.exit 2) (frOf [(0,(.dat (.sl .byte) s0 none)),(3,(.dat (.sl (.int .i64)) out3 (some (3,3)))),(4,(.dat (.int .i64) i4 none))])) n s0 out3 i4 k5:=by
 intro n
 induction n with
 | zero=>intros; rfl
 | succ n IH =>
 intro s0 out3 i4 k5
 have ih:(fun s0 out3 i4 k5=>evLP qx n (sub qaF [1,1,0,1,0,0,1,0,0,1,0,0]) K (frOf [(0,(.dat (.sl .byte) s0 none)),(3,(.dat (.sl (.int .i64)) out3 (some (3,3)))),(4,(.dat (.int .i64) i4 none)),(5,(.dat (.int .i64) k5 none))]))=qdD (fun s0 out3 i4=>K (.exit 2) (frOf [(0,(.dat (.sl .byte) s0 none)),(3,(.dat (.sl (.int .i64)) out3 (some (3,3)))),(4,(.dat (.int .i64) i4 none))])) n:=by
  funext s0 out3 i4 k5
  exact IH s0 out3 i4 k5
 show _=qcp (fun s0 out3 i4=>K (.exit 2) (frOf [(0,(.dat (.sl .byte) s0 none)),(3,(.dat (.sl (.int .i64)) out3 (some (3,3)))),(4,(.dat (.int .i64) i4 none))])) (qdD (fun s0 out3 i4=>K (.exit 2) (frOf [(0,(.dat (.sl .byte) s0 none)),(3,(.dat (.sl (.int .i64)) out3 (some (3,3)))),(4,(.dat (.int .i64) i4 none))])) n) n s0 out3 i4 k5
 rw [← ih]
 kernel_rfl
theorem qkd (K:Ex→Fr→Option AV) (n:Nat) (s0:List UInt8) (out3:List Int) (i4:Int):(qc 2 (qx.cutb 2) (qc 1 (qx.cutb 1) (kSeq (evCP qx (evLP qx n) (sub qaF [1,1,0,1,0,0,1,1])) (kSeq (fun K fr=>evLP qx n (sub qaF [1,1,0,1,0,0]) K (cutFP (qx.cuts 3) fr)) K)))) (.exit 2) (frOf [(0,(.dat (.sl .byte) s0 none)),(3,(.dat (.sl (.int .i64)) out3 (some (3,3)))),(4,(.dat (.int .i64) i4 none))])=qdE (fun out3=>K (.exit 0) (frOf [(3,(.dat (.sl (.int .i64)) out3 (some (3,3))))])) (fun s0 out3 i4=>evLP qx n (sub qaF [1,1,0,1,0,0]) K (frOf [(0,(.dat (.sl .byte) s0 none)),(3,(.dat (.sl (.int .i64)) out3 (some (3,3)))),(4,(.dat (.int .i64) i4 none))])) n s0 out3 i4:=by
 kernel_rfl
theorem qqw (K:Ex→Fr→Option AV):∀ (n:Nat) (s0:List UInt8) (out3:List Int) (i4:Int),evLP qx n (sub qaF [1,1,0,1,0,0]) K (frOf [(0,(.dat (.sl .byte) s0 none)),(3,(.dat (.sl (.int .i64)) out3 (some (3,3)))),(4,(.dat (.int .i64) i4 none))])=qgg (fun out3=>K (.exit 0) (frOf [(3,(.dat (.sl (.int .i64)) out3 (some (3,3))))])) n s0 out3 i4:=by
 intro n
 induction n with
 | zero=>intros; rfl
 | succ n IH =>
 intro s0 out3 i4
 have ih:(fun s0 out3 i4=>evLP qx n (sub qaF [1,1,0,1,0,0]) K (frOf [(0,(.dat (.sl .byte) s0 none)),(3,(.dat (.sl (.int .i64)) out3 (some (3,3)))),(4,(.dat (.int .i64) i4 none))]))=qgg (fun out3=>K (.exit 0) (frOf [(3,(.dat (.sl (.int .i64)) out3 (some (3,3))))])) n:=by
  funext s0 out3 i4
  exact IH s0 out3 i4
 show _=qbz (fun out3=>K (.exit 0) (frOf [(3,(.dat (.sl (.int .i64)) out3 (some (3,3))))])) (qgg (fun out3=>K (.exit 0) (frOf [(3,(.dat (.sl (.int .i64)) out3 (some (3,3))))])) n) n s0 out3 i4
 rw [← ih]
 unfold qbz
 rw [show qdD (qdE (fun out3=>K (.exit 0) (frOf [(3,(.dat (.sl (.int .i64)) out3 (some (3,3))))])) (fun s0 out3 i4=>evLP qx n (sub qaF [1,1,0,1,0,0]) K (frOf [(0,(.dat (.sl .byte) s0 none)),(3,(.dat (.sl (.int .i64)) out3 (some (3,3)))),(4,(.dat (.int .i64) i4 none))])) n) n=(fun s0 out3 i4 k5=>evLP qx n (sub qaF [1,1,0,1,0,0,1,0,0,1,0,0]) (qc 2 (qx.cutb 2) (qc 1 (qx.cutb 1) (kSeq (evCP qx (evLP qx n) (sub qaF [1,1,0,1,0,0,1,1])) (kSeq (fun K fr=>evLP qx n (sub qaF [1,1,0,1,0,0]) K (cutFP (qx.cuts 3) fr)) K)))) (frOf [(0,(.dat (.sl .byte) s0 none)),(3,(.dat (.sl (.int .i64)) out3 (some (3,3)))),(4,(.dat (.int .i64) i4 none)),(5,(.dat (.int .i64) k5 none))])) from by
  funext s0 out3 i4 k5
  refine Eq.trans ?_ (qqv (qc 2 (qx.cutb 2) (qc 1 (qx.cutb 1) (kSeq (evCP qx (evLP qx n) (sub qaF [1,1,0,1,0,0,1,1])) (kSeq (fun K fr=>evLP qx n (sub qaF [1,1,0,1,0,0]) K (cutFP (qx.cuts 3) fr)) K)))) n s0 out3 i4 k5).symm
  rw [show (fun s0 out3 i4=>(qc 2 (qx.cutb 2) (qc 1 (qx.cutb 1) (kSeq (evCP qx (evLP qx n) (sub qaF [1,1,0,1,0,0,1,1])) (kSeq (fun K fr=>evLP qx n (sub qaF [1,1,0,1,0,0]) K (cutFP (qx.cuts 3) fr)) K)))) (.exit 2) (frOf [(0,(.dat (.sl .byte) s0 none)),(3,(.dat (.sl (.int .i64)) out3 (some (3,3)))),(4,(.dat (.int .i64) i4 none))]))=(qdE (fun out3=>K (.exit 0) (frOf [(3,(.dat (.sl (.int .i64)) out3 (some (3,3))))])) (fun s0 out3 i4=>evLP qx n (sub qaF [1,1,0,1,0,0]) K (frOf [(0,(.dat (.sl .byte) s0 none)),(3,(.dat (.sl (.int .i64)) out3 (some (3,3)))),(4,(.dat (.int .i64) i4 none))])) n) from by
   funext s0 out3 i4
   exact qkd K n s0 out3 i4]
  all_goals kernel_rfl]
 kernel_rfl
theorem qke (n:Nat) (out3:List Int):(qc 0 (qx.cutb 0) (kSeq (evCP qx (evLP qx n) (sub qaF [1,1,1])) (kFnP qx qqu))) (.exit 0) (frOf [(3,(.dat (.sl (.int .i64)) out3 (some (3,3))))])=qdF n out3:=by
 kernel_rfl
theorem qCv (n:Nat) (s0:List UInt8) (o0:Lab):evFnP qx n qaF qqu [.dat (.sl .byte) s0 o0]=qmf n s0:=by
 unfold qmf
 rw [show qgg (qdF n) n=(fun s0 out3 i4=>evLP qx n (sub qaF [1,1,0,1,0,0]) (qc 0 (qx.cutb 0) (kSeq (evCP qx (evLP qx n) (sub qaF [1,1,1])) (kFnP qx qqu))) (frOf [(0,(.dat (.sl .byte) s0 none)),(3,(.dat (.sl (.int .i64)) out3 (some (3,3)))),(4,(.dat (.int .i64) i4 none))])) from by
  funext s0 out3 i4
  refine Eq.trans ?_ (qqw (qc 0 (qx.cutb 0) (kSeq (evCP qx (evLP qx n) (sub qaF [1,1,1])) (kFnP qx qqu))) n s0 out3 i4).symm
  rw [show (fun out3=>(qc 0 (qx.cutb 0) (kSeq (evCP qx (evLP qx n) (sub qaF [1,1,1])) (kFnP qx qqu))) (.exit 0) (frOf [(3,(.dat (.sl (.int .i64)) out3 (some (3,3))))]))=(qdF n) from by
   funext out3
   exact qke n out3]
  all_goals kernel_rfl]
 kernel_rfl
theorem qqx:qg G Tryz.prog 134 s_z134:=by
 refine sQ (E:=qx) (c:=qaF) rfl (fun w S hg=>qd) Tryz.func134 (by kernel_rfl) (by kernel_rfl) (by kernel_rfl) ?_
 intro avs r h
 unfold s_z134 at h
 split at h
 ·simp only [Prod.mk.injEq] at h
  obtain ⟨hp,rfl⟩:=h
  obtain ⟨n,hn⟩:=qvV _ hp
  exact ⟨n,_,(qCv n _ _).trans hn,.inl rfl⟩
 ·cases h
end Go.Av
