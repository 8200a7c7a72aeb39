import Derived.Test.YtopepdfipgfakaaGreatDoorEfEvH
import Derived.Test.YtopepdfipgfakaaGreatDoorEfLayX
import Derived.Test.YtopepdfipgfakaaGreatDoorProg
import Derived.KernelRfl
namespace Go.Av
set_option linter.unusedSimpArgs false
open Go.Proofs
set_option maxRecDepth 100000
set_option linter.unusedVariables false
noncomputable def E_z82:EnvP:=eQ [(128,s_z128)] 10 (some [4]) nC nC nP
noncomputable def C_z82:Code:=cO Tryz.f82
noncomputable def R_z82:Array ResultVar:=Tryz.f82.results
theorem qDq (n:Nat) (c0:UInt8) (o0:Lab) (kinds1:Int) (o1:Lab):evFnP E_z82 n C_z82 R_z82 [.dat .byte c0 o0,.dat (.int .i64) kinds1 o1]=qCX n c0 kinds1:=by
 kernel_rfl
theorem qts:qg G Tryz.prog 82 s_z82:=by
 refine sQ (E:=E_z82) (c:=C_z82) rfl (fun w S hg=>(qb (qqF w S hg) qd)) Tryz.func82 (by kernel_rfl) (by kernel_rfl) (by kernel_rfl) ?_
 intro avs r h
 unfold s_z82 at h
 split at h
 ·simp only [Prod.mk.injEq,true_and] at h
  subst h
  obtain ⟨n,hn⟩:=qyZ _ _
  exact ⟨n,_,(qDq n _ _ _ _).trans hn,.inl rfl⟩
 ·cases h
noncomputable def qAn:EnvP:=eQ [] 17 (some [2]) nC nC nP
noncomputable def qAo:Code:=cO Tryz.f184
noncomputable def qDr:Array ResultVar:=Tryz.f184.results
theorem qAp (n:Nat) (n0:Int) (o0:Lab):evFnP qAn n qAo qDr [.dat (.int .i64) n0 o0]=qsf n n0:=by
 kernel_rfl
theorem qoU:qg G Tryz.prog 184 s_z184:=by
 refine sQ (E:=qAn) (c:=qAo) rfl (fun w S hg=>qd) Tryz.func184 (by kernel_rfl) (by kernel_rfl) (by kernel_rfl) ?_
 intro avs r h
 unfold s_z184 at h
 split at h
 ·simp only [Prod.mk.injEq] at h
  obtain ⟨hp,rfl⟩:=h
  obtain ⟨n,hn⟩:=qvI _ hp
  exact ⟨n,_,(qAp n _ _).trans hn,.inl rfl⟩
 ·cases h
noncomputable def qAq:EnvP:=eQ [(184,s_z184)] 20 (some [6]) nC nC nP
noncomputable def qAr:Code:=cO Tryz.f137
noncomputable def qDs:Array ResultVar:=Tryz.f137.results
theorem qAs (n:Nat) (b0:List UInt8) (o0:Lab) (sign1:UInt8) (o1:Lab) (c2:UInt8) (o2:Lab):evFnP qAq n qAr qDs [.dat (.sl .byte) b0 o0,.dat .byte sign1 o1,.dat .byte c2 o2]=qsh n b0 sign1 c2:=by
 kernel_rfl
theorem qoV:qg G Tryz.prog 137 s_z137:=by
 refine sQ (E:=qAq) (c:=qAr) rfl (fun w S hg=>(qb (qoU w S hg) qd)) Tryz.func137 (by kernel_rfl) (by kernel_rfl) (by kernel_rfl) ?_
 intro avs r h
 unfold s_z137 at h
 split at h
 ·simp only [Prod.mk.injEq] at h
  obtain ⟨hp,rfl⟩:=h
  obtain ⟨n,hn⟩:=qvO _ _ _ hp
  exact ⟨n,_,(qAs n _ _ _ _ _ _).trans hn,.inl rfl⟩
 ·cases h
noncomputable def E_z91:EnvP:=eQ [(82,s_z82),(137,s_z137)] 12 (some [2]) nC nC nP
noncomputable def C_z91:Code:=cO Tryz.f91
noncomputable def R_z91:Array ResultVar:=Tryz.f91.results
theorem qDt (n:Nat) (c0:UInt8) (o0:Lab):evFnP E_z91 n C_z91 R_z91 [.dat .byte c0 o0]=qyQ n c0:=by
 kernel_rfl
theorem qtt:qg G Tryz.prog 91 s_z91:=by
 refine sQ (E:=E_z91) (c:=C_z91) rfl (fun w S hg=>(qb (qts w S hg) (qb (qoV w S hg) qd))) Tryz.func91 (by kernel_rfl) (by kernel_rfl) (by kernel_rfl) ?_
 intro avs r h
 unfold s_z91 at h
 split at h
 ·simp only [Prod.mk.injEq,true_and] at h
  subst h
  obtain ⟨n,hn⟩:=qzv _
  exact ⟨n,_,(qDt n _ _).trans hn,.inl rfl⟩
 ·cases h
noncomputable def E_z50:EnvP:=eQ [(91,s_z91)] 19 (some [2]) (fun x=>if x=3 then some [0,3,4] else none) (fun x=>if x=0 then some [3] else if x=1 then some [0,3,4] else none) nP
noncomputable def C_z50:Code:=cO Tryz.f50
noncomputable def R_z50:Array ResultVar:=Tryz.f50.results
theorem qtu (K:Ex→Fr→Option AV):∀ (n:Nat) (s0:List UInt8) (out3:List UInt8) (i4:Int),evLP E_z50 n (sub C_z50 [1,1,0,1,0,0]) K (frOf [(0,(.dat (.sl .byte) s0 none)),(3,(.dat (.sl .byte) out3 (some (3,5)))),(4,(.dat (.int .i64) i4 none))])=qkE (fun out3=>K (.exit 0) (frOf [(3,(.dat (.sl .byte) out3 (some (3,5))))])) n s0 out3 i4:=by
 intro n
 induction n with
 | zero=>intros; rfl
 | succ n IH =>
 intro s0 out3 i4
 have ih:(fun s0 out3 i4=>evLP E_z50 n (sub C_z50 [1,1,0,1,0,0]) K (frOf [(0,(.dat (.sl .byte) s0 none)),(3,(.dat (.sl .byte) out3 (some (3,5)))),(4,(.dat (.int .i64) i4 none))]))=qkE (fun out3=>K (.exit 0) (frOf [(3,(.dat (.sl .byte) out3 (some (3,5))))])) n:=by
  funext s0 out3 i4
  exact IH s0 out3 i4
 show _=qes (fun out3=>K (.exit 0) (frOf [(3,(.dat (.sl .byte) out3 (some (3,5))))])) (qkE (fun out3=>K (.exit 0) (frOf [(3,(.dat (.sl .byte) out3 (some (3,5))))])) n) n s0 out3 i4
 rw [← ih]
 kernel_rfl
theorem qmT (n:Nat) (out3:List UInt8):(qc 0 (E_z50.cutb 0) (kSeq (evCP E_z50 (evLP E_z50 n) (sub C_z50 [1,1,1])) (kFnP E_z50 R_z50))) (.exit 0) (frOf [(3,(.dat (.sl .byte) out3 (some (3,5))))])=qet n out3:=by
 kernel_rfl
theorem qDu (n:Nat) (s0:List UInt8) (o0:Lab):evFnP E_z50 n C_z50 R_z50 [.dat (.sl .byte) s0 o0]=qvl n s0:=by
 unfold qvl
 rw [show qkE (qet n) n=(fun s0 out3 i4=>evLP E_z50 n (sub C_z50 [1,1,0,1,0,0]) (qc 0 (E_z50.cutb 0) (kSeq (evCP E_z50 (evLP E_z50 n) (sub C_z50 [1,1,1])) (kFnP E_z50 R_z50))) (frOf [(0,(.dat (.sl .byte) s0 none)),(3,(.dat (.sl .byte) out3 (some (3,5)))),(4,(.dat (.int .i64) i4 none))])) from by
  funext s0 out3 i4
  refine Eq.trans ?_ (qtu (qc 0 (E_z50.cutb 0) (kSeq (evCP E_z50 (evLP E_z50 n) (sub C_z50 [1,1,1])) (kFnP E_z50 R_z50))) n s0 out3 i4).symm
  rw [show (fun out3=>(qc 0 (E_z50.cutb 0) (kSeq (evCP E_z50 (evLP E_z50 n) (sub C_z50 [1,1,1])) (kFnP E_z50 R_z50))) (.exit 0) (frOf [(3,(.dat (.sl .byte) out3 (some (3,5))))]))=(qet n) from by
   funext out3
   exact qmT n out3]
  all_goals kernel_rfl]
 kernel_rfl
theorem qtv:qg G Tryz.prog 50 s_z50:=by
 refine sQ (E:=E_z50) (c:=C_z50) rfl (fun w S hg=>(qb (qtt w S hg) qd)) Tryz.func50 (by kernel_rfl) (by kernel_rfl) (by kernel_rfl) ?_
 intro avs r h
 unfold s_z50 at h
 split at h
 ·simp only [Prod.mk.injEq] at h
  obtain ⟨hp,rfl⟩:=h
  obtain ⟨n,hn⟩:=qzw _ hp
  exact ⟨n,_,(qDu n _ _).trans hn,.inl rfl⟩
 ·cases h
noncomputable def E_z92:EnvP:=eQ [] 19 (some [2]) nC (fun x=>if x=0 then some [] else none) nP
noncomputable def C_z92:Code:=cO Tryz.f92
noncomputable def R_z92:Array ResultVar:=Tryz.f92.results
theorem qDv (n:Nat) (n0:Int) (o0:Lab):evFnP E_z92 n C_z92 R_z92 [.dat (.int .i64) n0 o0]=qyR n n0:=by
 kernel_rfl
theorem qtw:qg G Tryz.prog 92 s_z92:=by
 refine sQ (E:=E_z92) (c:=C_z92) rfl (fun w S hg=>qd) Tryz.func92 (by kernel_rfl) (by kernel_rfl) (by kernel_rfl) ?_
 intro avs r h
 unfold s_z92 at h
 split at h
 ·simp only [Prod.mk.injEq,true_and] at h
  subst h
  obtain ⟨n,hn⟩:=qzl _
  exact ⟨n,_,(qDv n _ _).trans hn,.inl rfl⟩
 ·cases h
noncomputable def E_z51:EnvP:=eQ [(92,s_z92)] 12 (some [2]) nC nC nP
noncomputable def C_z51:Code:=cO Tryz.f51
noncomputable def R_z51:Array ResultVar:=Tryz.f51.results
theorem qDw (n:Nat) (n0:Int) (o0:Lab):evFnP E_z51 n C_z51 R_z51 [.dat (.int .i64) n0 o0]=qyS n n0:=by
 kernel_rfl
theorem qlv:qg G Tryz.prog 51 s_z51:=by
 refine sQ (E:=E_z51) (c:=C_z51) rfl (fun w S hg=>(qb (qtw w S hg) qd)) Tryz.func51 (by kernel_rfl) (by kernel_rfl) (by kernel_rfl) ?_
 intro avs r h
 unfold s_z51 at h
 split at h
 ·simp only [Prod.mk.injEq,true_and] at h
  subst h
  obtain ⟨n,hn⟩:=qzn _
  exact ⟨n,_,(qDw n _ _).trans hn,.inl rfl⟩
 ·cases h
noncomputable def E_z16:EnvP:=eQ [(49,s_z49),(50,s_z50),(51,s_z51)] 49 (some [1000006,7]) nC nC (fun x=>if x=39 then some (.osl 5 .byte) else if x=41 then some (.osl 5 .byte) else if x=44 then some (.osl 5 .byte) else none)
noncomputable def C_z16:Code:=cO Tryz.f16
noncomputable def R_z16:Array ResultVar:=Tryz.f16.results
theorem qDx (n:Nat) (charset0:Int) (o0:Lab) (code1:Int) (o1:Lab) (s2:List UInt8) (o2:Lab):evFnP E_z16 n C_z16 R_z16 [.dat (.int .i64) charset0 o0,.dat (.int .i64) code1 o1,.dat (.sl .byte) s2 o2]=qyT n charset0 code1 s2:=by
 kernel_rfl
theorem qtx:qg G Tryz.prog 16 s_z16:=by
 refine sQ (E:=E_z16) (c:=C_z16) rfl (fun w S hg=>(qb (qum w S hg) (qb (qtv w S hg) (qb (qlv w S hg) qd)))) Tryz.func16 (by kernel_rfl) (by kernel_rfl) (by kernel_rfl) ?_
 intro avs r h
 unfold s_z16 at h
 split at h
 ·simp only [Prod.mk.injEq] at h
  obtain ⟨hp,rfl⟩:=h
  obtain ⟨n,hn⟩:=qyd _ _ _ hp
  exact ⟨n,_,(qDx n _ _ _ _ _ _).trans hn,.inl rfl⟩
 ·cases h
noncomputable def E_z18:EnvP:=eQ [(51,s_z51)] 13 (some [2]) nC nC nP
noncomputable def C_z18:Code:=cO Tryz.f18
noncomputable def R_z18:Array ResultVar:=Tryz.f18.results
theorem qDy (n:Nat) (charset0:Int) (o0:Lab):evFnP E_z18 n C_z18 R_z18 [.dat (.int .i64) charset0 o0]=qyU n charset0:=by
 kernel_rfl
theorem qty:qg G Tryz.prog 18 s_z18:=by
 refine sQ (E:=E_z18) (c:=C_z18) rfl (fun w S hg=>(qb (qlv w S hg) qd)) Tryz.func18 (by kernel_rfl) (by kernel_rfl) (by kernel_rfl) ?_
 intro avs r h
 unfold s_z18 at h
 split at h
 ·simp only [Prod.mk.injEq,true_and] at h
  subst h
  obtain ⟨n,hn⟩:=qzs _
  exact ⟨n,_,(qDy n _ _).trans hn,.inl rfl⟩
 ·cases h
noncomputable def E_z4:EnvP:=eQ [(10,s_z10),(13,s_z13),(15,s_z15),(16,s_z16),(17,s_z17),(18,s_z18)] 47 (some [6]) nC nC nP
noncomputable def C_z4:Code:=cO Tryz.f4
noncomputable def R_z4:Array ResultVar:=Tryz.f4.results
theorem z4_ev (n:Nat) (charset0:Int) (o0:Lab) (code1:Int) (o1:Lab) (s2:List UInt8) (o2:Lab):evFnP E_z4 n C_z4 R_z4 [.dat (.int .i64) charset0 o0,.dat (.int .i64) code1 o1,.dat (.sl .byte) s2 o2]=z4_sh n charset0 code1 s2:=by
 kernel_rfl
theorem qxK:qg G Tryz.prog 4 s_z4:=by
 refine sQ (E:=E_z4) (c:=C_z4) rfl (fun w S hg=>(qb (quf w S hg) (qb (quh w S hg) (qb (qlC w S hg) (qb (qtx w S hg) (qb (qlD w S hg) (qb (qty w S hg) qd))))))) Tryz.func4 (by kernel_rfl) (by kernel_rfl) (by kernel_rfl) ?_
 intro avs r h
 unfold s_z4 at h
 split at h
 ·simp only [Prod.mk.injEq,true_and] at h
  subst h
  obtain ⟨n,hn⟩:=qCL _ _ _
  exact ⟨n,_,(z4_ev n _ _ _ _ _ _).trans hn,.inl rfl⟩
 ·cases h
end Go.Av
