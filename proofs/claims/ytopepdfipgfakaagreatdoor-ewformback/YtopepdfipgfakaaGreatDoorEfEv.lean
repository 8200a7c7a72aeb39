import Derived.Test.YtopepdfipgfakaaGreatDoorEfEvH
import Derived.Test.YtopepdfipgfakaaGreatDoorEfLayX
import Derived.Test.YtopepdfipgfakaaGreatDoorProg
import Derived.KernelRfl
namespace Go.Av
set_option linter.unusedSimpArgs false
open Go.Proofs
set_option maxRecDepth 100000
set_option linter.unusedVariables false
noncomputable def qab:EnvP:=eQ [(152,s_z152),(153,s_z153)] 58 (some [2,3,4]) (fun x=>if x=8 then some [0,5,7,8] else none) (fun x=>if x=0 then some [5,7] else if x=1 then some [0,5,7,8] else none) nP
noncomputable def qdZ:Code:=cO Tryz.f111
noncomputable def qpB:Array ResultVar:=Tryz.f111.results
theorem qpC (K:Ex→Fr→Option AV):∀ (n:Nat) (s0:List UInt8) (n5:Int) (c7:Int) (i8:Int),evLP qab n (sub qdZ [1,1,1,0,1,0,1,1,0,1,0,0]) K (frOf [(0,(.dat (.sl .byte) s0 none)),(5,(.dat (.int .i64) n5 none)),(7,(.dat (.int .i64) c7 none)),(8,(.dat (.int .i64) i8 none))])=qgo (fun n5 c7=>K (.exit 0) (frOf [(5,(.dat (.int .i64) n5 none)),(7,(.dat (.int .i64) c7 none))])) n s0 n5 c7 i8:=by
 intro n
 induction n with
 | zero=>intros; rfl
 | succ n IH =>
 intro s0 n5 c7 i8
 have ih:(fun s0 n5 c7 i8=>evLP qab n (sub qdZ [1,1,1,0,1,0,1,1,0,1,0,0]) K (frOf [(0,(.dat (.sl .byte) s0 none)),(5,(.dat (.int .i64) n5 none)),(7,(.dat (.int .i64) c7 none)),(8,(.dat (.int .i64) i8 none))]))=qgo (fun n5 c7=>K (.exit 0) (frOf [(5,(.dat (.int .i64) n5 none)),(7,(.dat (.int .i64) c7 none))])) n:=by
  funext s0 n5 c7 i8
  exact IH s0 n5 c7 i8
 show _=qct (fun n5 c7=>K (.exit 0) (frOf [(5,(.dat (.int .i64) n5 none)),(7,(.dat (.int .i64) c7 none))])) (qgo (fun n5 c7=>K (.exit 0) (frOf [(5,(.dat (.int .i64) n5 none)),(7,(.dat (.int .i64) c7 none))])) n) n s0 n5 c7 i8
 rw [← ih]
 kernel_rfl
theorem qkp (n:Nat) (n5:Int) (c7:Int):(qc 0 (qab.cutb 0) (kSeq (evCP qab (evLP qab n) (sub qdZ [1,1,1,0,1,0,1,1,1])) (kSeq (evCP qab (evLP qab n) (sub qdZ [1,1,1,1])) (kFnP qab qpB)))) (.exit 0) (frOf [(5,(.dat (.int .i64) n5 none)),(7,(.dat (.int .i64) c7 none))])=qdH n n5 c7:=by
 kernel_rfl
theorem qBd (n:Nat) (s0:List UInt8) (o0:Lab):evFnP qab n qdZ qpB [.dat (.sl .byte) s0 o0]=qmP n s0:=by
 unfold qmP
 rw [show qgo (qdH n) n=(fun s0 n5 c7 i8=>evLP qab n (sub qdZ [1,1,1,0,1,0,1,1,0,1,0,0]) (qc 0 (qab.cutb 0) (kSeq (evCP qab (evLP qab n) (sub qdZ [1,1,1,0,1,0,1,1,1])) (kSeq (evCP qab (evLP qab n) (sub qdZ [1,1,1,1])) (kFnP qab qpB)))) (frOf [(0,(.dat (.sl .byte) s0 none)),(5,(.dat (.int .i64) n5 none)),(7,(.dat (.int .i64) c7 none)),(8,(.dat (.int .i64) i8 none))])) from by
  funext s0 n5 c7 i8
  refine Eq.trans ?_ (qpC (qc 0 (qab.cutb 0) (kSeq (evCP qab (evLP qab n) (sub qdZ [1,1,1,0,1,0,1,1,1])) (kSeq (evCP qab (evLP qab n) (sub qdZ [1,1,1,1])) (kFnP qab qpB)))) n s0 n5 c7 i8).symm
  rw [show (fun n5 c7=>(qc 0 (qab.cutb 0) (kSeq (evCP qab (evLP qab n) (sub qdZ [1,1,1,0,1,0,1,1,1])) (kSeq (evCP qab (evLP qab n) (sub qdZ [1,1,1,1])) (kFnP qab qpB)))) (.exit 0) (frOf [(5,(.dat (.int .i64) n5 none)),(7,(.dat (.int .i64) c7 none))]))=(qdH n) from by
   funext n5 c7
   exact qkp n n5 c7]
  all_goals kernel_rfl]
 kernel_rfl
theorem qpD:qh G Tryz.prog 111 s_z111:=by
 refine sQ (E:=qab) (c:=qdZ) rfl (fun w S hg=>(qb (qrm w S hg) (qb (qjg w S hg) qd))) Tryz.func111 (by kernel_rfl) (by kernel_rfl) (by kernel_rfl) ?_
 intro avs r h
 unfold s_z111 at h
 split at h
 ·simp only [Prod.mk.injEq] at h
  obtain ⟨hp,rfl⟩:=h
  obtain ⟨n,hn⟩:=qvZ _ hp
  exact ⟨n,_,(qBd n _ _).trans hn,.inl rfl⟩
 ·cases h
noncomputable def E_z63:EnvP:=eQ [(111,s_z111)] 42 (some [2,3,4]) (fun x=>if x=4 then some [0,5,6,7,8] else none) (fun x=>if x=0 then some [5,6,7] else if x=1 then some [0,5,6,7,8] else none) nP
noncomputable def C_z63:Code:=cO Tryz.f63
noncomputable def R_z63:Array ResultVar:=Tryz.f63.results
theorem qun (K:Ex→Fr→Option AV):∀ (n:Nat) (s0:List UInt8) (out5:List Int) (broken6:Int) (first7:Int) (at8:Int),evLP E_z63 n (sub C_z63 [1,1,1,0,1,0,0]) K (frOf [(0,(.dat (.sl .byte) s0 none)),(5,(.dat (.sl (.int .i32)) out5 (some (5,21)))),(6,(.dat (.int .i64) broken6 none)),(7,(.dat (.int .i64) first7 none)),(8,(.dat (.int .i64) at8 none))])=qjB (fun out5 broken6 first7=>K (.exit 0) (frOf [(5,(.dat (.sl (.int .i32)) out5 (some (5,21)))),(6,(.dat (.int .i64) broken6 none)),(7,(.dat (.int .i64) first7 none))])) n s0 out5 broken6 first7 at8:=by
 intro n
 induction n with
 | zero=>intros; rfl
 | succ n IH =>
 intro s0 out5 broken6 first7 at8
 have ih:(fun s0 out5 broken6 first7 at8=>evLP E_z63 n (sub C_z63 [1,1,1,0,1,0,0]) K (frOf [(0,(.dat (.sl .byte) s0 none)),(5,(.dat (.sl (.int .i32)) out5 (some (5,21)))),(6,(.dat (.int .i64) broken6 none)),(7,(.dat (.int .i64) first7 none)),(8,(.dat (.int .i64) at8 none))]))=qjB (fun out5 broken6 first7=>K (.exit 0) (frOf [(5,(.dat (.sl (.int .i32)) out5 (some (5,21)))),(6,(.dat (.int .i64) broken6 none)),(7,(.dat (.int .i64) first7 none))])) n:=by
  funext s0 out5 broken6 first7 at8
  exact IH s0 out5 broken6 first7 at8
 show _=qil (fun out5 broken6 first7=>K (.exit 0) (frOf [(5,(.dat (.sl (.int .i32)) out5 (some (5,21)))),(6,(.dat (.int .i64) broken6 none)),(7,(.dat (.int .i64) first7 none))])) (qjB (fun out5 broken6 first7=>K (.exit 0) (frOf [(5,(.dat (.sl (.int .i32)) out5 (some (5,21)))),(6,(.dat (.int .i64) broken6 none)),(7,(.dat (.int .i64) first7 none))])) n) n s0 out5 broken6 first7 at8
 rw [← ih]
 kernel_rfl
theorem qnA (n:Nat) (out5:List Int) (broken6:Int) (first7:Int):(qc 0 (E_z63.cutb 0) (kSeq (evCP E_z63 (evLP E_z63 n) (sub C_z63 [1,1,1,1])) (kFnP E_z63 R_z63))) (.exit 0) (frOf [(5,(.dat (.sl (.int .i32)) out5 (some (5,21)))),(6,(.dat (.int .i64) broken6 none)),(7,(.dat (.int .i64) first7 none))])=qep n out5 broken6 first7:=by
 kernel_rfl
theorem qEh (n:Nat) (s0:List UInt8) (o0:Lab):evFnP E_z63 n C_z63 R_z63 [.dat (.sl .byte) s0 o0]=qzS n s0:=by
 unfold qzS
 rw [show qjB (qep n) n=(fun s0 out5 broken6 first7 at8=>evLP E_z63 n (sub C_z63 [1,1,1,0,1,0,0]) (qc 0 (E_z63.cutb 0) (kSeq (evCP E_z63 (evLP E_z63 n) (sub C_z63 [1,1,1,1])) (kFnP E_z63 R_z63))) (frOf [(0,(.dat (.sl .byte) s0 none)),(5,(.dat (.sl (.int .i32)) out5 (some (5,21)))),(6,(.dat (.int .i64) broken6 none)),(7,(.dat (.int .i64) first7 none)),(8,(.dat (.int .i64) at8 none))])) from by
  funext s0 out5 broken6 first7 at8
  refine Eq.trans ?_ (qun (qc 0 (E_z63.cutb 0) (kSeq (evCP E_z63 (evLP E_z63 n) (sub C_z63 [1,1,1,1])) (kFnP E_z63 R_z63))) n s0 out5 broken6 first7 at8).symm
  rw [show (fun out5 broken6 first7=>(qc 0 (E_z63.cutb 0) (kSeq (evCP E_z63 (evLP E_z63 n) (sub C_z63 [1,1,1,1])) (kFnP E_z63 R_z63))) (.exit 0) (frOf [(5,(.dat (.sl (.int .i32)) out5 (some (5,21)))),(6,(.dat (.int .i64) broken6 none)),(7,(.dat (.int .i64) first7 none))]))=(qep n) from by
   funext out5 broken6 first7
   exact qnA n out5 broken6 first7]
  all_goals kernel_rfl]
 kernel_rfl
theorem qup:qh G Tryz.prog 63 s_z63:=by
 refine sQ (E:=E_z63) (c:=C_z63) rfl (fun w S hg=>(qb (qpD w S hg) qd)) Tryz.func63 (by kernel_rfl) (by kernel_rfl) (by kernel_rfl) ?_
 intro avs r h
 unfold s_z63 at h
 split at h
 ·simp only [Prod.mk.injEq] at h
  obtain ⟨hp,rfl⟩:=h
  obtain ⟨n,hn⟩:=qzn _ hp
  exact ⟨n,_,(qEh n _ _).trans hn,.inl rfl⟩
 ·cases h
noncomputable def E_z64:EnvP:=eQ [] 22 (some [2]) nC (fun x=>if x=0 then some [0] else none) nP
noncomputable def C_z64:Code:=cO Tryz.f64
noncomputable def R_z64:Array ResultVar:=Tryz.f64.results
theorem qEi (n:Nat) (x0:UInt8) (o0:Lab):evFnP E_z64 n C_z64 R_z64 [.dat .byte x0 o0]=qzT n x0:=by
 kernel_rfl
theorem quq:qh G Tryz.prog 64 s_z64:=by
 refine sQ (E:=E_z64) (c:=C_z64) rfl (fun w S hg=>qd) Tryz.func64 (by kernel_rfl) (by kernel_rfl) (by kernel_rfl) ?_
 intro avs r h
 unfold s_z64 at h
 split at h
 ·simp only [Prod.mk.injEq,true_and] at h
  subst h
  obtain ⟨n,hn⟩:=qAj _
  exact ⟨n,_,(qEi n _ _).trans hn,.inl rfl⟩
 ·cases h
noncomputable def E_z65:EnvP:=eQ [] 18 (some [2]) nC nC nP
noncomputable def C_z65:Code:=cO Tryz.f65
noncomputable def R_z65:Array ResultVar:=Tryz.f65.results
theorem qEj (n:Nat) (x0:UInt8) (o0:Lab):evFnP E_z65 n C_z65 R_z65 [.dat .byte x0 o0]=qzU n x0:=by
 kernel_rfl
theorem qur:qh G Tryz.prog 65 s_z65:=by
 refine sQ (E:=E_z65) (c:=C_z65) rfl (fun w S hg=>qd) Tryz.func65 (by kernel_rfl) (by kernel_rfl) (by kernel_rfl) ?_
 intro avs r h
 unfold s_z65 at h
 split at h
 ·simp only [Prod.mk.injEq,true_and] at h
  subst h
  obtain ⟨n,hn⟩:=qAk _
  exact ⟨n,_,(qEj n _ _).trans hn,.inl rfl⟩
 ·cases h
noncomputable def E_z26:EnvP:=eQ [(63,s_z63),(64,s_z64),(65,s_z65)] 69 (some [1000004]) (fun x=>if x=6 then some [0,1,8,9] else none) (fun x=>if x=0 then some [8] else if x=1 then some [0,1,8,9] else if x=2 then some [0,1,8,9] else none) nP
noncomputable def C_z26:Code:=cO Tryz.f26
noncomputable def R_z26:Array ResultVar:=Tryz.f26.results
theorem qus (K:Ex→Fr→Option AV):∀ (n:Nat) (charset0:Int) (s1:List UInt8) (out8:List Int) (i9:Int),evLP E_z26 n (sub C_z26 [1,1,1,0,1,0,0]) K (frOf [(0,(.dat (.int .i64) charset0 none)),(1,(.dat (.sl .byte) s1 none)),(8,(.dat (.sl (.int .i32)) out8 (some (8,21)))),(9,(.dat (.int .i64) i9 none))])=qlf (fun out8=>K (.exit 0) (frOf [(8,(.dat (.sl (.int .i32)) out8 (some (8,21))))])) n charset0 s1 out8 i9:=by
 intro n
 induction n with
 | zero=>intros; rfl
 | succ n IH =>
 intro charset0 s1 out8 i9
 have ih:(fun charset0 s1 out8 i9=>evLP E_z26 n (sub C_z26 [1,1,1,0,1,0,0]) K (frOf [(0,(.dat (.int .i64) charset0 none)),(1,(.dat (.sl .byte) s1 none)),(8,(.dat (.sl (.int .i32)) out8 (some (8,21)))),(9,(.dat (.int .i64) i9 none))]))=qlf (fun out8=>K (.exit 0) (frOf [(8,(.dat (.sl (.int .i32)) out8 (some (8,21))))])) n:=by
  funext charset0 s1 out8 i9
  exact IH charset0 s1 out8 i9
 show _=qeq (fun out8=>K (.exit 0) (frOf [(8,(.dat (.sl (.int .i32)) out8 (some (8,21))))])) (qlf (fun out8=>K (.exit 0) (frOf [(8,(.dat (.sl (.int .i32)) out8 (some (8,21))))])) n) n charset0 s1 out8 i9
 rw [← ih]
 kernel_rfl
theorem qnB (n:Nat) (out8:List Int):(qc 0 (E_z26.cutb 0) (kSeq (evCP E_z26 (evLP E_z26 n) (sub C_z26 [1,1,1,1])) (kFnP E_z26 R_z26))) (.exit 0) (frOf [(8,(.dat (.sl (.int .i32)) out8 (some (8,21))))])=qer n out8:=by
 kernel_rfl
theorem qEk (n:Nat) (charset0:Int) (o0:Lab) (s1:List UInt8) (o1:Lab):evFnP E_z26 n C_z26 R_z26 [.dat (.int .i64) charset0 o0,.dat (.sl .byte) s1 o1]=qwn n charset0 s1:=by
 unfold qwn
 rw [show qlf (qer n) n=(fun charset0 s1 out8 i9=>evLP E_z26 n (sub C_z26 [1,1,1,0,1,0,0]) (qc 0 (E_z26.cutb 0) (kSeq (evCP E_z26 (evLP E_z26 n) (sub C_z26 [1,1,1,1])) (kFnP E_z26 R_z26))) (frOf [(0,(.dat (.int .i64) charset0 none)),(1,(.dat (.sl .byte) s1 none)),(8,(.dat (.sl (.int .i32)) out8 (some (8,21)))),(9,(.dat (.int .i64) i9 none))])) from by
  funext charset0 s1 out8 i9
  refine Eq.trans ?_ (qus (qc 0 (E_z26.cutb 0) (kSeq (evCP E_z26 (evLP E_z26 n) (sub C_z26 [1,1,1,1])) (kFnP E_z26 R_z26))) n charset0 s1 out8 i9).symm
  rw [show (fun out8=>(qc 0 (E_z26.cutb 0) (kSeq (evCP E_z26 (evLP E_z26 n) (sub C_z26 [1,1,1,1])) (kFnP E_z26 R_z26))) (.exit 0) (frOf [(8,(.dat (.sl (.int .i32)) out8 (some (8,21))))]))=(qer n) from by
   funext out8
   exact qnB n out8]
  all_goals kernel_rfl]
 kernel_rfl
theorem qut:qh G Tryz.prog 26 s_z26:=by
 refine sQ (E:=E_z26) (c:=C_z26) rfl (fun w S hg=>(qb (qup w S hg) (qb (quq w S hg) (qb (qur w S hg) qd)))) Tryz.func26 (by kernel_rfl) (by kernel_rfl) (by kernel_rfl) ?_
 intro avs r h
 unfold s_z26 at h
 split at h
 ·simp only [Prod.mk.injEq] at h
  obtain ⟨hp,rfl⟩:=h
  obtain ⟨n,hn⟩:=qzo _ _ hp
  exact ⟨n,_,(qEk n _ _ _ _).trans hn,.inl rfl⟩
 ·cases h
noncomputable def E_z6:EnvP:=eQ [(10,s_z10),(14,s_z14),(15,s_z15),(19,s_z19),(21,s_z21),(22,s_z22),(24,s_z24),(26,s_z26)] 65 (some [6]) nC nC nP
noncomputable def C_z6:Code:=cO Tryz.f6
noncomputable def R_z6:Array ResultVar:=Tryz.f6.results
theorem z6_ev (n:Nat) (charset0:Int) (o0:Lab) (code1:Int) (o1:Lab) (s2:List UInt8) (o2:Lab):evFnP E_z6 n C_z6 R_z6 [.dat (.int .i64) charset0 o0,.dat (.int .i64) code1 o1,.dat (.sl .byte) s2 o2]=z6_sh n charset0 code1 s2:=by
 kernel_rfl
theorem qyD:qh G Tryz.prog 6 s_z6:=by
 refine sQ (E:=E_z6) (c:=C_z6) rfl (fun w S hg=>(qb (quW w S hg) (qb (qlS w S hg) (qb (qlX w S hg) (qb (qmb w S hg) (qb (quY w S hg) (qb (quZ w S hg) (qb (qvc w S hg) (qb (qut w S hg) qd))))))))) Tryz.func6 (by kernel_rfl) (by kernel_rfl) (by kernel_rfl) ?_
 intro avs r h
 unfold s_z6 at h
 split at h
 ·simp only [Prod.mk.injEq,true_and] at h
  subst h
  obtain ⟨n,hn⟩:=qDE _ _ _
  exact ⟨n,_,(z6_ev n _ _ _ _ _ _).trans hn,.inl rfl⟩
 ·cases h
end Go.Av
