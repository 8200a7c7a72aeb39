import Derived.Test.YtabdohophompiaaDoorPxEvG
import Derived.Test.YtabdohophompiaaDoorPxN
import Derived.Test.YtabdohophompiaaDoorProg
import Derived.KernelRfl
namespace Go.Av
set_option linter.unusedSimpArgs false
noncomputable section
open Go.Proofs
set_option maxRecDepth 100000
set_option linter.unusedVariables false
def E_z64:EnvP:=⟨⟨tiOf tis,fnsOf [],cnsOf [(72,s_z72)],[],21,(fun _=>none),(fun _=>none),some [6]⟩,fun _=>none,fun _=>none,fun _=>[],fun _=>none,fun _=>none,fun _=>none,fun _=>none⟩
def C_z64:Code:=cO Tryd.f64
def R_z64:Array ResultVar:=Tryd.f64.results
theorem qyt (n:Nat) (dst0:List UInt8) (i1:Int) (o1:Lab) (base2:Int) (o2:Lab):evFnC E_z64.toEnv n C_z64 R_z64 [db dst0 (some (0,5)),de i1 o1,de base2 o2]=quJ n dst0 i1 base2:=by
 kernel_rfl
theorem qqT:qgX Tryd.prog 64 s_z64:=by
 refine qbV (E:=E_z64.toEnv) (fn:=Tryd.f64) (c:=C_z64) (qq rfl qeb) (fun w S=>⟨qe,fun f sp h=>(qie qqS qbr) f sp h w S⟩) follows Tryd.func64 (by kernel_rfl) (by kernel_rfl) (by kernel_rfl) ?_;intro avs r h;unfold s_z64 at h;split at h
 ·obtain ⟨hp,rfl⟩:=yj h;obtain ⟨n,hn⟩:=qtJ _ _ _ hp;exact ⟨n,(qyt n _ _ _ _ _).trans hn⟩
 ·cases h
def E_z46:EnvP:=⟨⟨tiOf tis,fnsOf [],cnsOf [(64,s_z64)],[],11,(fun _=>none),(fun _=>none),some [6]⟩,fun _=>none,fun _=>none,fun _=>[],fun _=>none,fun _=>none,fun _=>none,fun _=>none⟩
def C_z46:Code:=cO Tryd.f46
def R_z46:Array ResultVar:=Tryd.f46.results
theorem qyu (n:Nat) (dst0:List UInt8) (i1:Int) (o1:Lab) (base2:Int) (o2:Lab):evFnC E_z46.toEnv n C_z46 R_z46 [db dst0 (some (0,5)),de i1 o1,de base2 o2]=quK n dst0 i1 base2:=by
 kernel_rfl
theorem qqU:qgX Tryd.prog 46 s_z46:=by
 refine qbV (E:=E_z46.toEnv) (fn:=Tryd.f46) (c:=C_z46) (qq rfl qeb) (fun w S=>⟨qe,fun f sp h=>(qie qqT qbr) f sp h w S⟩) follows Tryd.func46 (by kernel_rfl) (by kernel_rfl) (by kernel_rfl) ?_;intro avs r h;unfold s_z46 at h;split at h
 ·obtain ⟨hp,rfl⟩:=yj h;obtain ⟨n,hn⟩:=qtK _ _ _ hp;exact ⟨n,(qyu n _ _ _ _ _).trans hn⟩
 ·cases h
def E_z25:EnvP:=⟨⟨tiOf tis,fnsOf [(19,s_z19)],cnsOf [(46,s_z46)],[],22,(fun _=>none),(fun _=>none),some [2]⟩,fun _=>none,fun _=>none,fun _=>[],fun _=>none,fun _=>none,fun _=>none,fun _=>none⟩
def C_z25:Code:=cO Tryd.f25
def R_z25:Array ResultVar:=Tryd.f25.results
theorem qyv (n:Nat) (p0:(List UInt8)×(Int×(Bool×((List UInt8)×Unit)))) (o0:Lab):evFnP E_z25 n C_z25 R_z25 [.dat (.pair (.sl .byte) (.pair (.int .i64) (.pair .bool (.pair (.sl .byte) .unit)))) p0 o0]=quL n p0:=by
 kernel_rfl
theorem qqV:qk G Tryd.prog 25 s_z25:=by
 refine qN G_stays (E:=E_z25) (fn:=Tryd.f25) (c:=C_z25) (qq rfl qeb) (fun w S hg=>⟨⟨(qb (qcG w S hg) qe),fun f sp h=>(qie qqU qbr) f sp h w S⟩,qfc w S hg,(fun _ _ h=>by cases h),(fun f sp h=>qfE f sp h),(fun f it h=>qfF f it h),(fun t kt vt h=>qdK t kt vt h)⟩) follows Tryd.func25 (by kernel_rfl) (by kernel_rfl) (by kernel_rfl) ?_;intro avs r h;unfold s_z25 at h;split at h
 ·obtain ⟨hp,rfl⟩:=yj h;obtain ⟨n,hn⟩:=qtL _ hp;exact ⟨n,_,(qyv n _ _).trans hn,.inl rfl⟩
 ·cases h
def E_z47:EnvP:=eQ [] 19 (some [2]) nC (fun x=>if x=0 then some [] else none) nP
def C_z47:Code:=cO Tryd.f47
def R_z47:Array ResultVar:=Tryd.f47.results
theorem qyw (n:Nat) (charset0:Int) (o0:Lab):evFnP E_z47 n C_z47 R_z47 [de charset0 o0]=quM n charset0:=by
 kernel_rfl
theorem qqW:qk G Tryd.prog 47 s_z47:=by
 refine sQ (E:=E_z47) (c:=C_z47) rfl (fun w S hg=>qe) Tryd.func47 ?_;intro avs r h;unfold s_z47 at h;split at h <;> cases h
 obtain ⟨n,hn⟩:=qvd _;exact ⟨n,_,(qyw n _ _).trans hn,.inl rfl⟩
def E_z26:EnvP:=eQ [(47,s_z47)] 12 (some [2]) nC nC nP
def C_z26:Code:=cO Tryd.f26
def R_z26:Array ResultVar:=Tryd.f26.results
theorem qyx (n:Nat) (charset0:Int) (o0:Lab):evFnP E_z26 n C_z26 R_z26 [de charset0 o0]=quN n charset0:=by
 kernel_rfl
theorem qqX:qk G Tryd.prog 26 s_z26:=by
 refine sQ (E:=E_z26) (c:=C_z26) rfl (fun w S hg=>(qb (qqW w S hg) qe)) Tryd.func26 ?_;intro avs r h;unfold s_z26 at h;split at h <;> cases h
 obtain ⟨n,hn⟩:=qve _;exact ⟨n,_,(qyx n _ _).trans hn,.inl rfl⟩
def E_z11:EnvP:=eQ [(25,s_z25),(26,s_z26)] 22 (some [6]) nC nC nP
def C_z11:Code:=cO Tryd.f11
def R_z11:Array ResultVar:=Tryd.f11.results
theorem qyy (n:Nat) (name0:List UInt8) (o0:Lab) (n1:Int) (o1:Lab) (charset2:Int) (o2:Lab):evFnP E_z11 n C_z11 R_z11 [db name0 o0,de n1 o1,de charset2 o2]=quO n name0 n1 charset2:=by
 kernel_rfl
theorem qgH:qk G Tryd.prog 11 s_z11:=by
 refine sQ (E:=E_z11) (c:=C_z11) rfl (fun w S hg=>(qb (qqV w S hg) (qb (qqX w S hg) qe))) Tryd.func11 ?_;intro avs r h;unfold s_z11 at h;split at h
 ·obtain ⟨hp,rfl⟩:=yj h;obtain ⟨n,hn⟩:=qtM _ _ _ hp;exact ⟨n,_,(qyy n _ _ _ _ _ _).trans hn,.inl rfl⟩
 ·cases h
def E_z28:EnvP:=eQ [(11,s_z11)] 29 (some [30,31,32,33,34]) nC nC (fun x=>if x=19 then some (.psl 22 (.osl 5 .byte)) else if x=20 then some (.psl 22 (.osl 5 .byte)) else if x=28 then some (.osl 5 .byte) else none)
def C_z28:Code:=cO Tryd.f28
def R_z28:Array ResultVar:=Tryd.f28.results
theorem qyz (n:Nat) (u0:List UInt8) (o0:Lab) (x1:Bool) (x2:List UInt8) (x3:List (List UInt8)) (x4:List UInt8) (x5:Int):evFnM E_z28 n C_z28 R_z28 [db u0 o0,.pbox (.leaf .bool) x1 none,.pbox (.osl 5 .byte) x2 none,.pbox (.psl 22 (.osl 5 .byte)) x3 none,.pbox (.leaf (.sl .byte)) x4 none,.pbox (.leaf (.int .i64)) x5 none]=quP n u0 x1 x2 x3 x4 x5:=by
 kernel_rfl
theorem qqY:qwj G Tryd.prog 28 s_z28:=by
 refine qim G_stays (E:=E_z28) (fn:=Tryd.f28) (c:=C_z28) (qq rfl qeb) (fun w S hg=>⟨⟨(qb (qgH w S hg) qe),fun f sp h=>qbr f sp h w S⟩,qfc w S hg,(fun _ _ h=>by cases h),(fun f sp h=>qfE f sp h),(fun f it h=>qfF f it h),(fun t kt vt h=>qdK t kt vt h)⟩) follows Tryd.func28 (by kernel_rfl) (by kernel_rfl) (by kernel_rfl) ?_;intro avs r h;unfold s_z28 at h;split at h
 ·obtain ⟨hp,rfl⟩:=yj h;obtain ⟨n,hn⟩:=qtX _ _ _ _ _ _ hp;exact ⟨n,(qyz n _ _ _ _ _ _ _).trans hn⟩
 ·cases h
def E_z13:EnvP:=⟨⟨tiOf tis,fnsOf [(11,s_z11)],cnsOf [],[],31,(fun x=>if x=6 then some [3,4,7,8,9,10,17,18,19] else if x=3999998 then some [8] else none),(fun x=>if x=0 then some [7,8] else if x=1 then some [3,4,7,8,9,10,17,18,19] else none),some [6]⟩,(fun x=>if x=3 then some (.leaf (.sl .byte)) else if x=4 then some (.leaf (.int .i64)) else if x=7 then some (.psl 22 (.osl 5 .byte)) else if x=8 then some (.osl 5 .byte) else if x=9 then some (.leaf .bool) else if x=29 then some (.psl 22 (.osl 5 .byte)) else if x=30 then some (.psl 22 (.osl 5 .byte)) else none),fun _=>none,fun _=>[],(fun x=>if x=28 then some s_z28 else none),fun _=>none,fun _=>none,fun _=>none⟩
def C_z13:Code:=cO Tryd.f13
def R_z13:Array ResultVar:=Tryd.f13.results
noncomputable def X_z28 (K:Ex→Fr→Option AV):=fun out7 now8=>K (.exit 0) (frOf [(7,(.pbox (.psl 22 (.osl 5 .byte)) out7 none)),(8,(.pbox (.osl 5 .byte) now8 none))])
def qko (n:Nat):Ex→Fr→Option AV:=qL 0 (E_z13.cutb 0) (kSeq (evCP E_z13 (evLP E_z13 n) (sub C_z13 [1,1,1,1,1,1])) (kFnP E_z13 R_z13))
def qnA (name3:List UInt8) (charset4:Int) (out7:List (List UInt8)) (now8:List UInt8) (empty9:Bool) (s17:List (List UInt8)) (s18:Int) (s19:Int):Fr:=frOf [(3,(.pbox (.leaf (.sl .byte)) name3 none)),(4,(.pbox (.leaf (.int .i64)) charset4 none)),(7,(.pbox (.psl 22 (.osl 5 .byte)) out7 none)),(8,(.pbox (.osl 5 .byte) now8 none)),(9,(.pbox (.leaf .bool) empty9 none)),(10,(.clom 28 [9,8,7,3,4])),(17,(.dat (.sl (.sl .byte)) s17 none)),(18,dc s18),(19,dc s19)]
theorem qqZ (K:Ex→Fr→Option AV):∀ (n:Nat) (name3:List UInt8) (charset4:Int) (out7:List (List UInt8)) (now8:List UInt8) (empty9:Bool) (s17:List (List UInt8)) (s18:Int) (s19:Int),evLP E_z13 n (sub C_z13 [1,1,1,1,1,0,1,0,0]) K (qnA name3 charset4 out7 now8 empty9 s17 s18 s19)=qiV (X_z28 K) n name3 charset4 out7 now8 empty9 s17 s18 s19:=by
 intro n;induction n with
 | zero=>intros; rfl
 | succ n IH =>
 intro name3 charset4 out7 now8 empty9 s17 s18 s19;have ih:(fun name3 charset4 out7 now8 empty9 s17 s18 s19=>evLP E_z13 n (sub C_z13 [1,1,1,1,1,0,1,0,0]) K (qnA name3 charset4 out7 now8 empty9 s17 s18 s19))=qiV (X_z28 K) n:=by
  funext name3 charset4 out7 now8 empty9 s17 s18 s19;exact IH name3 charset4 out7 now8 empty9 s17 s18 s19
 show _=qdD (X_z28 K) (qiV (X_z28 K) n) n name3 charset4 out7 now8 empty9 s17 s18 s19;rw [← ih];kernel_rfl
theorem qlv (n:Nat) (out7:List (List UInt8)) (now8:List UInt8):(qko n) (.exit 0) (frOf [(7,(.pbox (.psl 22 (.osl 5 .byte)) out7 none)),(8,(.pbox (.osl 5 .byte) now8 none))])=qdE n out7 now8:=by
 kernel_rfl
theorem qyA (n:Nat) (name0:List UInt8) (o0:Lab) (charset1:Int) (o1:Lab) (l2:List (List UInt8)) (o2:Lab):evFnP E_z13 n C_z13 R_z13 [db name0 o0,de charset1 o1,.dat (.sl (.sl .byte)) l2 o2]=qrB n name0 charset1 l2:=by
 unfold qrB;rw [show qiV (qdE n) n=(fun name3 charset4 out7 now8 empty9 s17 s18 s19=>evLP E_z13 n (sub C_z13 [1,1,1,1,1,0,1,0,0]) (qko n) (qnA name3 charset4 out7 now8 empty9 s17 s18 s19)) from by
  funext name3 charset4 out7 now8 empty9 s17 s18 s19;refine Eq.trans ?_ (qqZ (qko n) n name3 charset4 out7 now8 empty9 s17 s18 s19).symm;rw [show (X_z28 (qko n))=(qdE n) from by
   funext out7 now8;exact qlv n out7 now8]
  all_goals kernel_rfl]
 kernel_rfl
theorem qra:qk G Tryd.prog 13 s_z13:=by
 refine qN G_stays (E:=E_z13) (fn:=Tryd.f13) (c:=C_z13) (qq rfl qeb) (fun w S hg=>⟨⟨(qb (qgH w S hg) qe),fun f sp h=>qbr f sp h w S⟩,qfc w S hg,(fun f sp h=>(qsw (qqY w S hg) qvL) f sp h),(fun f sp h=>qfE f sp h),(fun f it h=>qfF f it h),(fun t kt vt h=>qdK t kt vt h)⟩) follows Tryd.func13 (by kernel_rfl) (by kernel_rfl) (by kernel_rfl) ?_;intro avs r h;unfold s_z13 at h;split at h
 ·obtain ⟨hp,rfl⟩:=yj h;obtain ⟨n,hn⟩:=qtY _ _ _ hp;exact ⟨n,_,(qyA n _ _ _ _ _ _).trans hn,.inl rfl⟩
 ·cases h
def E_z5:EnvP:=eQ [(7,s_z7),(8,s_z8),(9,s_z9),(10,s_z10),(11,s_z11),(12,s_z12),(13,s_z13)] 54 (some [1000004,5]) nC nC nP
def C_z5:Code:=cO Tryd.f5
def R_z5:Array ResultVar:=Tryd.f5.results
theorem z5_ev (n:Nat) (name0:List UInt8) (o0:Lab) (t1:List Int) (o1:Lab):evFnP E_z5 n C_z5 R_z5 [db name0 o0,.dat (.sl (.int .i32)) t1 o1]=z5_sh n name0 t1:=by
 kernel_rfl
theorem qiH:qk G Tryd.prog 5 s_z5:=by
 refine sQ (E:=E_z5) (c:=C_z5) rfl (fun w S hg=>(qb (qtq w S hg) (qb (qtr w S hg) (qb (qtu w S hg) (qb (qqR w S hg) (qb (qgH w S hg) (qb (qpM w S hg) (qb (qra w S hg) qe)))))))) Tryd.func5 ?_;intro avs r h;unfold s_z5 at h;split at h
 ·obtain ⟨hp,rfl⟩:=yj h;obtain ⟨n,hn⟩:=qwC _ _ hp;exact ⟨n,_,(z5_ev n _ _ _ _).trans hn,.inl rfl⟩
 ·cases h
def E_z6:EnvP:=eQ [(5,s_z5)] 30 (some [4,5]) (fun x=>if x=4 then some [7,8,17,18,19] else none) (fun x=>if x=0 then some [7,8] else if x=1 then some [7,8,17,18,19] else none) nP
def C_z6:Code:=cO Tryd.f6
def R_z6:Array ResultVar:=Tryd.f6.results
noncomputable def qnB (K:Ex→Fr→Option AV):=fun e7 out8=>K (.exit 0) (frOf [(7,dc e7),(8,(db out8 (some (8,5))))])
def qrb (n:Nat):Ex→Fr→Option AV:=qL 0 (E_z6.cutb 0) (kSeq (evCP E_z6 (evLP E_z6 n) (sub C_z6 [1,1,1,1])) (kFnP E_z6 R_z6))
def qtv (e7:Int) (out8:List UInt8) (s17:List (List UInt8)) (s18:Int) (s19:Int):Fr:=frOf [(7,dc e7),(8,(db out8 (some (8,5)))),(17,(.dat (.sl (.sl .byte)) s17 none)),(18,dc s18),(19,dc s19)]
theorem qtw (K:Ex→Fr→Option AV):∀ (n:Nat) (e7:Int) (out8:List UInt8) (s17:List (List UInt8)) (s18:Int) (s19:Int),evLP E_z6 n (sub C_z6 [1,1,1,0,1,0,0]) K (qtv e7 out8 s17 s18 s19)=z6_l4 (qnB K) n e7 out8 s17 s18 s19:=by
 intro n;induction n with
 | zero=>intros; rfl
 | succ n IH =>
 intro e7 out8 s17 s18 s19;have ih:(fun e7 out8 s17 s18 s19=>evLP E_z6 n (sub C_z6 [1,1,1,0,1,0,0]) K (qtv e7 out8 s17 s18 s19))=z6_l4 (qnB K) n:=by
  funext e7 out8 s17 s18 s19;exact IH e7 out8 s17 s18 s19
 show _=qfV (qnB K) (z6_l4 (qnB K) n) n e7 out8 s17 s18 s19;rw [← ih];kernel_rfl
theorem qnC (n:Nat) (e7:Int) (out8:List UInt8):(qrb n) (.exit 0) (frOf [(7,dc e7),(8,(db out8 (some (8,5))))])=qfW n e7 out8:=by
 kernel_rfl
theorem z6_ev (n:Nat) (name0:List UInt8) (o0:Lab) (t1:List Int) (o1:Lab):evFnP E_z6 n C_z6 R_z6 [db name0 o0,.dat (.sl (.int .i32)) t1 o1]=z6_sh n name0 t1:=by
 unfold z6_sh;rw [show z6_l4 (qfW n) n=(fun e7 out8 s17 s18 s19=>evLP E_z6 n (sub C_z6 [1,1,1,0,1,0,0]) (qrb n) (qtv e7 out8 s17 s18 s19)) from by
  funext e7 out8 s17 s18 s19;refine Eq.trans ?_ (qtw (qrb n) n e7 out8 s17 s18 s19).symm;rw [show (qnB (qrb n))=(qfW n) from by
   funext e7 out8;exact qnC n e7 out8]
  all_goals kernel_rfl]
 kernel_rfl
theorem qtx:qk G Tryd.prog 6 s_z6:=by
 refine sQ (E:=E_z6) (c:=C_z6) rfl (fun w S hg=>(qb (qiH w S hg) qe)) Tryd.func6 ?_;intro avs r h;unfold s_z6 at h;split at h
 ·obtain ⟨hp,rfl⟩:=yj h;obtain ⟨n,hn⟩:=qwD _ _ hp;exact ⟨n,_,(z6_ev n _ _ _ _).trans hn,.inl rfl⟩
 ·cases h
end
end Go.Av
