import Derived.Test.YtabdohophompiaaGreatDoorPxEvD
import Derived.Test.YtabdohophompiaaGreatDoorPxN
import Derived.Test.YtabdohophompiaaGreatDoorProg
import Derived.KernelRfl
namespace Go.Av
set_option linter.unusedSimpArgs false
noncomputable section
open Go.Proofs
set_option maxRecDepth 100000
set_option linter.unusedVariables false
def E_z54:EnvP:=eQ [(53,s_z53),(93,s_z93),(94,s_z94)] 9 (some [2]) nC nC nP
def C_z54:Code:=cO Tryz.f54
def R_z54:Array ResultVar:=Tryz.f54.results
theorem qIH (n:Nat) (s0:List UInt8) (o0:Lab):evFnP E_z54 n C_z54 R_z54 [db s0 o0]=qCR n s0:=by
 kernel_rfl
theorem qxp:qe G Tryz.prog 54 s_z54:=by
 refine sQ (E:=E_z54) (c:=C_z54) rfl (fun w S hg=>(qa (qdF w S hg) (qa (qxm w S hg) (qa (qxo w S hg) qc)))) Tryz.func54 ?_;intro avs r h;unfold s_z54 at h;split at h
 ·obtain ⟨hp,rfl⟩:=yj h;obtain ⟨n,hn⟩:=qBS _ hp;exact ⟨n,_,(qIH n _ _).trans hn,.inl rfl⟩
 ·cases h
def E_z28:EnvP:=eQ [(51,s_z51),(52,s_z52),(53,s_z53),(54,s_z54)] 28 (some [4,5]) nC nC nP
def C_z28:Code:=cO Tryz.f28
def R_z28:Array ResultVar:=Tryz.f28.results
theorem qII (n:Nat) (name0:List UInt8) (o0:Lab) (t1:List Int) (o1:Lab):evFnP E_z28 n C_z28 R_z28 [db name0 o0,.dat (.sl (.int .i32)) t1 o1]=qCS n name0 t1:=by
 kernel_rfl
theorem qob:qe G Tryz.prog 28 s_z28:=by
 refine sQ (E:=E_z28) (c:=C_z28) rfl (fun w S hg=>(qa (qxl w S hg) (qa (qnK w S hg) (qa (qdF w S hg) (qa (qxp w S hg) qc))))) Tryz.func28 ?_;intro avs r h;unfold s_z28 at h;split at h
 ·obtain ⟨hp,rfl⟩:=yj h;obtain ⟨n,hn⟩:=qCk _ _ hp;exact ⟨n,_,(qII n _ _ _ _).trans hn,.inl rfl⟩
 ·cases h
def qGl:EnvP:=eQ [] 15 (some [2]) nC nC nP
def qGm:Code:=cO Tryz.f136
def qIJ:Array ResultVar:=Tryz.f136.results
theorem qGn (n:Nat) (i0:Int) (o0:Lab):evFnP qGl n qGm qIJ [de i0 o0]=qhL n i0:=by
 kernel_rfl
theorem qqr:qe Any Tryz.prog 136 s_z136:=by
 refine qJ qvA (E:=qGl) (fn:=Tryz.f136) (c:=qGm) (qo rfl qdE) (fun w S hg=>⟨⟨qc,fun f sp h=>qbr f sp h w S⟩,glAny w S hg,(fun _ _ h=>by cases h),(fun f sp h=>qfT f sp h),(fun f it h=>qfU f it h),(fun t kt vt h=>qcE t kt vt h)⟩) follows Tryz.func136 (by kernel_rfl) (by kernel_rfl) (by kernel_rfl) ?_;intro avs r h;unfold s_z136 at h;split at h
 ·obtain ⟨hp,rfl⟩:=yj h;obtain ⟨n,hn⟩:=qyr _ hp;exact ⟨n,_,(qGn n _ _).trans hn,.inl rfl⟩
 ·cases h
def qGo:EnvP:=eQ [(136,s_z136),(137,s_z137),(139,s_z139)] 36 (some [6]) nC nC nP
def qGp:Code:=cO Tryz.f133
def qIK:Array ResultVar:=Tryz.f133.results
theorem qGq (n:Nat) (dst0:List UInt8) (i1:Int) (o1:Lab) (base2:Int) (o2:Lab):evFnC qGo.toEnv n qGp qIK [db dst0 (some (0,5)),.dat (.int .u64) i1 o1,de base2 o2]=quV n dst0 i1 base2:=by
 kernel_rfl
theorem qtd:qjr Tryz.prog 133 s_z133:=by
 refine qcN (E:=qGo.toEnv) (fn:=Tryz.f133) (c:=qGp) (qo rfl qdE) (fun w S=>⟨(qa (qqr w S trivial) (qa (qqa w S trivial) (qa (qqb w S trivial) qc))),fun f sp h=>qbr f sp h w S⟩) follows Tryz.func133 (by kernel_rfl) (by kernel_rfl) (by kernel_rfl) ?_;intro avs r h;unfold s_z133 at h;split at h
 ·obtain ⟨hp,rfl⟩:=yj h;obtain ⟨n,hn⟩:=qys _ _ _ hp;exact ⟨n,(qGq n _ _ _ _ _).trans hn⟩
 ·cases h
def qGr:EnvP:=⟨⟨tiOf tis,fnsOf [],cnsOf [(133,s_z133)],[],21,(fun _=>none),(fun _=>none),some [6]⟩,fun _=>none,fun _=>none,fun _=>[],fun _=>none,fun _=>none,fun _=>none,fun _=>none⟩
def qGs:Code:=cO Tryz.f123
def qIL:Array ResultVar:=Tryz.f123.results
theorem qGt (n:Nat) (dst0:List UInt8) (i1:Int) (o1:Lab) (base2:Int) (o2:Lab):evFnC qGr.toEnv n qGs qIL [db dst0 (some (0,5)),de i1 o1,de base2 o2]=quW n dst0 i1 base2:=by
 kernel_rfl
theorem qte:qjr Tryz.prog 123 s_z123:=by
 refine qcN (E:=qGr.toEnv) (fn:=Tryz.f123) (c:=qGs) (qo rfl qdE) (fun w S=>⟨qc,fun f sp h=>(qlh qtd qbr) f sp h w S⟩) follows Tryz.func123 (by kernel_rfl) (by kernel_rfl) (by kernel_rfl) ?_;intro avs r h;unfold s_z123 at h;split at h
 ·obtain ⟨hp,rfl⟩:=yj h;obtain ⟨n,hn⟩:=qyt _ _ _ hp;exact ⟨n,(qGt n _ _ _ _ _).trans hn⟩
 ·cases h
def E_z95:EnvP:=⟨⟨tiOf tis,fnsOf [],cnsOf [(123,s_z123)],[],11,(fun _=>none),(fun _=>none),some [6]⟩,fun _=>none,fun _=>none,fun _=>[],fun _=>none,fun _=>none,fun _=>none,fun _=>none⟩
def C_z95:Code:=cO Tryz.f95
def R_z95:Array ResultVar:=Tryz.f95.results
theorem qIM (n:Nat) (dst0:List UInt8) (i1:Int) (o1:Lab) (base2:Int) (o2:Lab):evFnC E_z95.toEnv n C_z95 R_z95 [db dst0 (some (0,5)),de i1 o1,de base2 o2]=qCT n dst0 i1 base2:=by
 kernel_rfl
theorem qxq:qjr Tryz.prog 95 s_z95:=by
 refine qcN (E:=E_z95.toEnv) (fn:=Tryz.f95) (c:=C_z95) (qo rfl qdE) (fun w S=>⟨qc,fun f sp h=>(qlh qte qbr) f sp h w S⟩) follows Tryz.func95 (by kernel_rfl) (by kernel_rfl) (by kernel_rfl) ?_;intro avs r h;unfold s_z95 at h;split at h
 ·obtain ⟨hp,rfl⟩:=yj h;obtain ⟨n,hn⟩:=qBU _ _ _ hp;exact ⟨n,(qIM n _ _ _ _ _).trans hn⟩
 ·cases h
def E_z55:EnvP:=⟨⟨tiOf tis,fnsOf [(53,s_z53)],cnsOf [(95,s_z95)],[],22,(fun _=>none),(fun _=>none),some [2]⟩,fun _=>none,fun _=>none,fun _=>[],fun _=>none,fun _=>none,fun _=>none,fun _=>none⟩
def C_z55:Code:=cO Tryz.f55
def R_z55:Array ResultVar:=Tryz.f55.results
theorem qIN (n:Nat) (p0:(List UInt8)×(Int×(Bool×((List UInt8)×Unit)))) (o0:Lab):evFnP E_z55 n C_z55 R_z55 [.dat (.pair (.sl .byte) (.pair (.int .i64) (.pair .bool (.pair (.sl .byte) .unit)))) p0 o0]=qCU n p0:=by
 kernel_rfl
theorem qxr:qe G Tryz.prog 55 s_z55:=by
 refine qJ G_stays (E:=E_z55) (fn:=Tryz.f55) (c:=C_z55) (qo rfl qdE) (fun w S hg=>⟨⟨(qa (qdF w S hg) qc),fun f sp h=>(qlh qxq qbr) f sp h w S⟩,qdG w S hg,(fun _ _ h=>by cases h),(fun f sp h=>qfT f sp h),(fun f it h=>qfU f it h),(fun t kt vt h=>qcE t kt vt h)⟩) follows Tryz.func55 (by kernel_rfl) (by kernel_rfl) (by kernel_rfl) ?_;intro avs r h;unfold s_z55 at h;split at h
 ·obtain ⟨hp,rfl⟩:=yj h;obtain ⟨n,hn⟩:=qBV _ hp;exact ⟨n,_,(qIN n _ _).trans hn,.inl rfl⟩
 ·cases h
def E_z96:EnvP:=eQ [] 19 (some [2]) nC (fun x=>if x=0 then some [] else none) nP
def C_z96:Code:=cO Tryz.f96
def R_z96:Array ResultVar:=Tryz.f96.results
theorem qIO (n:Nat) (charset0:Int) (o0:Lab):evFnP E_z96 n C_z96 R_z96 [de charset0 o0]=qCV n charset0:=by
 kernel_rfl
theorem qxs:qe G Tryz.prog 96 s_z96:=by
 refine sQ (E:=E_z96) (c:=C_z96) rfl (fun w S hg=>qc) Tryz.func96 ?_;intro avs r h;unfold s_z96 at h;split at h <;> cases h
 obtain ⟨n,hn⟩:=qDz _;exact ⟨n,_,(qIO n _ _).trans hn,.inl rfl⟩
def E_z56:EnvP:=eQ [(96,s_z96)] 12 (some [2]) nC nC nP
def C_z56:Code:=cO Tryz.f56
def R_z56:Array ResultVar:=Tryz.f56.results
theorem qIP (n:Nat) (charset0:Int) (o0:Lab):evFnP E_z56 n C_z56 R_z56 [de charset0 o0]=qCW n charset0:=by
 kernel_rfl
theorem qxt:qe G Tryz.prog 56 s_z56:=by
 refine sQ (E:=E_z56) (c:=C_z56) rfl (fun w S hg=>(qa (qxs w S hg) qc)) Tryz.func56 ?_;intro avs r h;unfold s_z56 at h;split at h <;> cases h
 obtain ⟨n,hn⟩:=qDB _;exact ⟨n,_,(qIP n _ _).trans hn,.inl rfl⟩
def E_z29:EnvP:=eQ [(55,s_z55),(56,s_z56)] 22 (some [6]) nC nC nP
def C_z29:Code:=cO Tryz.f29
def R_z29:Array ResultVar:=Tryz.f29.results
theorem qIQ (n:Nat) (name0:List UInt8) (o0:Lab) (n1:Int) (o1:Lab) (charset2:Int) (o2:Lab):evFnP E_z29 n C_z29 R_z29 [db name0 o0,de n1 o1,de charset2 o2]=qCX n name0 n1 charset2:=by
 kernel_rfl
theorem qiK:qe G Tryz.prog 29 s_z29:=by
 refine sQ (E:=E_z29) (c:=C_z29) rfl (fun w S hg=>(qa (qxr w S hg) (qa (qxt w S hg) qc))) Tryz.func29 ?_;intro avs r h;unfold s_z29 at h;split at h
 ·obtain ⟨hp,rfl⟩:=yj h;obtain ⟨n,hn⟩:=qBX _ _ _ hp;exact ⟨n,_,(qIQ n _ _ _ _ _ _).trans hn,.inl rfl⟩
 ·cases h
def E_z58:EnvP:=eQ [(29,s_z29)] 29 (some [30,31,32,33,34]) nC nC (fun x=>if x=19 then some (.psl 22 (.osl 5 .byte)) else if x=20 then some (.psl 22 (.osl 5 .byte)) else if x=28 then some (.osl 5 .byte) else none)
def C_z58:Code:=cO Tryz.f58
def R_z58:Array ResultVar:=Tryz.f58.results
theorem qIR (n:Nat) (u0:List UInt8) (o0:Lab) (x1:Bool) (x2:List UInt8) (x3:List (List UInt8)) (x4:List UInt8) (x5:Int):evFnM E_z58 n C_z58 R_z58 [db u0 o0,.pbox (.leaf .bool) x1 none,.pbox (.osl 5 .byte) x2 none,.pbox (.psl 22 (.osl 5 .byte)) x3 none,.pbox (.leaf (.sl .byte)) x4 none,.pbox (.leaf (.int .i64)) x5 none]=qCY n u0 x1 x2 x3 x4 x5:=by
 kernel_rfl
theorem qxu:qEJ G Tryz.prog 58 s_z58:=by
 refine qlp G_stays (E:=E_z58) (fn:=Tryz.f58) (c:=C_z58) (qo rfl qdE) (fun w S hg=>⟨⟨(qa (qiK w S hg) qc),fun f sp h=>qbr f sp h w S⟩,qdG w S hg,(fun _ _ h=>by cases h),(fun f sp h=>qfT f sp h),(fun f it h=>qfU f it h),(fun t kt vt h=>qcE t kt vt h)⟩) follows Tryz.func58 (by kernel_rfl) (by kernel_rfl) (by kernel_rfl) ?_;intro avs r h;unfold s_z58 at h;split at h
 ·obtain ⟨hp,rfl⟩:=yj h;obtain ⟨n,hn⟩:=qCn _ _ _ _ _ _ hp;exact ⟨n,(qIR n _ _ _ _ _ _ _).trans hn⟩
 ·cases h
def E_z31:EnvP:=⟨⟨tiOf tis,fnsOf [(29,s_z29)],cnsOf [],[],31,(fun x=>if x=6 then some [3,4,7,8,9,10,17,18,19] else if x=3999998 then some [8] else none),(fun x=>if x=0 then some [7,8] else if x=1 then some [3,4,7,8,9,10,17,18,19] else none),some [6]⟩,(fun x=>if x=3 then some (.leaf (.sl .byte)) else if x=4 then some (.leaf (.int .i64)) else if x=7 then some (.psl 22 (.osl 5 .byte)) else if x=8 then some (.osl 5 .byte) else if x=9 then some (.leaf .bool) else if x=29 then some (.psl 22 (.osl 5 .byte)) else if x=30 then some (.psl 22 (.osl 5 .byte)) else none),fun _=>none,fun _=>[],(fun x=>if x=58 then some s_z58 else none),fun _=>none,fun _=>none,fun _=>none⟩
def C_z31:Code:=cO Tryz.f31
def R_z31:Array ResultVar:=Tryz.f31.results
noncomputable def X_z58 (K:Ex→Fr→Option AV):=fun out7 now8=>K (.exit 0) (frOf [(7,(.pbox (.psl 22 (.osl 5 .byte)) out7 none)),(8,(.pbox (.osl 5 .byte) now8 none))])
def qoc (n:Nat):Ex→Fr→Option AV:=qp 0 (E_z31.cutb 0) (kSeq (evCP E_z31 (evLP E_z31 n) (sub C_z31 [1,1,1,1,1,1])) (kFnP E_z31 R_z31))
def qtf (name3:List UInt8) (charset4:Int) (out7:List (List UInt8)) (now8:List UInt8) (empty9:Bool) (s17:List (List UInt8)) (s18:Int) (s19:Int):Fr:=frOf [(3,(.pbox (.leaf (.sl .byte)) name3 none)),(4,(.pbox (.leaf (.int .i64)) charset4 none)),(7,(.pbox (.psl 22 (.osl 5 .byte)) out7 none)),(8,(.pbox (.osl 5 .byte) now8 none)),(9,(.pbox (.leaf .bool) empty9 none)),(10,(.clom 58 [9,8,7,3,4])),(17,(.dat (.sl (.sl .byte)) s17 none)),(18,dc s18),(19,dc s19)]
theorem qxv (K:Ex→Fr→Option AV):∀ (n:Nat) (name3:List UInt8) (charset4:Int) (out7:List (List UInt8)) (now8:List UInt8) (empty9:Bool) (s17:List (List UInt8)) (s18:Int) (s19:Int),evLP E_z31 n (sub C_z31 [1,1,1,1,1,0,1,0,0]) K (qtf name3 charset4 out7 now8 empty9 s17 s18 s19)=qmj (X_z58 K) n name3 charset4 out7 now8 empty9 s17 s18 s19:=by
 intro n;induction n with
 | zero=>intros; rfl
 | succ n IH =>
 intro name3 charset4 out7 now8 empty9 s17 s18 s19;have ih:(fun name3 charset4 out7 now8 empty9 s17 s18 s19=>evLP E_z31 n (sub C_z31 [1,1,1,1,1,0,1,0,0]) K (qtf name3 charset4 out7 now8 empty9 s17 s18 s19))=qmj (X_z58 K) n:=by
  funext name3 charset4 out7 now8 empty9 s17 s18 s19;exact IH name3 charset4 out7 now8 empty9 s17 s18 s19
 show _=qeI (X_z58 K) (qmj (X_z58 K) n) n name3 charset4 out7 now8 empty9 s17 s18 s19;rw [← ih];kernel_rfl
theorem qqs (n:Nat) (out7:List (List UInt8)) (now8:List UInt8):(qoc n) (.exit 0) (frOf [(7,(.pbox (.psl 22 (.osl 5 .byte)) out7 none)),(8,(.pbox (.osl 5 .byte) now8 none))])=qeJ n out7 now8:=by
 kernel_rfl
theorem qIS (n:Nat) (name0:List UInt8) (o0:Lab) (charset1:Int) (o1:Lab) (l2:List (List UInt8)) (o2:Lab):evFnP E_z31 n C_z31 R_z31 [db name0 o0,de charset1 o1,.dat (.sl (.sl .byte)) l2 o2]=qyK n name0 charset1 l2:=by
 unfold qyK;rw [show qmj (qeJ n) n=(fun name3 charset4 out7 now8 empty9 s17 s18 s19=>evLP E_z31 n (sub C_z31 [1,1,1,1,1,0,1,0,0]) (qoc n) (qtf name3 charset4 out7 now8 empty9 s17 s18 s19)) from by
  funext name3 charset4 out7 now8 empty9 s17 s18 s19;refine Eq.trans ?_ (qxv (qoc n) n name3 charset4 out7 now8 empty9 s17 s18 s19).symm;rw [show (X_z58 (qoc n))=(qeJ n) from by
   funext out7 now8;exact qqs n out7 now8]
  all_goals kernel_rfl]
 kernel_rfl
theorem qxw:qe G Tryz.prog 31 s_z31:=by
 refine qJ G_stays (E:=E_z31) (fn:=Tryz.f31) (c:=C_z31) (qo rfl qdE) (fun w S hg=>⟨⟨(qa (qiK w S hg) qc),fun f sp h=>qbr f sp h w S⟩,qdG w S hg,(fun f sp h=>(qAH (qxu w S hg) qEm) f sp h),(fun f sp h=>qfT f sp h),(fun f it h=>qfU f it h),(fun t kt vt h=>qcE t kt vt h)⟩) follows Tryz.func31 (by kernel_rfl) (by kernel_rfl) (by kernel_rfl) ?_;intro avs r h;unfold s_z31 at h;split at h
 ·obtain ⟨hp,rfl⟩:=yj h;obtain ⟨n,hn⟩:=qCo _ _ _ hp;exact ⟨n,_,(qIS n _ _ _ _ _ _).trans hn,.inl rfl⟩
 ·cases h
def E_z13:EnvP:=eQ [(22,s_z22),(23,s_z23),(27,s_z27),(28,s_z28),(29,s_z29),(30,s_z30),(31,s_z31)] 54 (some [1000004,5]) nC nC nP
def C_z13:Code:=cO Tryz.f13
def R_z13:Array ResultVar:=Tryz.f13.results
theorem qIT (n:Nat) (name0:List UInt8) (o0:Lab) (t1:List Int) (o1:Lab):evFnP E_z13 n C_z13 R_z13 [db name0 o0,.dat (.sl (.int .i32)) t1 o1]=qCZ n name0 t1:=by
 kernel_rfl
theorem qfK:qe G Tryz.prog 13 s_z13:=by
 refine sQ (E:=E_z13) (c:=C_z13) rfl (fun w S hg=>(qa (qnG w S hg) (qa (qnV w S hg) (qa (qnZ w S hg) (qa (qob w S hg) (qa (qiK w S hg) (qa (qwH w S hg) (qa (qxw w S hg) qc)))))))) Tryz.func13 ?_;intro avs r h;unfold s_z13 at h;split at h
 ·obtain ⟨hp,rfl⟩:=yj h;obtain ⟨n,hn⟩:=qCp _ _ hp;exact ⟨n,_,(qIT n _ _ _ _).trans hn,.inl rfl⟩
 ·cases h
def E_z7:EnvP:=eQ [(13,s_z13)] 30 (some [4,5]) (fun x=>if x=4 then some [7,8,17,18,19] else none) (fun x=>if x=0 then some [7,8] else if x=1 then some [7,8,17,18,19] else none) nP
def C_z7:Code:=cO Tryz.f7
def R_z7:Array ResultVar:=Tryz.f7.results
noncomputable def qtg (K:Ex→Fr→Option AV):=fun e7 out8=>K (.exit 0) (frOf [(7,dc e7),(8,(db out8 (some (8,5))))])
def qxx (n:Nat):Ex→Fr→Option AV:=qp 0 (E_z7.cutb 0) (kSeq (evCP E_z7 (evLP E_z7 n) (sub C_z7 [1,1,1,1])) (kFnP E_z7 R_z7))
def qBB (e7:Int) (out8:List UInt8) (s17:List (List UInt8)) (s18:Int) (s19:Int):Fr:=frOf [(7,dc e7),(8,(db out8 (some (8,5)))),(17,(.dat (.sl (.sl .byte)) s17 none)),(18,dc s18),(19,dc s19)]
theorem qBC (K:Ex→Fr→Option AV):∀ (n:Nat) (e7:Int) (out8:List UInt8) (s17:List (List UInt8)) (s18:Int) (s19:Int),evLP E_z7 n (sub C_z7 [1,1,1,0,1,0,0]) K (qBB e7 out8 s17 s18 s19)=z7_l4 (qtg K) n e7 out8 s17 s18 s19:=by
 intro n;induction n with
 | zero=>intros; rfl
 | succ n IH =>
 intro e7 out8 s17 s18 s19;have ih:(fun e7 out8 s17 s18 s19=>evLP E_z7 n (sub C_z7 [1,1,1,0,1,0,0]) K (qBB e7 out8 s17 s18 s19))=z7_l4 (qtg K) n:=by
  funext e7 out8 s17 s18 s19;exact IH e7 out8 s17 s18 s19
 show _=qhN (qtg K) (z7_l4 (qtg K) n) n e7 out8 s17 s18 s19;rw [← ih];kernel_rfl
theorem qth (n:Nat) (e7:Int) (out8:List UInt8):(qxx n) (.exit 0) (frOf [(7,dc e7),(8,(db out8 (some (8,5))))])=qhO n e7 out8:=by
 kernel_rfl
theorem z7_ev (n:Nat) (name0:List UInt8) (o0:Lab) (t1:List Int) (o1:Lab):evFnP E_z7 n C_z7 R_z7 [db name0 o0,.dat (.sl (.int .i32)) t1 o1]=z7_sh n name0 t1:=by
 unfold z7_sh;rw [show z7_l4 (qhO n) n=(fun e7 out8 s17 s18 s19=>evLP E_z7 n (sub C_z7 [1,1,1,0,1,0,0]) (qxx n) (qBB e7 out8 s17 s18 s19)) from by
  funext e7 out8 s17 s18 s19;refine Eq.trans ?_ (qBC (qxx n) n e7 out8 s17 s18 s19).symm;rw [show (qtg (qxx n))=(qhO n) from by
   funext e7 out8;exact qth n e7 out8]
  all_goals kernel_rfl]
 kernel_rfl
theorem qti:qe G Tryz.prog 7 s_z7:=by
 refine sQ (E:=E_z7) (c:=C_z7) rfl (fun w S hg=>(qa (qfK w S hg) qc)) Tryz.func7 ?_;intro avs r h;unfold s_z7 at h;split at h
 ·obtain ⟨hp,rfl⟩:=yj h;obtain ⟨n,hn⟩:=qGY _ _ hp;exact ⟨n,_,(z7_ev n _ _ _ _).trans hn,.inl rfl⟩
 ·cases h
def E_z6:EnvP:=eQ [(7,s_z7),(13,s_z13)] 54 (some [0]) nC nC nP
def C_z6:Code:=cO Tryz.f6
def R_z6:Array ResultVar:=Tryz.f6.results
theorem z6_ev (n:Nat)  : evFnP E_z6 n C_z6 R_z6 []=z6_sh n  := by
 kernel_rfl
theorem qtj:qe G Tryz.prog 6 s_z6:=by
 refine sQ (E:=E_z6) (c:=C_z6) rfl (fun w S hg=>(qa (qti w S hg) (qa (qfK w S hg) qc))) Tryz.func6 ?_;intro avs r h;unfold s_z6 at h;split at h <;> cases h
 obtain ⟨n,hn⟩:=qHa;exact ⟨n,_,(z6_ev n ).trans hn,.inl rfl⟩
def qGu:EnvP:=eQ [] 5 (some [2]) nC nC nP
def qGv:Code:=cO Tryz.f117
def qIU:Array ResultVar:=Tryz.f117.results
theorem qGw (n:Nat) (x0:UInt8) (o0:Lab):evFnP qGu n qGv qIU [dn x0 o0]=qAv n x0:=by
 kernel_rfl
theorem qtk:qe G Tryz.prog 117 s_z117:=by
 refine sQ (E:=qGu) (c:=qGv) rfl (fun w S hg=>qc) Tryz.func117 ?_;intro avs r h;unfold s_z117 at h;split at h <;> cases h
 obtain ⟨n,hn⟩:=qzH _;exact ⟨n,_,(qGw n _ _).trans hn,.inl rfl⟩
def E_z83:EnvP:=eQ [(117,s_z117)] 20 (some [2,3]) (fun x=>if x=2 then some [0,4] else none) (fun x=>if x=0 then some [] else if x=1 then some [0,4] else none) nP
def C_z83:Code:=cO Tryz.f83
def R_z83:Array ResultVar:=Tryz.f83.results
noncomputable def qod (K:Ex→Fr→Option AV):=fun s2 s3=>K .ret (frOf [(2,dm s2),(3,dg s3)])
def qoe (n:Nat):Ex→Fr→Option AV:=qp 0 (E_z83.cutb 0) (kSeq (evCP E_z83 (evLP E_z83 n) (sub C_z83 [1,1])) (kFnP E_z83 R_z83))
def qtl (c0:Int) (n4:Int):Fr:=frOf [(0,(di c0 none)),(4,dc n4)]
theorem qxy (K:Ex→Fr→Option AV):∀ (n:Nat) (c0:Int) (n4:Int),evLP E_z83 n (sub C_z83 [1,0,1,0,0]) K (qtl c0 n4)=qkL (qod K) (K (.exit 0) (frOf [])) n c0 n4:=by
 intro n;induction n with
 | zero=>intros; rfl
 | succ n IH =>
 intro c0 n4;have ih:(fun c0 n4=>evLP E_z83 n (sub C_z83 [1,0,1,0,0]) K (qtl c0 n4))=qkL (qod K) (K (.exit 0) (frOf [])) n:=by
  funext c0 n4;exact IH c0 n4
 show _=qjc (qod K) (K (.exit 0) (frOf [])) (qkL (qod K) (K (.exit 0) (frOf [])) n) n c0 n4;rw [← ih];kernel_rfl
theorem qqt (n:Nat)  : (qoe n) (.exit 0) (frOf [])=qjd n  := by
 kernel_rfl
theorem qIV (n:Nat) (c0:Int) (o0:Lab):evFnP E_z83 n C_z83 R_z83 [di c0 o0]=qyL n c0:=by
 unfold qyL;rw [show qkL qpe (qjd n) n=(fun c0 n4=>evLP E_z83 n (sub C_z83 [1,0,1,0,0]) (qoe n) (qtl c0 n4)) from by
  funext c0 n4;refine Eq.trans ?_ (qxy (qoe n) n c0 n4).symm;rw [show ((qoe n) (.exit 0) (frOf []))=(qjd n) from by
   exact qqt n ]
  all_goals kernel_rfl]
 kernel_rfl
theorem qof:qe G Tryz.prog 83 s_z83:=by
 refine sQ (E:=E_z83) (c:=C_z83) rfl (fun w S hg=>(qa (qtk w S hg) qc)) Tryz.func83 ?_;intro avs r h;unfold s_z83 at h;split at h <;> cases h
 obtain ⟨n,hn⟩:=qDK _;exact ⟨n,_,(qIV n _ _).trans hn,.inl rfl⟩
end
end Go.Av
