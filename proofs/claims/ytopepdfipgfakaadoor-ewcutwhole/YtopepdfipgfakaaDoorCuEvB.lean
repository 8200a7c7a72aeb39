import Derived.Test.YtopepdfipgfakaaDoorCuEvA
import Derived.Test.YtopepdfipgfakaaDoorCuC
import Derived.Test.YtopepdfipgfakaaDoorProg
import Derived.KernelRfl
namespace Go.Av
set_option linter.unusedSimpArgs false
noncomputable section
open Go.Proofs
set_option maxRecDepth 100000
set_option linter.unusedVariables false
def E_z50:EnvP:=eQ [(47,s_z47)] 20 (some [4]) (fun x=>if x=2 then some [0,7,8,9] else none) (fun x=>if x=0 then some [] else if x=1 then some [0,7,8,9] else none) nP
def C_z50:Code:=cO Tryd.f50
def R_z50:Array ResultVar:=Tryd.f50.results
noncomputable def qjD (K:Ex→Fr→Option AV):=fun s4=>K .ret (frOf [(4,(.dat (.int .i64) s4 none))])
def qjE (n:Nat):Ex→Fr→Option AV:=qN 0 (E_z50.cutb 0) (kSeq (evCP E_z50 (evLP E_z50 n) (sub C_z50 [1,1])) (kFnP E_z50 R_z50))
def qnf (charset0:Int) (s7:List Int) (s8:Int) (s9:Int):Fr:=frOf [(0,(.dat (.int .i64) charset0 none)),(7,(.dat (.sl (.int .i32)) s7 none)),(8,(.dat (.int .i64) s8 none)),(9,(.dat (.int .i64) s9 none))]
theorem qpJ (K:Ex→Fr→Option AV):∀ (n:Nat) (charset0:Int) (s7:List Int) (s8:Int) (s9:Int),evLP E_z50 n (sub C_z50 [1,0,1,0,0]) K (qnf charset0 s7 s8 s9)=qit (qjD K) (K (.exit 0) (frOf [])) n charset0 s7 s8 s9:=by
 intro n
 induction n with
 | zero=>intros; rfl
 | succ n IH =>
 intro charset0 s7 s8 s9
 have ih:(fun charset0 s7 s8 s9=>evLP E_z50 n (sub C_z50 [1,0,1,0,0]) K (qnf charset0 s7 s8 s9))=qit (qjD K) (K (.exit 0) (frOf [])) n:=by
  funext charset0 s7 s8 s9
  exact IH charset0 s7 s8 s9
 show _=qcZ (qjD K) (K (.exit 0) (frOf [])) (qit (qjD K) (K (.exit 0) (frOf [])) n) n charset0 s7 s8 s9
 rw [← ih]
 kernel_rfl
theorem qlf (n:Nat)  : (qjE n) (.exit 0) (frOf [])=qeF n  := by
 kernel_rfl
theorem qyD (n:Nat) (charset0:Int) (o0:Lab) (t1:List Int) (o1:Lab):evFnP E_z50 n C_z50 R_z50 [.dat (.int .i64) charset0 o0,.dat (.sl (.int .i32)) t1 o1]=qro n charset0 t1:=by
 unfold qro
 rw [show qit qht (qeF n) n=(fun charset0 s7 s8 s9=>evLP E_z50 n (sub C_z50 [1,0,1,0,0]) (qjE n) (qnf charset0 s7 s8 s9)) from by
  funext charset0 s7 s8 s9
  refine Eq.trans ?_ (qpJ (qjE n) n charset0 s7 s8 s9).symm
  rw [show ((qjE n) (.exit 0) (frOf []))=(qeF n) from by
   exact qlf n ]
  all_goals kernel_rfl]
 kernel_rfl
theorem qpK:qg Gc Tryd.prog 50 s_z50:=by
 refine sQ (E:=E_z50) (c:=C_z50) rfl (fun w S hg=>(qb (qjC w S hg) qd)) Tryd.func50 ?_
 intro avs r h
 unfold s_z50 at h
 split at h
 ·obtain ⟨hp,rfl⟩:=Prod.mk.inj h
  obtain ⟨n,hn⟩:=qvL _ _ hp
  exact ⟨n,_,(qyD n _ _ _ _).trans hn,.inl rfl⟩
 ·cases h
def E_z34:EnvP:=eQ [(33,s_z33),(50,s_z50)] 14 (some [4]) nC nC nP
def C_z34:Code:=cO Tryd.f34
def R_z34:Array ResultVar:=Tryd.f34.results
theorem qyE (n:Nat) (charset0:Int) (o0:Lab) (t1:List Int) (o1:Lab):evFnP E_z34 n C_z34 R_z34 [.dat (.int .i64) charset0 o0,.dat (.sl (.int .i32)) t1 o1]=qus n charset0 t1:=by
 kernel_rfl
theorem qpL:qg Gc Tryd.prog 34 s_z34:=by
 refine sQ (E:=E_z34) (c:=C_z34) rfl (fun w S hg=>(qb (qjt w S hg) (qb (qpK w S hg) qd))) Tryd.func34 ?_
 intro avs r h
 unfold s_z34 at h
 split at h
 ·obtain ⟨hp,rfl⟩:=Prod.mk.inj h
  obtain ⟨n,hn⟩:=qvY _ _ hp
  exact ⟨n,_,(qyE n _ _ _ _).trans hn,.inl rfl⟩
 ·cases h
def E_z81:EnvP:=eQ [(65,s_z65)] 6 (some [2]) nC nC nP
def C_z81:Code:=cO Tryd.f81
def R_z81:Array ResultVar:=Tryd.f81.results
theorem qyF (n:Nat) (c0:Int) (o0:Lab):evFnP E_z81 n C_z81 R_z81 [.dat (.int .i32) c0 o0]=qxv n c0:=by
 kernel_rfl
theorem qpM:qg Gc Tryd.prog 81 s_z81:=by
 refine sQ (E:=E_z81) (c:=C_z81) rfl (fun w S hg=>(qb (qgd w S hg) qd)) Tryd.func81 ?_
 intro avs r h
 unfold s_z81 at h
 split at h <;> cases h
 obtain ⟨n,hn⟩:=qvG _
 exact ⟨n,_,(qyF n _ _).trans hn,.inl rfl⟩
def E_z80:EnvP:=eQ [(81,s_z81)] 19 (some [4]) (fun x=>if x=2 then some [0,1,7,8] else none) (fun x=>if x=0 then some [] else if x=1 then some [0,1,7,8] else none) nP
def C_z80:Code:=cO Tryd.f80
def R_z80:Array ResultVar:=Tryd.f80.results
noncomputable def qjF (K:Ex→Fr→Option AV):=fun s4=>K .ret (frOf [(4,(.dat (.int .i64) s4 none))])
def qjG (n:Nat):Ex→Fr→Option AV:=qN 0 (E_z80.cutb 0) (kSeq (evCP E_z80 (evLP E_z80 n) (sub C_z80 [1,1])) (kFnP E_z80 R_z80))
def qng (s0:List Int) (s7:Int) (s8:Int):Fr:=frOf [(0,(.dat (.sl (.int .i32)) s0 none)),(1,(.fn 81 [])),(7,(.dat (.int .i64) s7 none)),(8,(.dat (.int .i64) s8 none))]
theorem qpN (K:Ex→Fr→Option AV):∀ (n:Nat) (s0:List Int) (s7:Int) (s8:Int),evLP E_z80 n (sub C_z80 [1,0,1,0,0]) K (qng s0 s7 s8)=qiu (qjF K) (K (.exit 0) (frOf [])) n s0 s7 s8:=by
 intro n
 induction n with
 | zero=>intros; rfl
 | succ n IH =>
 intro s0 s7 s8
 have ih:(fun s0 s7 s8=>evLP E_z80 n (sub C_z80 [1,0,1,0,0]) K (qng s0 s7 s8))=qiu (qjF K) (K (.exit 0) (frOf [])) n:=by
  funext s0 s7 s8
  exact IH s0 s7 s8
 show _=qda (qjF K) (K (.exit 0) (frOf [])) (qiu (qjF K) (K (.exit 0) (frOf [])) n) n s0 s7 s8
 rw [← ih]
 kernel_rfl
theorem qlg (n:Nat)  : (qjG n) (.exit 0) (frOf [])=qeG n  := by
 kernel_rfl
theorem qyG (n:Nat) (s0:List Int) (o0:Lab):evFnP E_z80 n C_z80 R_z80 [.dat (.sl (.int .i32)) s0 o0,.fn 81 []]=qrp n s0:=by
 unfold qrp
 rw [show qiu qhu (qeG n) n=(fun s0 s7 s8=>evLP E_z80 n (sub C_z80 [1,0,1,0,0]) (qjG n) (qng s0 s7 s8)) from by
  funext s0 s7 s8
  refine Eq.trans ?_ (qpN (qjG n) n s0 s7 s8).symm
  rw [show ((qjG n) (.exit 0) (frOf []))=(qeG n) from by
   exact qlg n ]
  all_goals kernel_rfl]
 kernel_rfl
theorem qpO:qg Gc Tryd.prog 80 s_z80:=by
 refine sQ (E:=E_z80) (c:=C_z80) rfl (fun w S hg=>(qb (qpM w S hg) qd)) Tryd.func80 ?_
 intro avs r h
 unfold s_z80 at h
 split at h
 ·obtain ⟨hp,rfl⟩:=Prod.mk.inj h
  obtain ⟨n,hn⟩:=qvI _ hp
  exact ⟨n,_,(qyG n _ _).trans hn,.inl rfl⟩
 ·cases h
def E_z68:EnvP:=eQ [(80,s_z80)] 5 (some [2]) nC nC nP
def C_z68:Code:=cO Tryd.f68
def R_z68:Array ResultVar:=Tryd.f68.results
theorem qyH (n:Nat) (t0:List Int) (o0:Lab):evFnP E_z68 n C_z68 R_z68 [.dat (.sl (.int .i32)) t0 o0]=qut n t0:=by
 kernel_rfl
theorem qpP:qg Gc Tryd.prog 68 s_z68:=by
 refine sQ (E:=E_z68) (c:=C_z68) rfl (fun w S hg=>(qb (qpO w S hg) qd)) Tryd.func68 ?_
 intro avs r h
 unfold s_z68 at h
 split at h
 ·obtain ⟨hp,rfl⟩:=Prod.mk.inj h
  obtain ⟨n,hn⟩:=qvM _ hp
  exact ⟨n,_,(qyH n _ _).trans hn,.inl rfl⟩
 ·cases h
def E_z51:EnvP:=eQ [(68,s_z68)] 6 (some [2]) nC nC nP
def C_z51:Code:=cO Tryd.f51
def R_z51:Array ResultVar:=Tryd.f51.results
theorem qyI (n:Nat) (t0:List Int) (o0:Lab):evFnP E_z51 n C_z51 R_z51 [.dat (.sl (.int .i32)) t0 o0]=quu n t0:=by
 kernel_rfl
theorem qpQ:qg Gc Tryd.prog 51 s_z51:=by
 refine sQ (E:=E_z51) (c:=C_z51) rfl (fun w S hg=>(qb (qpP w S hg) qd)) Tryd.func51 ?_
 intro avs r h
 unfold s_z51 at h
 split at h
 ·obtain ⟨hp,rfl⟩:=Prod.mk.inj h
  obtain ⟨n,hn⟩:=qvN _ hp
  exact ⟨n,_,(qyI n _ _).trans hn,.inl rfl⟩
 ·cases h
def E_z69:EnvP:=eQ [(65,s_z65)] 16 (some [2]) nC (fun x=>if x=0 then some [] else none) nP
def C_z69:Code:=cO Tryd.f69
def R_z69:Array ResultVar:=Tryd.f69.results
theorem qyJ (n:Nat) (c0:Int) (o0:Lab):evFnP E_z69 n C_z69 R_z69 [.dat (.int .i32) c0 o0]=quv n c0:=by
 kernel_rfl
theorem qpR:qg Gc Tryd.prog 69 s_z69:=by
 refine sQ (E:=E_z69) (c:=C_z69) rfl (fun w S hg=>(qb (qgd w S hg) qd)) Tryd.func69 ?_
 intro avs r h
 unfold s_z69 at h
 split at h <;> cases h
 obtain ⟨n,hn⟩:=qvO _
 exact ⟨n,_,(qyJ n _ _).trans hn,.inl rfl⟩
def E_z71:EnvP:=eQ [] 10 (some [2]) nC (fun x=>if x=0 then some [] else none) nP
def C_z71:Code:=cO Tryd.f71
def R_z71:Array ResultVar:=Tryd.f71.results
theorem qyK (n:Nat) (n0:Int) (o0:Lab):evFnP E_z71 n C_z71 R_z71 [.dat (.int .i64) n0 o0]=quw n n0:=by
 kernel_rfl
theorem qpS:qg Gc Tryd.prog 71 s_z71:=by
 refine sQ (E:=E_z71) (c:=C_z71) rfl (fun w S hg=>qd) Tryd.func71 ?_
 intro avs r h
 unfold s_z71 at h
 split at h <;> cases h
 obtain ⟨n,hn⟩:=qvj _
 exact ⟨n,_,(qyK n _ _).trans hn,.inl rfl⟩
def E_z52:EnvP:=eQ [(69,s_z69),(70,s_z70),(71,s_z71)] 56 (some [4,5]) nC (fun x=>if x=0 then some [7] else if x=1 then some [1,7] else if x=2 then some [1,7] else if x=3 then some [1,7] else none) nP
def C_z52:Code:=cO Tryd.f52
def R_z52:Array ResultVar:=Tryd.f52.results
theorem qyL (n:Nat) (b0:List UInt8) (o0:Lab) (c1:Int) (o1:Lab):evFnP E_z52 n C_z52 R_z52 [.dat (.sl .byte) b0 o0,.dat (.int .i32) c1 o1]=qux n b0 c1:=by
 kernel_rfl
theorem qpT:qg Gc Tryd.prog 52 s_z52:=by
 refine sQ (E:=E_z52) (c:=C_z52) rfl (fun w S hg=>(qb (qpR w S hg) (qb (qjs w S hg) (qb (qpS w S hg) qd)))) Tryd.func52 ?_
 intro avs r h
 unfold s_z52 at h
 split at h
 ·obtain ⟨hp,rfl⟩:=Prod.mk.inj h
  obtain ⟨n,hn⟩:=qvP _ _ hp
  exact ⟨n,_,(qyL n _ _ _ _).trans hn,.inl rfl⟩
 ·cases h
def E_z35:EnvP:=eQ [(51,s_z51),(52,s_z52)] 28 (some [2,3]) (fun x=>if x=5 then some [4,12,13,14] else none) (fun x=>if x=0 then some [4] else if x=1 then some [4,12,13,14] else none) nP
def C_z35:Code:=cO Tryd.f35
def R_z35:Array ResultVar:=Tryd.f35.results
noncomputable def qhe (K:Ex→Fr→Option AV):=fun out4=>K (.exit 0) (frOf [(4,(.dat (.sl .byte) out4 (some (4,5))))])
def qjH (n:Nat):Ex→Fr→Option AV:=qN 0 (E_z35.cutb 0) (kSeq (evCP E_z35 (evLP E_z35 n) (sub C_z35 [1,1,1,1])) (kFnP E_z35 R_z35))
def qnh (out4:List UInt8) (s12:List Int) (s13:Int) (s14:Int):Fr:=frOf [(4,(.dat (.sl .byte) out4 (some (4,5)))),(12,(.dat (.sl (.int .i32)) s12 none)),(13,(.dat (.int .i64) s13 none)),(14,(.dat (.int .i64) s14 none))]
theorem qpU (K:Ex→Fr→Option AV):∀ (n:Nat) (out4:List UInt8) (s12:List Int) (s13:Int) (s14:Int),evLP E_z35 n (sub C_z35 [1,1,1,0,1,0,0]) K (qnh out4 s12 s13 s14)=qiv (qhe K) n out4 s12 s13 s14:=by
 intro n
 induction n with
 | zero=>intros; rfl
 | succ n IH =>
 intro out4 s12 s13 s14
 have ih:(fun out4 s12 s13 s14=>evLP E_z35 n (sub C_z35 [1,1,1,0,1,0,0]) K (qnh out4 s12 s13 s14))=qiv (qhe K) n:=by
  funext out4 s12 s13 s14
  exact IH out4 s12 s13 s14
 show _=qdb (qhe K) (qiv (qhe K) n) n out4 s12 s13 s14
 rw [← ih]
 kernel_rfl
theorem qlh (n:Nat) (out4:List UInt8):(qjH n) (.exit 0) (frOf [(4,(.dat (.sl .byte) out4 (some (4,5))))])=qdc n out4:=by
 kernel_rfl
theorem qyM (n:Nat) (t0:List Int) (o0:Lab):evFnP E_z35 n C_z35 R_z35 [.dat (.sl (.int .i32)) t0 o0]=qrq n t0:=by
 unfold qrq
 rw [show qiv (qdc n) n=(fun out4 s12 s13 s14=>evLP E_z35 n (sub C_z35 [1,1,1,0,1,0,0]) (qjH n) (qnh out4 s12 s13 s14)) from by
  funext out4 s12 s13 s14
  refine Eq.trans ?_ (qpU (qjH n) n out4 s12 s13 s14).symm
  rw [show (qhe (qjH n))=(qdc n) from by
   funext out4
   exact qlh n out4]
  all_goals kernel_rfl]
 kernel_rfl
theorem qpV:qg Gc Tryd.prog 35 s_z35:=by
 refine sQ (E:=E_z35) (c:=C_z35) rfl (fun w S hg=>(qb (qpQ w S hg) (qb (qpT w S hg) qd))) Tryd.func35 ?_
 intro avs r h
 unfold s_z35 at h
 split at h
 ·obtain ⟨hp,rfl⟩:=Prod.mk.inj h
  obtain ⟨n,hn⟩:=qwb _ hp
  exact ⟨n,_,(qyM n _ _).trans hn,.inl rfl⟩
 ·cases h
def E_z36:EnvP:=eQ [(53,s_z53)] 28 (some [2,3]) (fun x=>if x=3 then some [4,9,10,11] else none) (fun x=>if x=0 then some [4] else if x=1 then some [4,9,10,11] else none) nP
def C_z36:Code:=cO Tryd.f36
def R_z36:Array ResultVar:=Tryd.f36.results
noncomputable def qjI (K:Ex→Fr→Option AV):=fun s2 s3=>K .ret (frOf [(2,(.dat (.sl .byte) s2 (some (2,5)))),(3,(.dat (.int .i64) s3 none))])
noncomputable def qhf (K:Ex→Fr→Option AV):=fun s4=>K (.exit 0) (frOf [(4,(.dat (.sl .byte) s4 (some (4,5))))])
def qjJ (n:Nat):Ex→Fr→Option AV:=qN 0 (E_z36.cutb 0) (kSeq (evCP E_z36 (evLP E_z36 n) (sub C_z36 [1,1,1])) (kFnP E_z36 R_z36))
def qni (s4:List UInt8) (s9:List Int) (s10:Int) (s11:Int):Fr:=frOf [(4,(.dat (.sl .byte) s4 (some (4,5)))),(9,(.dat (.sl (.int .i32)) s9 none)),(10,(.dat (.int .i64) s10 none)),(11,(.dat (.int .i64) s11 none))]
theorem qpW (K:Ex→Fr→Option AV):∀ (n:Nat) (s4:List UInt8) (s9:List Int) (s10:Int) (s11:Int),evLP E_z36 n (sub C_z36 [1,1,0,1,0,0]) K (qni s4 s9 s10 s11)=qiw (qjI K) (qhf K) n s4 s9 s10 s11:=by
 intro n
 induction n with
 | zero=>intros; rfl
 | succ n IH =>
 intro s4 s9 s10 s11
 have ih:(fun s4 s9 s10 s11=>evLP E_z36 n (sub C_z36 [1,1,0,1,0,0]) K (qni s4 s9 s10 s11))=qiw (qjI K) (qhf K) n:=by
  funext s4 s9 s10 s11
  exact IH s4 s9 s10 s11
 show _=qdd (qjI K) (qhf K) (qiw (qjI K) (qhf K) n) n s4 s9 s10 s11
 rw [← ih]
 kernel_rfl
theorem qli (n:Nat) (s4:List UInt8):(qjJ n) (.exit 0) (frOf [(4,(.dat (.sl .byte) s4 (some (4,5))))])=qde n s4:=by
 kernel_rfl
theorem qyN (n:Nat) (t0:List Int) (o0:Lab):evFnP E_z36 n C_z36 R_z36 [.dat (.sl (.int .i32)) t0 o0]=qrr n t0:=by
 unfold qrr
 rw [show qiw qfs (qde n) n=(fun s4 s9 s10 s11=>evLP E_z36 n (sub C_z36 [1,1,0,1,0,0]) (qjJ n) (qni s4 s9 s10 s11)) from by
  funext s4 s9 s10 s11
  refine Eq.trans ?_ (qpW (qjJ n) n s4 s9 s10 s11).symm
  rw [show (qhf (qjJ n))=(qde n) from by
   funext s4
   exact qli n s4]
  all_goals kernel_rfl]
 kernel_rfl
theorem qpX:qg Gc Tryd.prog 36 s_z36:=by
 refine sQ (E:=E_z36) (c:=C_z36) rfl (fun w S hg=>(qb (qjx w S hg) qd)) Tryd.func36 ?_
 intro avs r h
 unfold s_z36 at h
 split at h
 ·obtain ⟨hp,rfl⟩:=Prod.mk.inj h
  obtain ⟨n,hn⟩:=qvZ _ hp
  exact ⟨n,_,(qyN n _ _).trans hn,.inl rfl⟩
 ·cases h
end
end Go.Av
