import Derived.Test.YtopepdfipgfakaaDoorCuEvB
import Derived.Test.YtopepdfipgfakaaDoorCuC
import Derived.Test.YtopepdfipgfakaaDoorProg
import Derived.KernelRfl
namespace Go.Av
set_option linter.unusedSimpArgs false
noncomputable section
open Go.Proofs
set_option maxRecDepth 100000
set_option linter.unusedVariables false
def E_z54:EnvP:=eQ [(64,s_z64)] 17 (some [2]) (fun x=>if x=2 then some [5,6,7] else none) (fun x=>if x=0 then some [] else if x=1 then some [5,6,7] else none) nP
def C_z54:Code:=cO Tryd.f54
def R_z54:Array ResultVar:=Tryd.f54.results
noncomputable def qjK (K:Ex→Fr→Option AV):=fun s2=>K .ret (frOf [(2,(.dat (.int .i64) s2 none))])
def qjL (n:Nat):Ex→Fr→Option AV:=qN 0 (E_z54.cutb 0) (kSeq (evCP E_z54 (evLP E_z54 n) (sub C_z54 [1,1])) (kFnP E_z54 R_z54))
def qnj (s5:List Int) (s6:Int) (s7:Int):Fr:=frOf [(5,(.dat (.sl (.int .i32)) s5 none)),(6,(.dat (.int .i64) s6 none)),(7,(.dat (.int .i64) s7 none))]
theorem qpY (K:Ex→Fr→Option AV):∀ (n:Nat) (s5:List Int) (s6:Int) (s7:Int),evLP E_z54 n (sub C_z54 [1,0,1,0,0]) K (qnj s5 s6 s7)=qix (qjK K) (K (.exit 0) (frOf [])) n s5 s6 s7:=by
 intro n
 induction n with
 | zero=>intros; rfl
 | succ n IH =>
 intro s5 s6 s7
 have ih:(fun s5 s6 s7=>evLP E_z54 n (sub C_z54 [1,0,1,0,0]) K (qnj s5 s6 s7))=qix (qjK K) (K (.exit 0) (frOf [])) n:=by
  funext s5 s6 s7
  exact IH s5 s6 s7
 show _=qdf (qjK K) (K (.exit 0) (frOf [])) (qix (qjK K) (K (.exit 0) (frOf [])) n) n s5 s6 s7
 rw [← ih]
 kernel_rfl
theorem qlj (n:Nat)  : (qjL n) (.exit 0) (frOf [])=qeH n  := by
 kernel_rfl
theorem qyO (n:Nat) (t0:List Int) (o0:Lab):evFnP E_z54 n C_z54 R_z54 [.dat (.sl (.int .i32)) t0 o0]=qrs n t0:=by
 unfold qrs
 rw [show qix qhw (qeH n) n=(fun s5 s6 s7=>evLP E_z54 n (sub C_z54 [1,0,1,0,0]) (qjL n) (qnj s5 s6 s7)) from by
  funext s5 s6 s7
  refine Eq.trans ?_ (qpY (qjL n) n s5 s6 s7).symm
  rw [show ((qjL n) (.exit 0) (frOf []))=(qeH n) from by
   exact qlj n ]
  all_goals kernel_rfl]
 kernel_rfl
theorem qpZ:qg Gc Tryd.prog 54 s_z54:=by
 refine sQ (E:=E_z54) (c:=C_z54) rfl (fun w S hg=>(qb (qjB w S hg) qd)) Tryd.func54 ?_
 intro avs r h
 unfold s_z54 at h
 split at h
 ·obtain ⟨hp,rfl⟩:=Prod.mk.inj h
  obtain ⟨n,hn⟩:=qvJ _ hp
  exact ⟨n,_,(qyO n _ _).trans hn,.inl rfl⟩
 ·cases h
def E_z37:EnvP:=eQ [(54,s_z54),(55,s_z55)] 32 (some [2,3]) (fun x=>if x=5 then some [4,15,16,17] else none) (fun x=>if x=0 then some [4] else if x=1 then some [4,15,16,17] else none) nP
def C_z37:Code:=cO Tryd.f37
def R_z37:Array ResultVar:=Tryd.f37.results
noncomputable def qhg (K:Ex→Fr→Option AV):=fun s4=>K (.exit 0) (frOf [(4,(.dat (.sl .byte) s4 (some (4,5))))])
def qjM (n:Nat):Ex→Fr→Option AV:=qN 0 (E_z37.cutb 0) (kSeq (evCP E_z37 (evLP E_z37 n) (sub C_z37 [1,1,1,1])) (kFnP E_z37 R_z37))
def qnk (s4:List UInt8) (s15:List Int) (s16:Int) (s17:Int):Fr:=frOf [(4,(.dat (.sl .byte) s4 (some (4,5)))),(15,(.dat (.sl (.int .i32)) s15 none)),(16,(.dat (.int .i64) s16 none)),(17,(.dat (.int .i64) s17 none))]
theorem qqa (K:Ex→Fr→Option AV):∀ (n:Nat) (s4:List UInt8) (s15:List Int) (s16:Int) (s17:Int),evLP E_z37 n (sub C_z37 [1,1,1,0,1,0,0]) K (qnk s4 s15 s16 s17)=qiy (qhg K) n s4 s15 s16 s17:=by
 intro n
 induction n with
 | zero=>intros; rfl
 | succ n IH =>
 intro s4 s15 s16 s17
 have ih:(fun s4 s15 s16 s17=>evLP E_z37 n (sub C_z37 [1,1,1,0,1,0,0]) K (qnk s4 s15 s16 s17))=qiy (qhg K) n:=by
  funext s4 s15 s16 s17
  exact IH s4 s15 s16 s17
 show _=qdg (qhg K) (qiy (qhg K) n) n s4 s15 s16 s17
 rw [← ih]
 kernel_rfl
theorem qlk (n:Nat) (s4:List UInt8):(qjM n) (.exit 0) (frOf [(4,(.dat (.sl .byte) s4 (some (4,5))))])=qdh n s4:=by
 kernel_rfl
theorem qyP (n:Nat) (t0:List Int) (o0:Lab):evFnP E_z37 n C_z37 R_z37 [.dat (.sl (.int .i32)) t0 o0]=qrt n t0:=by
 unfold qrt
 rw [show qiy (qdh n) n=(fun s4 s15 s16 s17=>evLP E_z37 n (sub C_z37 [1,1,1,0,1,0,0]) (qjM n) (qnk s4 s15 s16 s17)) from by
  funext s4 s15 s16 s17
  refine Eq.trans ?_ (qqa (qjM n) n s4 s15 s16 s17).symm
  rw [show (qhg (qjM n))=(qdh n) from by
   funext s4
   exact qlk n s4]
  all_goals kernel_rfl]
 kernel_rfl
theorem qqb:qg Gc Tryd.prog 37 s_z37:=by
 refine sQ (E:=E_z37) (c:=C_z37) rfl (fun w S hg=>(qb (qpZ w S hg) (qb (qjA w S hg) qd))) Tryd.func37 ?_
 intro avs r h
 unfold s_z37 at h
 split at h
 ·obtain ⟨hp,rfl⟩:=Prod.mk.inj h
  obtain ⟨n,hn⟩:=qwa _ hp
  exact ⟨n,_,(qyP n _ _).trans hn,.inl rfl⟩
 ·cases h
def E_z56:EnvP:=eQ [(62,s_z62)] 17 (some [2]) (fun x=>if x=2 then some [0,5,6] else none) (fun x=>if x=0 then some [] else if x=1 then some [0,5,6] else none) nP
def C_z56:Code:=cO Tryd.f56
def R_z56:Array ResultVar:=Tryd.f56.results
noncomputable def qjN (K:Ex→Fr→Option AV):=fun s2=>K .ret (frOf [(2,(.dat (.int .i64) s2 none))])
def qjO (n:Nat):Ex→Fr→Option AV:=qN 0 (E_z56.cutb 0) (kSeq (evCP E_z56 (evLP E_z56 n) (sub C_z56 [1,1])) (kFnP E_z56 R_z56))
def qnl (t0:List Int) (s5:Int) (s6:Int):Fr:=frOf [(0,(.dat (.sl (.int .i32)) t0 none)),(5,(.dat (.int .i64) s5 none)),(6,(.dat (.int .i64) s6 none))]
theorem qqc (K:Ex→Fr→Option AV):∀ (n:Nat) (t0:List Int) (s5:Int) (s6:Int),evLP E_z56 n (sub C_z56 [1,0,1,0,0]) K (qnl t0 s5 s6)=qiz (qjN K) (K (.exit 0) (frOf [])) n t0 s5 s6:=by
 intro n
 induction n with
 | zero=>intros; rfl
 | succ n IH =>
 intro t0 s5 s6
 have ih:(fun t0 s5 s6=>evLP E_z56 n (sub C_z56 [1,0,1,0,0]) K (qnl t0 s5 s6))=qiz (qjN K) (K (.exit 0) (frOf [])) n:=by
  funext t0 s5 s6
  exact IH t0 s5 s6
 show _=qdi (qjN K) (K (.exit 0) (frOf [])) (qiz (qjN K) (K (.exit 0) (frOf [])) n) n t0 s5 s6
 rw [← ih]
 kernel_rfl
theorem qll (n:Nat)  : (qjO n) (.exit 0) (frOf [])=qeI n  := by
 kernel_rfl
theorem qyQ (n:Nat) (t0:List Int) (o0:Lab):evFnP E_z56 n C_z56 R_z56 [.dat (.sl (.int .i32)) t0 o0]=qru n t0:=by
 unfold qru
 rw [show qiz qhx (qeI n) n=(fun t0 s5 s6=>evLP E_z56 n (sub C_z56 [1,0,1,0,0]) (qjO n) (qnl t0 s5 s6)) from by
  funext t0 s5 s6
  refine Eq.trans ?_ (qqc (qjO n) n t0 s5 s6).symm
  rw [show ((qjO n) (.exit 0) (frOf []))=(qeI n) from by
   exact qll n ]
  all_goals kernel_rfl]
 kernel_rfl
theorem qqd:qg Gc Tryd.prog 56 s_z56:=by
 refine sQ (E:=E_z56) (c:=C_z56) rfl (fun w S hg=>(qb (qju w S hg) qd)) Tryd.func56 ?_
 intro avs r h
 unfold s_z56 at h
 split at h
 ·obtain ⟨hp,rfl⟩:=Prod.mk.inj h
  obtain ⟨n,hn⟩:=qvK _ hp
  exact ⟨n,_,(qyQ n _ _).trans hn,.inl rfl⟩
 ·cases h
def E_z38:EnvP:=eQ [(56,s_z56)] 27 (some [2,3]) (fun x=>if x=5 then some [4,13,14,15] else none) (fun x=>if x=0 then some [4] else if x=1 then some [4,13,14,15] else none) (fun x=>if x=12 then some (.psl 5 (.leaf .byte)) else none)
def C_z38:Code:=cO Tryd.f38
def R_z38:Array ResultVar:=Tryd.f38.results
noncomputable def qhh (K:Ex→Fr→Option AV):=fun s4=>K (.exit 0) (frOf [(4,(.pv (.psl 5 (.leaf .byte)) s4 none))])
def qjP (n:Nat):Ex→Fr→Option AV:=qN 0 (E_z38.cutb 0) (kSeq (evCP E_z38 (evLP E_z38 n) (sub C_z38 [1,1,1,1])) (kFnP E_z38 R_z38))
def qnm (s4:List UInt8) (s13:List Int) (s14:Int) (s15:Int):Fr:=frOf [(4,(.pv (.psl 5 (.leaf .byte)) s4 none)),(13,(.dat (.sl (.int .i32)) s13 none)),(14,(.dat (.int .i64) s14 none)),(15,(.dat (.int .i64) s15 none))]
theorem qqe (K:Ex→Fr→Option AV):∀ (n:Nat) (s4:List UInt8) (s13:List Int) (s14:Int) (s15:Int),evLP E_z38 n (sub C_z38 [1,1,1,0,1,0,0]) K (qnm s4 s13 s14 s15)=qgh (qhh K) n s4 s13 s14 s15:=by
 intro n
 induction n with
 | zero=>intros; rfl
 | succ n IH =>
 intro s4 s13 s14 s15
 have ih:(fun s4 s13 s14 s15=>evLP E_z38 n (sub C_z38 [1,1,1,0,1,0,0]) K (qnm s4 s13 s14 s15))=qgh (qhh K) n:=by
  funext s4 s13 s14 s15
  exact IH s4 s13 s14 s15
 show _=qdj (qhh K) (qgh (qhh K) n) n s4 s13 s14 s15
 rw [← ih]
 kernel_rfl
theorem qlm (n:Nat) (s4:List UInt8):(qjP n) (.exit 0) (frOf [(4,(.pv (.psl 5 (.leaf .byte)) s4 none))])=qdk n s4:=by
 kernel_rfl
theorem qyR (n:Nat) (t0:List Int) (o0:Lab):evFnP E_z38 n C_z38 R_z38 [.dat (.sl (.int .i32)) t0 o0]=qrv n t0:=by
 unfold qrv
 rw [show qgh (qdk n) n=(fun s4 s13 s14 s15=>evLP E_z38 n (sub C_z38 [1,1,1,0,1,0,0]) (qjP n) (qnm s4 s13 s14 s15)) from by
  funext s4 s13 s14 s15
  refine Eq.trans ?_ (qqe (qjP n) n s4 s13 s14 s15).symm
  rw [show (qhh (qjP n))=(qdk n) from by
   funext s4
   exact qlm n s4]
  all_goals kernel_rfl]
 kernel_rfl
theorem qqf:qg Gc Tryd.prog 38 s_z38:=by
 refine sQ (E:=E_z38) (c:=C_z38) rfl (fun w S hg=>(qb (qqd w S hg) qd)) Tryd.func38 ?_
 intro avs r h
 unfold s_z38 at h
 split at h
 ·obtain ⟨hp,rfl⟩:=Prod.mk.inj h
  obtain ⟨n,hn⟩:=qvV _ hp
  exact ⟨n,_,(qyR n _ _).trans hn,.inl rfl⟩
 ·cases h
def E_z23:EnvP:=eQ [(33,s_z33),(34,s_z34),(35,s_z35),(36,s_z36),(37,s_z37),(38,s_z38)] 38 (some [1000004,5]) nC (fun x=>if x=0 then some [0,1] else if x=1 then some [1] else none) nP
def C_z23:Code:=cO Tryd.f23
def R_z23:Array ResultVar:=Tryd.f23.results
theorem qyS (n:Nat) (charset0:Int) (o0:Lab) (t1:List Int) (o1:Lab):evFnP E_z23 n C_z23 R_z23 [.dat (.int .i64) charset0 o0,.dat (.sl (.int .i32)) t1 o1]=quy n charset0 t1:=by
 kernel_rfl
theorem qjQ:qg Gc Tryd.prog 23 s_z23:=by
 refine sQ (E:=E_z23) (c:=C_z23) rfl (fun w S hg=>(qb (qjt w S hg) (qb (qpL w S hg) (qb (qpV w S hg) (qb (qpX w S hg) (qb (qqb w S hg) (qb (qqf w S hg) qd))))))) Tryd.func23 ?_
 intro avs r h
 unfold s_z23 at h
 split at h
 ·obtain ⟨hp,rfl⟩:=Prod.mk.inj h
  obtain ⟨n,hn⟩:=qwc _ _ hp
  exact ⟨n,_,(qyS n _ _ _ _).trans hn,.inl rfl⟩
 ·cases h
def E_z42:EnvP:=eQ [] 10 (some [2]) nC nC nP
def C_z42:Code:=cO Tryd.f42
def R_z42:Array ResultVar:=Tryd.f42.results
theorem qyT (n:Nat) (n0:Int) (o0:Lab):evFnP E_z42 n C_z42 R_z42 [.dat (.int .i64) n0 o0]=quz n n0:=by
 kernel_rfl
theorem qqg:qg Gc Tryd.prog 42 s_z42:=by
 refine sQ (E:=E_z42) (c:=C_z42) rfl (fun w S hg=>qd) Tryd.func42 ?_
 intro avs r h
 unfold s_z42 at h
 split at h <;> cases h
 obtain ⟨n,hn⟩:=qvv _
 exact ⟨n,_,(qyT n _ _).trans hn,.inl rfl⟩
def E_z86:EnvP:=eQ [] 46 (some [2]) nC (fun x=>if x=0 then some [3] else none) nP
def C_z86:Code:=cO Tryd.f86
def R_z86:Array ResultVar:=Tryd.f86.results
theorem qyU (n:Nat) (c0:UInt8) (o0:Lab):evFnP E_z86 n C_z86 R_z86 [.dat .byte c0 o0]=quA n c0:=by
 kernel_rfl
theorem qqh:qg Gc Tryd.prog 86 s_z86:=by
 refine sQ (E:=E_z86) (c:=C_z86) rfl (fun w S hg=>qd) Tryd.func86 ?_
 intro avs r h
 unfold s_z86 at h
 split at h <;> cases h
 obtain ⟨n,hn⟩:=qva _
 exact ⟨n,_,(qyU n _ _).trans hn,.inl rfl⟩
def E_z89:EnvP:=eQ [(90,s_z90)] 8 (some [4]) nC nC nP
def C_z89:Code:=cO Tryd.f89
def R_z89:Array ResultVar:=Tryd.f89.results
theorem qyV (n:Nat) (s0:List UInt8) (o0:Lab) (c1:UInt8) (o1:Lab):evFnP E_z89 n C_z89 R_z89 [.dat .str s0 o0,.dat .byte c1 o1]=qxw n s0 c1:=by
 kernel_rfl
theorem qqi:qg Gc Tryd.prog 89 s_z89:=by
 refine sQ (E:=E_z89) (c:=C_z89) rfl (fun w S hg=>(qb (qpy w S hg) qd)) Tryd.func89 ?_
 intro avs r h
 unfold s_z89 at h
 split at h <;> cases h
 obtain ⟨n,hn⟩:=qvb _ _
 exact ⟨n,_,(qyV n _ _ _ _).trans hn,.inl rfl⟩
def E_z88:EnvP:=eQ [(89,s_z89)] 8 (some [4]) nC nC nP
def C_z88:Code:=cO Tryd.f88
def R_z88:Array ResultVar:=Tryd.f88.results
theorem qyW (n:Nat) (s0:List UInt8) (o0:Lab) (c1:UInt8) (o1:Lab):evFnP E_z88 n C_z88 R_z88 [.dat .str s0 o0,.dat .byte c1 o1]=qxx n s0 c1:=by
 kernel_rfl
theorem qqj:qg Gc Tryd.prog 88 s_z88:=by
 refine sQ (E:=E_z88) (c:=C_z88) rfl (fun w S hg=>(qb (qqi w S hg) qd)) Tryd.func88 ?_
 intro avs r h
 unfold s_z88 at h
 split at h <;> cases h
 obtain ⟨n,hn⟩:=qvc _ _
 exact ⟨n,_,(qyW n _ _ _ _).trans hn,.inl rfl⟩
def E_z87:EnvP:=eQ [(88,s_z88)] 9 (some [4]) nC nC nP
def C_z87:Code:=cO Tryd.f87
def R_z87:Array ResultVar:=Tryd.f87.results
theorem qyX (n:Nat) (s0:List UInt8) (o0:Lab) (c1:UInt8) (o1:Lab):evFnP E_z87 n C_z87 R_z87 [.dat .str s0 o0,.dat .byte c1 o1]=qxy n s0 c1:=by
 kernel_rfl
theorem qqk:qg Gc Tryd.prog 87 s_z87:=by
 refine sQ (E:=E_z87) (c:=C_z87) rfl (fun w S hg=>(qb (qqj w S hg) qd)) Tryd.func87 ?_
 intro avs r h
 unfold s_z87 at h
 split at h <;> cases h
 obtain ⟨n,hn⟩:=qvd _ _
 exact ⟨n,_,(qyX n _ _ _ _).trans hn,.inl rfl⟩
def E_z82:EnvP:=eQ [(86,s_z86),(87,s_z87)] 35 (some [2]) nC nC nP
def C_z82:Code:=cO Tryd.f82
def R_z82:Array ResultVar:=Tryd.f82.results
theorem qyY (n:Nat) (c0:UInt8) (o0:Lab):evFnP E_z82 n C_z82 R_z82 [.dat .byte c0 o0]=quB n c0:=by
 kernel_rfl
theorem qql:qg Gc Tryd.prog 82 s_z82:=by
 refine sQ (E:=E_z82) (c:=C_z82) rfl (fun w S hg=>(qb (qqh w S hg) (qb (qqk w S hg) qd))) Tryd.func82 ?_
 intro avs r h
 unfold s_z82 at h
 split at h <;> cases h
 obtain ⟨n,hn⟩:=qve _
 exact ⟨n,_,(qyY n _ _).trans hn,.inl rfl⟩
end
end Go.Av
