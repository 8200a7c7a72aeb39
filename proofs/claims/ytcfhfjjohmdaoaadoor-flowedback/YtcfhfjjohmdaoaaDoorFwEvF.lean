import Derived.Test.YtcfhfjjohmdaoaaDoorFwEvE
import Derived.Test.YtcfhfjjohmdaoaaDoorFwWalk
import Derived.Test.YtcfhfjjohmdaoaaDoorProg
import Derived.KernelRfl
namespace Go.Av
set_option linter.unusedSimpArgs false
noncomputable section
open Go.Proofs
set_option maxRecDepth 100000
set_option linter.unusedVariables false
def E_z71:EnvP:=eQ [] 69 (some [2,3]) (fun x=>if x=3 then some [0,4,5] else none) (fun x=>if x=0 then some [4] else if x=1 then some [0,4,5] else none) (fun x=>if x=2 then some (.psl 22 (.osl 5 .byte)) else if x=8 then some (.psl 22 (.osl 5 .byte)) else if x=39 then some (.psl 22 (.osl 5 .byte)) else if x=40 then some (.psl 22 (.osl 5 .byte)) else if x=54 then some (.osl 5 .byte) else none)
def C_z71:Code:=cO Tryd.f71
def R_z71:Array ResultVar:=Tryd.f71.results
noncomputable def qjS (K:Ex→Fr→Option AV):=fun out4=>K (.exit 0) (frOf [(4,(.pv (.psl 22 (.osl 5 .byte)) out4 none))])
def qmC (n:Nat):Ex→Fr→Option AV:=qL 0 (E_z71.cutb 0) (kSeq (evCP E_z71 (evLP E_z71 n) (sub C_z71 [1,1,1])) (kFnP E_z71 R_z71))
def qqu (s0:List UInt8) (out4:List (List UInt8)) (i5:Int):Fr:=frOf [(0,da s0),(4,(.pv (.psl 22 (.osl 5 .byte)) out4 none)),(5,dc i5)]
theorem qsF (K:Ex→Fr→Option AV):∀ (n:Nat) (s0:List UInt8) (out4:List (List UInt8)) (i5:Int),evLP E_z71 n (sub C_z71 [1,1,0,1,0,0]) K (qqu s0 out4 i5)=qiQ (qjS K) n s0 out4 i5:=by
 intro n;induction n with
 | zero=>intros; rfl
 | succ n IH =>
 intro s0 out4 i5;have ih:(fun s0 out4 i5=>evLP E_z71 n (sub C_z71 [1,1,0,1,0,0]) K (qqu s0 out4 i5))=qiQ (qjS K) n:=by
  funext s0 out4 i5;exact IH s0 out4 i5
 show _=qiP (qjS K) (qiQ (qjS K) n) n s0 out4 i5;rw [← ih];kernel_rfl
theorem qnY (n:Nat) (out4:List (List UInt8)):(qmC n) (.exit 0) (frOf [(4,(.pv (.psl 22 (.osl 5 .byte)) out4 none))])=qeB n out4:=by
 kernel_rfl
theorem qxV (n:Nat) (s0:List UInt8) (o0:Lab):evFnP E_z71 n C_z71 R_z71 [db s0 o0]=qtm n s0:=by
 unfold qtm;rw [show qiQ (qeB n) n=(fun s0 out4 i5=>evLP E_z71 n (sub C_z71 [1,1,0,1,0,0]) (qmC n) (qqu s0 out4 i5)) from by
  funext s0 out4 i5;refine Eq.trans ?_ (qsF (qmC n) n s0 out4 i5).symm;rw [show (qjS (qmC n))=(qeB n) from by
   funext out4;exact qnY n out4]
  all_goals kernel_rfl]
 kernel_rfl
theorem qsG:qp G Tryd.prog 71 s_z71:=by
 refine sQ (E:=E_z71) (c:=C_z71) rfl (fun w S hg=>ql) Tryd.func71 ?_;intro avs r h;unfold s_z71 at h;split at h
 ·obtain ⟨hp,rfl⟩:=yj h;obtain ⟨n,hn⟩:=qvZ _ hp;exact ⟨n,_,(qxV n _ _).trans hn,.inl rfl⟩
 ·cases h
def E_z37:EnvP:=eQ [(43,s_z43),(45,s_z45),(47,s_z47),(71,s_z71)] 73 (some [2]) (fun x=>if x=5 then some [3,5,6,7] else none) (fun x=>if x=0 then some [5] else if x=1 then some [3,5,6,7] else none) (fun x=>if x=5 then some (.psl 79 (.ppair (.leaf (.int .i64)) (.ppair (.leaf (.sl .byte)) (.leaf .unit)))) else if x=66 then some (.psl 79 (.ppair (.leaf (.int .i64)) (.ppair (.leaf (.sl .byte)) (.leaf .unit)))) else none)
def C_z37:Code:=cO Tryd.f37
def R_z37:Array ResultVar:=Tryd.f37.results
noncomputable def qjT (K:Ex→Fr→Option AV):=fun out5=>K (.exit 0) (frOf [(5,(.pv (.psl 79 (.ppair (.leaf (.int .i64)) (.ppair (.leaf (.sl .byte)) (.leaf .unit)))) out5 none))])
def qmD (n:Nat):Ex→Fr→Option AV:=qL 0 (E_z37.cutb 0) (kSeq (evCP E_z37 (evLP E_z37 n) (sub C_z37 [1,1,1,1,1])) (kFnP E_z37 R_z37))
def qqv (l3:List (List UInt8)) (out5:List (Int×((List UInt8)×Unit))) (open6:Bool) (i7:Int):Fr:=frOf [(3,(.dat (.sl (.sl .byte)) l3 none)),(5,(.pv (.psl 79 (.ppair (.leaf (.int .i64)) (.ppair (.leaf (.sl .byte)) (.leaf .unit)))) out5 none)),(6,dg open6),(7,dc i7)]
theorem qsH (K:Ex→Fr→Option AV):∀ (n:Nat) (l3:List (List UInt8)) (out5:List (Int×((List UInt8)×Unit))) (open6:Bool) (i7:Int),evLP E_z37 n (sub C_z37 [1,1,1,1,0,1,0,0]) K (qqv l3 out5 open6 i7)=qgB (qjT K) n l3 out5 open6 i7:=by
 intro n;induction n with
 | zero=>intros; rfl
 | succ n IH =>
 intro l3 out5 open6 i7;have ih:(fun l3 out5 open6 i7=>evLP E_z37 n (sub C_z37 [1,1,1,1,0,1,0,0]) K (qqv l3 out5 open6 i7))=qgB (qjT K) n:=by
  funext l3 out5 open6 i7;exact IH l3 out5 open6 i7
 show _=qeC (qjT K) (qgB (qjT K) n) n l3 out5 open6 i7;rw [← ih];kernel_rfl
theorem qnZ (n:Nat) (out5:List (Int×((List UInt8)×Unit))):(qmD n) (.exit 0) (frOf [(5,(.pv (.psl 79 (.ppair (.leaf (.int .i64)) (.ppair (.leaf (.sl .byte)) (.leaf .unit)))) out5 none))])=qgC n out5:=by
 kernel_rfl
theorem qxW (n:Nat) (s0:List UInt8) (o0:Lab):evFnP E_z37 n C_z37 R_z37 [db s0 o0]=qtn n s0:=by
 unfold qtn;rw [show qgB (qgC n) n=(fun l3 out5 open6 i7=>evLP E_z37 n (sub C_z37 [1,1,1,1,0,1,0,0]) (qmD n) (qqv l3 out5 open6 i7)) from by
  funext l3 out5 open6 i7;refine Eq.trans ?_ (qsH (qmD n) n l3 out5 open6 i7).symm;rw [show (qjT (qmD n))=(qgC n) from by
   funext out5;exact qnZ n out5]
  all_goals kernel_rfl]
 kernel_rfl
theorem qsI:qp G Tryd.prog 37 s_z37:=by
 refine sQ (E:=E_z37) (c:=C_z37) rfl (fun w S hg=>(qb (qio w S hg) (qb (qip w S hg) (qb (qmB w S hg) (qb (qsG w S hg) ql))))) Tryd.func37 ?_;intro avs r h;unfold s_z37 at h;split at h
 ·obtain ⟨hp,rfl⟩:=yj h;obtain ⟨n,hn⟩:=qvj _ hp;exact ⟨n,_,(qxW n _ _).trans hn,.inl rfl⟩
 ·cases h
def E_z9:EnvP:=eQ [(34,s_z34),(35,s_z35),(36,s_z36),(37,s_z37)] 15 (some [2]) nC nC nP
def C_z9:Code:=cO Tryd.f9
def R_z9:Array ResultVar:=Tryd.f9.results
theorem z9_ev (n:Nat) (s0:List UInt8) (o0:Lab):evFnP E_z9 n C_z9 R_z9 [db s0 o0]=z9_sh n s0:=by
 kernel_rfl
theorem quM:qp G Tryd.prog 9 s_z9:=by
 refine sQ (E:=E_z9) (c:=C_z9) rfl (fun w S hg=>(qb (qfv w S hg) (qb (qmz w S hg) (qb (qil w S hg) (qb (qsI w S hg) ql))))) Tryd.func9 ?_;intro avs r h;unfold s_z9 at h;split at h <;> cases h
 obtain ⟨n,hn⟩:=qwV _;exact ⟨n,_,(z9_ev n _ _).trans hn,.inl rfl⟩
def E_z38:EnvP:=eQ [] 23 (some [2]) (fun x=>if x=2 then some [0,9,10,11] else none) (fun x=>if x=0 then some [0] else if x=1 then some [0,9,10,11] else none) nP
def C_z38:Code:=cO Tryd.f38
def R_z38:Array ResultVar:=Tryd.f38.results
noncomputable def qjU (K:Ex→Fr→Option AV):=fun l0=>K (.exit 0) (frOf [(0,(.dat (.sl (.pair (.int .i64) (.pair (.sl .byte) .unit))) l0 none))])
noncomputable def qmE (K:Ex→Fr→Option AV):=fun s2=>K .ret (frOf [(2,dg s2)])
def qmF (n:Nat):Ex→Fr→Option AV:=qL 0 (E_z38.cutb 0) (kSeq (evCP E_z38 (evLP E_z38 n) (sub C_z38 [1,1])) (kFnP E_z38 R_z38))
def qqw (l0:List (Int×((List UInt8)×Unit))) (s9:List (Int×((List UInt8)×Unit))) (s10:Int) (s11:Int):Fr:=frOf [(0,(.dat (.sl (.pair (.int .i64) (.pair (.sl .byte) .unit))) l0 none)),(9,(.dat (.sl (.pair (.int .i64) (.pair (.sl .byte) .unit))) s9 none)),(10,dc s10),(11,dc s11)]
theorem qsJ (K:Ex→Fr→Option AV):∀ (n:Nat) (l0:List (Int×((List UInt8)×Unit))) (s9:List (Int×((List UInt8)×Unit))) (s10:Int) (s11:Int),evLP E_z38 n (sub C_z38 [1,0,1,0,0]) K (qqw l0 s9 s10 s11)=qgE (qmE K) (qjU K) n l0 s9 s10 s11:=by
 intro n;induction n with
 | zero=>intros; rfl
 | succ n IH =>
 intro l0 s9 s10 s11;have ih:(fun l0 s9 s10 s11=>evLP E_z38 n (sub C_z38 [1,0,1,0,0]) K (qqw l0 s9 s10 s11))=qgE (qmE K) (qjU K) n:=by
  funext l0 s9 s10 s11;exact IH l0 s9 s10 s11
 show _=qeD (qmE K) (qjU K) (qgE (qmE K) (qjU K) n) n l0 s9 s10 s11;rw [← ih];kernel_rfl
theorem qoa (n:Nat) (l0:List (Int×((List UInt8)×Unit))):(qmF n) (.exit 0) (frOf [(0,(.dat (.sl (.pair (.int .i64) (.pair (.sl .byte) .unit))) l0 none))])=qgF n l0:=by
 kernel_rfl
theorem qxX (n:Nat) (l0:List (Int×((List UInt8)×Unit))) (o0:Lab):evFnP E_z38 n C_z38 R_z38 [.dat (.sl (.pair (.int .i64) (.pair (.sl .byte) .unit))) l0 o0]=qtp n l0:=by
 unfold qtp qcM;rw [show qgE qgD (qgF n) n=(fun l0 s9 s10 s11=>evLP E_z38 n (sub C_z38 [1,0,1,0,0]) (qmF n) (qqw l0 s9 s10 s11)) from by
  funext l0 s9 s10 s11;refine Eq.trans ?_ (qsJ (qmF n) n l0 s9 s10 s11).symm;rw [show (qjU (qmF n))=(qgF n) from by
   funext l0;exact qoa n l0]
  all_goals kernel_rfl]
 kernel_rfl
theorem qmG:qp G Tryd.prog 38 s_z38:=by
 refine sQ (E:=E_z38) (c:=C_z38) rfl (fun w S hg=>ql) Tryd.func38 ?_;intro avs r h;unfold s_z38 at h;split at h
 ·obtain ⟨hp,rfl⟩:=yj h;obtain ⟨n,hn⟩:=qvo _ hp;exact ⟨n,_,(qxX n _ _).trans hn,.inl rfl⟩
 ·cases h
def E_z40:EnvP:=eQ [] 18 (some [2]) (fun x=>if x=3 then some [3,6,7,8] else none) (fun x=>if x=0 then some [3] else if x=1 then some [3,6,7,8] else none) nP
def C_z40:Code:=cO Tryd.f40
def R_z40:Array ResultVar:=Tryd.f40.results
noncomputable def qjV (K:Ex→Fr→Option AV):=fun out3=>K (.exit 0) (frOf [(3,(.dat (.sl (.pair (.int .i64) (.pair (.sl .byte) .unit))) out3 (some (3,77))))])
def qmH (n:Nat):Ex→Fr→Option AV:=qL 0 (E_z40.cutb 0) (kSeq (evCP E_z40 (evLP E_z40 n) (sub C_z40 [1,1,1])) (kFnP E_z40 R_z40))
def qqx (out3:List (Int×((List UInt8)×Unit))) (s6:List (Int×((List UInt8)×Unit))) (s7:Int) (s8:Int):Fr:=frOf [(3,(.dat (.sl (.pair (.int .i64) (.pair (.sl .byte) .unit))) out3 (some (3,77)))),(6,(.dat (.sl (.pair (.int .i64) (.pair (.sl .byte) .unit))) s6 none)),(7,dc s7),(8,dc s8)]
theorem qsK (K:Ex→Fr→Option AV):∀ (n:Nat) (out3:List (Int×((List UInt8)×Unit))) (s6:List (Int×((List UInt8)×Unit))) (s7:Int) (s8:Int),evLP E_z40 n (sub C_z40 [1,1,0,1,0,0]) K (qqx out3 s6 s7 s8)=qgG (qjV K) n out3 s6 s7 s8:=by
 intro n;induction n with
 | zero=>intros; rfl
 | succ n IH =>
 intro out3 s6 s7 s8;have ih:(fun out3 s6 s7 s8=>evLP E_z40 n (sub C_z40 [1,1,0,1,0,0]) K (qqx out3 s6 s7 s8))=qgG (qjV K) n:=by
  funext out3 s6 s7 s8;exact IH out3 s6 s7 s8
 show _=qeE (qjV K) (qgG (qjV K) n) n out3 s6 s7 s8;rw [← ih];kernel_rfl
theorem qob (n:Nat) (out3:List (Int×((List UInt8)×Unit))):(qmH n) (.exit 0) (frOf [(3,(.dat (.sl (.pair (.int .i64) (.pair (.sl .byte) .unit))) out3 (some (3,77))))])=qgH n out3:=by
 kernel_rfl
theorem qxY (n:Nat) (l0:List (Int×((List UInt8)×Unit))) (o0:Lab):evFnP E_z40 n C_z40 R_z40 [.dat (.sl (.pair (.int .i64) (.pair (.sl .byte) .unit))) l0 o0]=qtq n l0:=by
 unfold qtq;rw [show qgG (qgH n) n=(fun out3 s6 s7 s8=>evLP E_z40 n (sub C_z40 [1,1,0,1,0,0]) (qmH n) (qqx out3 s6 s7 s8)) from by
  funext out3 s6 s7 s8;refine Eq.trans ?_ (qsK (qmH n) n out3 s6 s7 s8).symm;rw [show (qjV (qmH n))=(qgH n) from by
   funext out3;exact qob n out3]
  all_goals kernel_rfl]
 kernel_rfl
theorem qmI:qp G Tryd.prog 40 s_z40:=by
 refine sQ (E:=E_z40) (c:=C_z40) rfl (fun w S hg=>ql) Tryd.func40 ?_;intro avs r h;unfold s_z40 at h;split at h
 ·obtain ⟨hp,rfl⟩:=yj h;obtain ⟨n,hn⟩:=qvp _ hp;exact ⟨n,_,(qxY n _ _).trans hn,.inl rfl⟩
 ·cases h
def E_z49:EnvP:=eQ [] 53 (some [4]) (fun x=>if x=3 then some [0,1,5,6] else none) (fun x=>if x=0 then some [0,1,5] else if x=1 then some [0,1,5,6] else none) nP
def C_z49:Code:=cO Tryd.f49
def R_z49:Array ResultVar:=Tryd.f49.results
noncomputable def qjW (K:Ex→Fr→Option AV):=fun depth0 text1 out5=>K (.exit 0) (frOf [(0,dc depth0),(1,da text1),(5,(db out5 (some (5,5))))])
def qmJ (n:Nat):Ex→Fr→Option AV:=qL 0 (E_z49.cutb 0) (kSeq (evCP E_z49 (evLP E_z49 n) (sub C_z49 [1,1,1])) (kFnP E_z49 R_z49))
def qqy (depth0:Int) (text1:List UInt8) (out5:List UInt8) (i6:Int):Fr:=frOf [(0,dc depth0),(1,da text1),(5,(db out5 (some (5,5)))),(6,dc i6)]
theorem qsL (K:Ex→Fr→Option AV):∀ (n:Nat) (depth0:Int) (text1:List UInt8) (out5:List UInt8) (i6:Int),evLP E_z49 n (sub C_z49 [1,1,0,1,0,0]) K (qqy depth0 text1 out5 i6)=qgI (qjW K) n depth0 text1 out5 i6:=by
 intro n;induction n with
 | zero=>intros; rfl
 | succ n IH =>
 intro depth0 text1 out5 i6;have ih:(fun depth0 text1 out5 i6=>evLP E_z49 n (sub C_z49 [1,1,0,1,0,0]) K (qqy depth0 text1 out5 i6))=qgI (qjW K) n:=by
  funext depth0 text1 out5 i6;exact IH depth0 text1 out5 i6
 show _=qeF (qjW K) (qgI (qjW K) n) n depth0 text1 out5 i6;rw [← ih];kernel_rfl
theorem qoc (n:Nat) (depth0:Int) (text1:List UInt8) (out5:List UInt8):(qmJ n) (.exit 0) (frOf [(0,dc depth0),(1,da text1),(5,(db out5 (some (5,5))))])=qdl n depth0 text1 out5:=by
 kernel_rfl
theorem qxZ (n:Nat) (depth0:Int) (o0:Lab) (text1:List UInt8) (o1:Lab):evFnP E_z49 n C_z49 R_z49 [de depth0 o0,db text1 o1]=qtr n depth0 text1:=by
 unfold qtr;rw [show qgI (qdl n) n=(fun depth0 text1 out5 i6=>evLP E_z49 n (sub C_z49 [1,1,0,1,0,0]) (qmJ n) (qqy depth0 text1 out5 i6)) from by
  funext depth0 text1 out5 i6;refine Eq.trans ?_ (qsL (qmJ n) n depth0 text1 out5 i6).symm;rw [show (qjW (qmJ n))=(qdl n) from by
   funext depth0 text1 out5;exact qoc n depth0 text1 out5]
  all_goals kernel_rfl]
 kernel_rfl
theorem qiq:qp G Tryd.prog 49 s_z49:=by
 refine sQ (E:=E_z49) (c:=C_z49) rfl (fun w S hg=>ql) Tryd.func49 ?_;intro avs r h;unfold s_z49 at h;split at h
 ·obtain ⟨hp,rfl⟩:=yj h;obtain ⟨n,hn⟩:=qvk _ _ hp;exact ⟨n,_,(qxZ n _ _ _ _).trans hn,.inl rfl⟩
 ·cases h
end
end Go.Av
