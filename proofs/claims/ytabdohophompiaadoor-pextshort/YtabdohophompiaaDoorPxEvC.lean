import Derived.Test.YtabdohophompiaaDoorPxEvB
import Derived.Test.YtabdohophompiaaDoorPxN
import Derived.Test.YtabdohophompiaaDoorProg
import Derived.KernelRfl
namespace Go.Av
set_option linter.unusedSimpArgs false
noncomputable section
open Go.Proofs
set_option maxRecDepth 100000
set_option linter.unusedVariables false
def E_z15:EnvP:=eQ [(30,s_z30)] 6 (some [2]) nC nC nP
def C_z15:Code:=cO Tryd.f15
def R_z15:Array ResultVar:=Tryd.f15.results
theorem qxF (n:Nat) (t0:List Int) (o0:Lab):evFnP E_z15 n C_z15 R_z15 [.dat (.sl (.int .i32)) t0 o0]=quk n t0:=by
 kernel_rfl
theorem qjM:qk G Tryd.prog 15 s_z15:=by
 refine sQ (E:=E_z15) (c:=C_z15) rfl (fun w S hg=>(qb (qqa w S hg) qe)) Tryd.func15 ?_;intro avs r h;unfold s_z15 at h;split at h
 ·obtain ⟨hp,rfl⟩:=yj h;obtain ⟨n,hn⟩:=qvn _ hp;exact ⟨n,_,(qxF n _ _).trans hn,.inl rfl⟩
 ·cases h
def E_z31:EnvP:=eQ [] 19 (some [4]) (fun x=>if x=2 then some [0,1,7,8] else none) (fun x=>if x=0 then some [] else if x=1 then some [0,1,7,8] else none) nP
def C_z31:Code:=cO Tryd.f31
def R_z31:Array ResultVar:=Tryd.f31.results
noncomputable def qjN (K:Ex→Fr→Option AV):=fun s4=>K .ret (frOf [(4,dc s4)])
def qjO (n:Nat):Ex→Fr→Option AV:=qL 0 (E_z31.cutb 0) (kSeq (evCP E_z31 (evLP E_z31 n) (sub C_z31 [1,1])) (kFnP E_z31 R_z31))
def qnk (s0:List Int) (v1:Int) (s7:Int) (s8:Int):Fr:=frOf [(0,(.dat (.sl (.int .i32)) s0 none)),(1,(dh v1 none)),(7,dc s7),(8,dc s8)]
theorem qqb (K:Ex→Fr→Option AV):∀ (n:Nat) (s0:List Int) (v1:Int) (s7:Int) (s8:Int),evLP E_z31 n (sub C_z31 [1,0,1,0,0]) K (qnk s0 v1 s7 s8)=qiL (qjN K) (K (.exit 0) (frOf [])) n s0 v1 s7 s8:=by
 intro n;induction n with
 | zero=>intros; rfl
 | succ n IH =>
 intro s0 v1 s7 s8;have ih:(fun s0 v1 s7 s8=>evLP E_z31 n (sub C_z31 [1,0,1,0,0]) K (qnk s0 v1 s7 s8))=qiL (qjN K) (K (.exit 0) (frOf [])) n:=by
  funext s0 v1 s7 s8;exact IH s0 v1 s7 s8
 show _=qdk (qjN K) (K (.exit 0) (frOf [])) (qiL (qjN K) (K (.exit 0) (frOf [])) n) n s0 v1 s7 s8;rw [← ih];kernel_rfl
theorem qli (n:Nat)  : (qjO n) (.exit 0) (frOf [])=qfg n  := by
 kernel_rfl
theorem qxG (n:Nat) (s0:List Int) (o0:Lab) (v1:Int) (o1:Lab):evFnP E_z31 n C_z31 R_z31 [.dat (.sl (.int .i32)) s0 o0,dh v1 o1]=qrp n s0 v1:=by
 unfold qrp;rw [show qiL qhV (qfg n) n=(fun s0 v1 s7 s8=>evLP E_z31 n (sub C_z31 [1,0,1,0,0]) (qjO n) (qnk s0 v1 s7 s8)) from by
  funext s0 v1 s7 s8;refine Eq.trans ?_ (qqb (qjO n) n s0 v1 s7 s8).symm;rw [show ((qjO n) (.exit 0) (frOf []))=(qfg n) from by
   exact qli n ]
  all_goals kernel_rfl]
 kernel_rfl
theorem qjP:qk G Tryd.prog 31 s_z31:=by
 refine sQ (E:=E_z31) (c:=C_z31) rfl (fun w S hg=>qe) Tryd.func31 ?_;intro avs r h;unfold s_z31 at h;split at h
 ·obtain ⟨hp,rfl⟩:=yj h;obtain ⟨n,hn⟩:=qvi _ _ hp;exact ⟨n,_,(qxG n _ _ _ _).trans hn,.inl rfl⟩
 ·cases h
def E_z16:EnvP:=eQ [(31,s_z31)] 9 (some [4]) nC nC nP
def C_z16:Code:=cO Tryd.f16
def R_z16:Array ResultVar:=Tryd.f16.results
theorem qxH (n:Nat) (s0:List Int) (o0:Lab) (v1:Int) (o1:Lab):evFnP E_z16 n C_z16 R_z16 [.dat (.sl (.int .i32)) s0 o0,dh v1 o1]=qul n s0 v1:=by
 kernel_rfl
theorem qqc:qk G Tryd.prog 16 s_z16:=by
 refine sQ (E:=E_z16) (c:=C_z16) rfl (fun w S hg=>(qb (qjP w S hg) qe)) Tryd.func16 ?_;intro avs r h;unfold s_z16 at h;split at h
 ·obtain ⟨hp,rfl⟩:=yj h;obtain ⟨n,hn⟩:=qtP _ _ hp;exact ⟨n,_,(qxH n _ _ _ _).trans hn,.inl rfl⟩
 ·cases h
def E_z7:EnvP:=eQ [(14,s_z14),(15,s_z15),(16,s_z16)] 16 (some [4]) nC (fun x=>if x=0 then some [] else none) nP
def C_z7:Code:=cO Tryd.f7
def R_z7:Array ResultVar:=Tryd.f7.results
theorem z7_ev (n:Nat) (name0:List UInt8) (o0:Lab) (t1:List Int) (o1:Lab):evFnP E_z7 n C_z7 R_z7 [db name0 o0,.dat (.sl (.int .i32)) t1 o1]=z7_sh n name0 t1:=by
 kernel_rfl
theorem qtq:qk G Tryd.prog 7 s_z7:=by
 refine sQ (E:=E_z7) (c:=C_z7) rfl (fun w S hg=>(qb (qpU w S hg) (qb (qjM w S hg) (qb (qqc w S hg) qe)))) Tryd.func7 ?_;intro avs r h;unfold s_z7 at h;split at h
 ·obtain ⟨hp,rfl⟩:=yj h;obtain ⟨n,hn⟩:=qwA _ _ hp;exact ⟨n,_,(z7_ev n _ _ _ _).trans hn,.inl rfl⟩
 ·cases h
def E_z32:EnvP:=eQ [(49,s_z49)] 9 (some [4]) nC nC nP
def C_z32:Code:=cO Tryd.f32
def R_z32:Array ResultVar:=Tryd.f32.results
theorem qxI (n:Nat) (s0:List Int) (o0:Lab):evFnP E_z32 n C_z32 R_z32 [.dat (.sl (.int .i32)) s0 o0,.fn 33 []]=qum n s0:=by
 kernel_rfl
theorem qqd:qk G Tryd.prog 32 s_z32:=by
 refine sQ (E:=E_z32) (c:=C_z32) rfl (fun w S hg=>(qb (qjL w S hg) qe)) Tryd.func32 ?_;intro avs r h;unfold s_z32 at h;split at h
 ·obtain ⟨hp,rfl⟩:=yj h;obtain ⟨n,hn⟩:=qtR _ hp;exact ⟨n,_,(qxI n _ _).trans hn,.inl rfl⟩
 ·cases h
def E_z17:EnvP:=eQ [(32,s_z32)] 6 (some [2]) nC nC nP
def C_z17:Code:=cO Tryd.f17
def R_z17:Array ResultVar:=Tryd.f17.results
theorem qxJ (n:Nat) (t0:List Int) (o0:Lab):evFnP E_z17 n C_z17 R_z17 [.dat (.sl (.int .i32)) t0 o0]=qun n t0:=by
 kernel_rfl
theorem qqe:qk G Tryd.prog 17 s_z17:=by
 refine sQ (E:=E_z17) (c:=C_z17) rfl (fun w S hg=>(qb (qqd w S hg) qe)) Tryd.func17 ?_;intro avs r h;unfold s_z17 at h;split at h
 ·obtain ⟨hp,rfl⟩:=yj h;obtain ⟨n,hn⟩:=qtS _ hp;exact ⟨n,_,(qxJ n _ _).trans hn,.inl rfl⟩
 ·cases h
def E_z52:EnvP:=eQ [] 6 (some [2]) nC nC nP
def C_z52:Code:=cO Tryd.f52
def R_z52:Array ResultVar:=Tryd.f52.results
theorem qxK (n:Nat) (c0:Int) (o0:Lab):evFnP E_z52 n C_z52 R_z52 [dh c0 o0]=qwU n c0:=by
 kernel_rfl
theorem qjQ:qk G Tryd.prog 52 s_z52:=by
 refine sQ (E:=E_z52) (c:=C_z52) rfl (fun w S hg=>qe) Tryd.func52 ?_;intro avs r h;unfold s_z52 at h;split at h <;> cases h
 obtain ⟨n,hn⟩:=qvu _;exact ⟨n,_,(qxK n _ _).trans hn,.inl rfl⟩
def E_z34:EnvP:=eQ [(52,s_z52)] 17 (some [2]) (fun x=>if x=2 then some [0,5,6] else none) (fun x=>if x=0 then some [] else if x=1 then some [0,5,6] else none) nP
def C_z34:Code:=cO Tryd.f34
def R_z34:Array ResultVar:=Tryd.f34.results
noncomputable def qjR (K:Ex→Fr→Option AV):=fun s2=>K .ret (frOf [(2,dc s2)])
def qjS (n:Nat):Ex→Fr→Option AV:=qL 0 (E_z34.cutb 0) (kSeq (evCP E_z34 (evLP E_z34 n) (sub C_z34 [1,1])) (kFnP E_z34 R_z34))
def qnl (t0:List Int) (s5:Int) (s6:Int):Fr:=frOf [(0,(.dat (.sl (.int .i32)) t0 none)),(5,dc s5),(6,dc s6)]
theorem qqf (K:Ex→Fr→Option AV):∀ (n:Nat) (t0:List Int) (s5:Int) (s6:Int),evLP E_z34 n (sub C_z34 [1,0,1,0,0]) K (qnl t0 s5 s6)=qiM (qjR K) (K (.exit 0) (frOf [])) n t0 s5 s6:=by
 intro n;induction n with
 | zero=>intros; rfl
 | succ n IH =>
 intro t0 s5 s6;have ih:(fun t0 s5 s6=>evLP E_z34 n (sub C_z34 [1,0,1,0,0]) K (qnl t0 s5 s6))=qiM (qjR K) (K (.exit 0) (frOf [])) n:=by
  funext t0 s5 s6;exact IH t0 s5 s6
 show _=qdl (qjR K) (K (.exit 0) (frOf [])) (qiM (qjR K) (K (.exit 0) (frOf [])) n) n t0 s5 s6;rw [← ih];kernel_rfl
theorem qlj (n:Nat)  : (qjS n) (.exit 0) (frOf [])=qfh n  := by
 kernel_rfl
theorem qxL (n:Nat) (t0:List Int) (o0:Lab):evFnP E_z34 n C_z34 R_z34 [.dat (.sl (.int .i32)) t0 o0]=qrq n t0:=by
 unfold qrq;rw [show qiM qhW (qfh n) n=(fun t0 s5 s6=>evLP E_z34 n (sub C_z34 [1,0,1,0,0]) (qjS n) (qnl t0 s5 s6)) from by
  funext t0 s5 s6;refine Eq.trans ?_ (qqf (qjS n) n t0 s5 s6).symm;rw [show ((qjS n) (.exit 0) (frOf []))=(qfh n) from by
   exact qlj n ]
  all_goals kernel_rfl]
 kernel_rfl
theorem qqg:qk G Tryd.prog 34 s_z34:=by
 refine sQ (E:=E_z34) (c:=C_z34) rfl (fun w S hg=>(qb (qjQ w S hg) qe)) Tryd.func34 ?_;intro avs r h;unfold s_z34 at h;split at h
 ·obtain ⟨hp,rfl⟩:=yj h;obtain ⟨n,hn⟩:=qvk _ hp;exact ⟨n,_,(qxL n _ _).trans hn,.inl rfl⟩
 ·cases h
def E_z18:EnvP:=eQ [(34,s_z34)] 27 (some [2,3]) (fun x=>if x=5 then some [4,13,14,15] else none) (fun x=>if x=0 then some [4] else if x=1 then some [4,13,14,15] else none) (fun x=>if x=12 then some (.psl 5 (.leaf .byte)) else none)
def C_z18:Code:=cO Tryd.f18
def R_z18:Array ResultVar:=Tryd.f18.results
noncomputable def qhK (K:Ex→Fr→Option AV):=fun s4=>K (.exit 0) (frOf [(4,(.pv (.psl 5 (.leaf .byte)) s4 none))])
def qjT (n:Nat):Ex→Fr→Option AV:=qL 0 (E_z18.cutb 0) (kSeq (evCP E_z18 (evLP E_z18 n) (sub C_z18 [1,1,1,1])) (kFnP E_z18 R_z18))
def qnm (s4:List UInt8) (s13:List Int) (s14:Int) (s15:Int):Fr:=frOf [(4,(.pv (.psl 5 (.leaf .byte)) s4 none)),(13,(.dat (.sl (.int .i32)) s13 none)),(14,dc s14),(15,dc s15)]
theorem qqh (K:Ex→Fr→Option AV):∀ (n:Nat) (s4:List UInt8) (s13:List Int) (s14:Int) (s15:Int),evLP E_z18 n (sub C_z18 [1,1,1,0,1,0,0]) K (qnm s4 s13 s14 s15)=qgO (qhK K) n s4 s13 s14 s15:=by
 intro n;induction n with
 | zero=>intros; rfl
 | succ n IH =>
 intro s4 s13 s14 s15;have ih:(fun s4 s13 s14 s15=>evLP E_z18 n (sub C_z18 [1,1,1,0,1,0,0]) K (qnm s4 s13 s14 s15))=qgO (qhK K) n:=by
  funext s4 s13 s14 s15;exact IH s4 s13 s14 s15
 show _=qdm (qhK K) (qgO (qhK K) n) n s4 s13 s14 s15;rw [← ih];kernel_rfl
theorem qlk (n:Nat) (s4:List UInt8):(qjT n) (.exit 0) (frOf [(4,(.pv (.psl 5 (.leaf .byte)) s4 none))])=qdn n s4:=by
 kernel_rfl
theorem qxM (n:Nat) (t0:List Int) (o0:Lab):evFnP E_z18 n C_z18 R_z18 [.dat (.sl (.int .i32)) t0 o0]=qrr n t0:=by
 unfold qrr;rw [show qgO (qdn n) n=(fun s4 s13 s14 s15=>evLP E_z18 n (sub C_z18 [1,1,1,0,1,0,0]) (qjT n) (qnm s4 s13 s14 s15)) from by
  funext s4 s13 s14 s15;refine Eq.trans ?_ (qqh (qjT n) n s4 s13 s14 s15).symm;rw [show (qhK (qjT n))=(qdn n) from by
   funext s4;exact qlk n s4]
  all_goals kernel_rfl]
 kernel_rfl
theorem qjU:qk G Tryd.prog 18 s_z18:=by
 refine sQ (E:=E_z18) (c:=C_z18) rfl (fun w S hg=>(qb (qqg w S hg) qe)) Tryd.func18 ?_;intro avs r h;unfold s_z18 at h;split at h
 ·obtain ⟨hp,rfl⟩:=yj h;obtain ⟨n,hn⟩:=qvv _ hp;exact ⟨n,_,(qxM n _ _).trans hn,.inl rfl⟩
 ·cases h
end
end Go.Av
