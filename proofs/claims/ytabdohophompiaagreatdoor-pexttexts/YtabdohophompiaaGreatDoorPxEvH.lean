import Derived.Test.YtabdohophompiaaGreatDoorPxEvG
import Derived.Test.YtabdohophompiaaGreatDoorPxN
import Derived.Test.YtabdohophompiaaGreatDoorProg
import Derived.KernelRfl
namespace Go.Av
set_option linter.unusedSimpArgs false
noncomputable section
open Go.Proofs
set_option maxRecDepth 100000
set_option linter.unusedVariables false
def E_z32:EnvP:=eQ [(19,s_z19),(59,s_z59)] 23 (some [4]) (fun x=>if x=6 then some [1,5] else none) (fun x=>if x=0 then some [] else if x=1 then some [1,5] else none) nP
def C_z32:Code:=cO Tryz.f32
def R_z32:Array ResultVar:=Tryz.f32.results
noncomputable def qoD (K:Ex→Fr→Option AV):=fun s4=>K .ret (frOf [(4,dc s4)])
def qoE (n:Nat):Ex→Fr→Option AV:=qp 0 (E_z32.cutb 0) (kSeq (evCP E_z32 (evLP E_z32 n) (sub C_z32 [1,1,1,1])) (kFnP E_z32 R_z32))
def qtC (t1:List Int) (i5:Int):Fr:=frOf [(1,(.dat (.sl (.int .i32)) t1 none)),(5,dc i5)]
theorem qxR (K:Ex→Fr→Option AV):∀ (n:Nat) (t1:List Int) (i5:Int),evLP E_z32 n (sub C_z32 [1,1,1,0,1,0,0]) K (qtC t1 i5)=qjl (qoD K) (K (.exit 0) (frOf [])) n t1 i5:=by
 intro n;induction n with
 | zero=>intros; rfl
 | succ n IH =>
 intro t1 i5;have ih:(fun t1 i5=>evLP E_z32 n (sub C_z32 [1,1,1,0,1,0,0]) K (qtC t1 i5))=qjl (qoD K) (K (.exit 0) (frOf [])) n:=by
  funext t1 i5;exact IH t1 i5
 show _=qeV (qoD K) (K (.exit 0) (frOf [])) (qjl (qoD K) (K (.exit 0) (frOf [])) n) n t1 i5;rw [← ih];kernel_rfl
theorem qqE (n:Nat)  : (qoE n) (.exit 0) (frOf [])=qhd n  := by
 kernel_rfl
theorem qJC (n:Nat) (name0:List UInt8) (o0:Lab) (t1:List Int) (o1:Lab):evFnP E_z32 n C_z32 R_z32 [db name0 o0,.dat (.sl (.int .i32)) t1 o1]=qyV n name0 t1:=by
 unfold qyV;rw [show qjl qfo (qhd n) n=(fun t1 i5=>evLP E_z32 n (sub C_z32 [1,1,1,0,1,0,0]) (qoE n) (qtC t1 i5)) from by
  funext t1 i5;refine Eq.trans ?_ (qxR (qoE n) n t1 i5).symm;rw [show ((qoE n) (.exit 0) (frOf []))=(qhd n) from by
   exact qqE n ]
  all_goals kernel_rfl]
 kernel_rfl
theorem qoF:qe G Tryz.prog 32 s_z32:=by
 refine sQ (E:=E_z32) (c:=C_z32) rfl (fun w S hg=>(qa (qoA w S hg) (qa (qxQ w S hg) qc))) Tryz.func32 ?_;intro avs r h;unfold s_z32 at h;split at h
 ·obtain ⟨hp,rfl⟩:=yj h;obtain ⟨n,hn⟩:=qCh _ _ hp;exact ⟨n,_,(qJC n _ _ _ _).trans hn,.inl rfl⟩
 ·cases h
def E_z60:EnvP:=eQ [] 22 (some [2]) (fun x=>if x=2 then some [0,3] else none) (fun x=>if x=0 then some [] else if x=1 then some [0,3] else none) nP
def C_z60:Code:=cO Tryz.f60
def R_z60:Array ResultVar:=Tryz.f60.results
noncomputable def qoG (K:Ex→Fr→Option AV):=fun s2=>K .ret (frOf [(2,dg s2)])
def qoH (n:Nat):Ex→Fr→Option AV:=qp 0 (E_z60.cutb 0) (kSeq (evCP E_z60 (evLP E_z60 n) (sub C_z60 [1,1])) (kFnP E_z60 R_z60))
def qtD (t0:List Int) (i3:Int):Fr:=frOf [(0,(.dat (.sl (.int .i32)) t0 none)),(3,dc i3)]
theorem qxS (K:Ex→Fr→Option AV):∀ (n:Nat) (t0:List Int) (i3:Int),evLP E_z60 n (sub C_z60 [1,0,1,0,0]) K (qtD t0 i3)=qkR (qoG K) (K (.exit 0) (frOf [])) n t0 i3:=by
 intro n;induction n with
 | zero=>intros; rfl
 | succ n IH =>
 intro t0 i3;have ih:(fun t0 i3=>evLP E_z60 n (sub C_z60 [1,0,1,0,0]) K (qtD t0 i3))=qkR (qoG K) (K (.exit 0) (frOf [])) n:=by
  funext t0 i3;exact IH t0 i3
 show _=qeW (qoG K) (K (.exit 0) (frOf [])) (qkR (qoG K) (K (.exit 0) (frOf [])) n) n t0 i3;rw [← ih];kernel_rfl
theorem qqF (n:Nat)  : (qoH n) (.exit 0) (frOf [])=qjm n  := by
 kernel_rfl
theorem qJD (n:Nat) (t0:List Int) (o0:Lab):evFnP E_z60 n C_z60 R_z60 [.dat (.sl (.int .i32)) t0 o0]=qyW n t0:=by
 unfold qyW;rw [show qkR qkQ (qjm n) n=(fun t0 i3=>evLP E_z60 n (sub C_z60 [1,0,1,0,0]) (qoH n) (qtD t0 i3)) from by
  funext t0 i3;refine Eq.trans ?_ (qxS (qoH n) n t0 i3).symm;rw [show ((qoH n) (.exit 0) (frOf []))=(qjm n) from by
   exact qqF n ]
  all_goals kernel_rfl]
 kernel_rfl
theorem qxT:qe G Tryz.prog 60 s_z60:=by
 refine sQ (E:=E_z60) (c:=C_z60) rfl (fun w S hg=>qc) Tryz.func60 ?_;intro avs r h;unfold s_z60 at h;split at h
 ·obtain ⟨hp,rfl⟩:=yj h;obtain ⟨n,hn⟩:=qCf _ hp;exact ⟨n,_,(qJD n _ _).trans hn,.inl rfl⟩
 ·cases h
def E_z98:EnvP:=eQ [] 37 (some [2]) (fun x=>if x=3 then some [0,3,4] else none) (fun x=>if x=0 then some [3] else if x=1 then some [0,3,4] else none) nP
def C_z98:Code:=cO Tryz.f98
def R_z98:Array ResultVar:=Tryz.f98.results
noncomputable def qkz (K:Ex→Fr→Option AV):=fun out3=>K (.exit 0) (frOf [(3,(db out3 (some (3,5))))])
def qoI (n:Nat):Ex→Fr→Option AV:=qp 0 (E_z98.cutb 0) (kSeq (evCP E_z98 (evLP E_z98 n) (sub C_z98 [1,1,1])) (kFnP E_z98 R_z98))
def qtE (s0:List UInt8) (out3:List UInt8) (i4:Int):Fr:=frOf [(0,da s0),(3,(db out3 (some (3,5)))),(4,dc i4)]
theorem qxU (K:Ex→Fr→Option AV):∀ (n:Nat) (s0:List UInt8) (out3:List UInt8) (i4:Int),evLP E_z98 n (sub C_z98 [1,1,0,1,0,0]) K (qtE s0 out3 i4)=qmu (qkz K) n s0 out3 i4:=by
 intro n;induction n with
 | zero=>intros; rfl
 | succ n IH =>
 intro s0 out3 i4;have ih:(fun s0 out3 i4=>evLP E_z98 n (sub C_z98 [1,1,0,1,0,0]) K (qtE s0 out3 i4))=qmu (qkz K) n:=by
  funext s0 out3 i4;exact IH s0 out3 i4
 show _=qeX (qkz K) (qmu (qkz K) n) n s0 out3 i4;rw [← ih];kernel_rfl
theorem qqG (n:Nat) (out3:List UInt8):(qoI n) (.exit 0) (frOf [(3,(db out3 (some (3,5))))])=qdb n out3:=by
 kernel_rfl
theorem qJE (n:Nat) (s0:List UInt8) (o0:Lab):evFnP E_z98 n C_z98 R_z98 [db s0 o0]=qyX n s0:=by
 unfold qyX;rw [show qmu (qdb n) n=(fun s0 out3 i4=>evLP E_z98 n (sub C_z98 [1,1,0,1,0,0]) (qoI n) (qtE s0 out3 i4)) from by
  funext s0 out3 i4;refine Eq.trans ?_ (qxU (qoI n) n s0 out3 i4).symm;rw [show (qkz (qoI n))=(qdb n) from by
   funext out3;exact qqG n out3]
  all_goals kernel_rfl]
 kernel_rfl
theorem qxV:qe G Tryz.prog 98 s_z98:=by
 refine sQ (E:=E_z98) (c:=C_z98) rfl (fun w S hg=>qc) Tryz.func98 ?_;intro avs r h;unfold s_z98 at h;split at h
 ·obtain ⟨hp,rfl⟩:=yj h;obtain ⟨n,hn⟩:=qBQ _ hp;exact ⟨n,_,(qJE n _ _).trans hn,.inl rfl⟩
 ·cases h
def E_z61:EnvP:=eQ [(37,s_z37),(98,s_z98)] 16 (some [1000002]) nC nC nP
def C_z61:Code:=cO Tryz.f61
def R_z61:Array ResultVar:=Tryz.f61.results
theorem qJF (n:Nat) (s0:List UInt8) (o0:Lab):evFnP E_z61 n C_z61 R_z61 [db s0 o0]=qDi n s0:=by
 kernel_rfl
theorem qxW:qe G Tryz.prog 61 s_z61:=by
 refine sQ (E:=E_z61) (c:=C_z61) rfl (fun w S hg=>(qa (qoz w S hg) (qa (qxV w S hg) qc))) Tryz.func61 ?_;intro avs r h;unfold s_z61 at h;split at h
 ·obtain ⟨hp,rfl⟩:=yj h;obtain ⟨n,hn⟩:=qBT _ hp;exact ⟨n,_,(qJF n _ _).trans hn,.inl rfl⟩
 ·cases h
def E_z33:EnvP:=eQ [(32,s_z32),(60,s_z60),(61,s_z61)] 42 (some [4]) (fun x=>if x=5 then some [0,1,5,6] else none) (fun x=>if x=0 then some [0,5] else if x=1 then some [0,1,5,6] else none) nP
def C_z33:Code:=cO Tryz.f33
def R_z33:Array ResultVar:=Tryz.f33.results
noncomputable def qkA (K:Ex→Fr→Option AV):=fun name0 b5=>K (.exit 0) (frOf [(0,da name0),(5,(db b5 (some (5,5))))])
def qoJ (n:Nat):Ex→Fr→Option AV:=qp 0 (E_z33.cutb 0) (kSeq (evCP E_z33 (evLP E_z33 n) (sub C_z33 [1,1,1,1])) (kFnP E_z33 R_z33))
def qtF (name0:List UInt8) (t1:List Int) (b5:List UInt8) (i6:Int):Fr:=frOf [(0,da name0),(1,(.dat (.sl (.int .i32)) t1 none)),(5,(db b5 (some (5,5)))),(6,dc i6)]
theorem qxX (K:Ex→Fr→Option AV):∀ (n:Nat) (name0:List UInt8) (t1:List Int) (b5:List UInt8) (i6:Int),evLP E_z33 n (sub C_z33 [1,1,1,0,1,0,0]) K (qtF name0 t1 b5 i6)=qmv (qkA K) n name0 t1 b5 i6:=by
 intro n;induction n with
 | zero=>intros; rfl
 | succ n IH =>
 intro name0 t1 b5 i6;have ih:(fun name0 t1 b5 i6=>evLP E_z33 n (sub C_z33 [1,1,1,0,1,0,0]) K (qtF name0 t1 b5 i6))=qmv (qkA K) n:=by
  funext name0 t1 b5 i6;exact IH name0 t1 b5 i6
 show _=qeY (qkA K) (qmv (qkA K) n) n name0 t1 b5 i6;rw [← ih];kernel_rfl
theorem qqH (n:Nat) (name0:List UInt8) (b5:List UInt8):(qoJ n) (.exit 0) (frOf [(0,da name0),(5,(db b5 (some (5,5))))])=qdc n name0 b5:=by
 kernel_rfl
theorem qJG (n:Nat) (name0:List UInt8) (o0:Lab) (t1:List Int) (o1:Lab):evFnP E_z33 n C_z33 R_z33 [db name0 o0,.dat (.sl (.int .i32)) t1 o1]=qyY n name0 t1:=by
 unfold qyY;rw [show qmv (qdc n) n=(fun name0 t1 b5 i6=>evLP E_z33 n (sub C_z33 [1,1,1,0,1,0,0]) (qoJ n) (qtF name0 t1 b5 i6)) from by
  funext name0 t1 b5 i6;refine Eq.trans ?_ (qxX (qoJ n) n name0 t1 b5 i6).symm;rw [show (qkA (qoJ n))=(qdc n) from by
   funext name0 b5;exact qqH n name0 b5]
  all_goals kernel_rfl]
 kernel_rfl
theorem qoK:qe G Tryz.prog 33 s_z33:=by
 refine sQ (E:=E_z33) (c:=C_z33) rfl (fun w S hg=>(qa (qoF w S hg) (qa (qxT w S hg) (qa (qxW w S hg) qc)))) Tryz.func33 ?_;intro avs r h;unfold s_z33 at h;split at h
 ·obtain ⟨hp,rfl⟩:=yj h;obtain ⟨n,hn⟩:=qCv _ _ hp;exact ⟨n,_,(qJG n _ _ _ _).trans hn,.inl rfl⟩
 ·cases h
def E_z62:EnvP:=eQ [(99,s_z99)] 23 (some [2]) nC nC nP
def C_z62:Code:=cO Tryz.f62
def R_z62:Array ResultVar:=Tryz.f62.results
theorem qJH (n:Nat) (p0:(List UInt8)×(Int×(Bool×((List UInt8)×Unit)))) (o0:Lab):evFnP E_z62 n C_z62 R_z62 [.dat (.pair (.sl .byte) (.pair (.int .i64) (.pair .bool (.pair (.sl .byte) .unit)))) p0 o0]=qDj n p0:=by
 kernel_rfl
theorem qxY:qe G Tryz.prog 62 s_z62:=by
 refine sQ (E:=E_z62) (c:=C_z62) rfl (fun w S hg=>(qa (qwI w S hg) qc)) Tryz.func62 ?_;intro avs r h;unfold s_z62 at h;split at h
 ·obtain ⟨hp,rfl⟩:=yj h;obtain ⟨n,hn⟩:=qBW _ hp;exact ⟨n,_,(qJH n _ _).trans hn,.inl rfl⟩
 ·cases h
def E_z34:EnvP:=eQ [(62,s_z62)] 22 (some [6]) nC nC nP
def C_z34:Code:=cO Tryz.f34
def R_z34:Array ResultVar:=Tryz.f34.results
theorem qJI (n:Nat) (name0:List UInt8) (o0:Lab) (n1:Int) (o1:Lab) (charset2:List UInt8) (o2:Lab):evFnP E_z34 n C_z34 R_z34 [db name0 o0,de n1 o1,df charset2 o2]=qDk n name0 n1 charset2:=by
 kernel_rfl
theorem qxZ:qe G Tryz.prog 34 s_z34:=by
 refine sQ (E:=E_z34) (c:=C_z34) rfl (fun w S hg=>(qa (qxY w S hg) qc)) Tryz.func34 ?_;intro avs r h;unfold s_z34 at h;split at h
 ·obtain ⟨hp,rfl⟩:=yj h;obtain ⟨n,hn⟩:=qBY _ _ _ hp;exact ⟨n,_,(qJI n _ _ _ _ _ _).trans hn,.inl rfl⟩
 ·cases h
def E_z63:EnvP:=eQ [] 19 (some [2]) nC (fun x=>if x=0 then some [] else none) nP
def C_z63:Code:=cO Tryz.f63
def R_z63:Array ResultVar:=Tryz.f63.results
theorem qJJ (n:Nat) (n0:Int) (o0:Lab):evFnP E_z63 n C_z63 R_z63 [de n0 o0]=qDl n n0:=by
 kernel_rfl
theorem qya:qe G Tryz.prog 63 s_z63:=by
 refine sQ (E:=E_z63) (c:=C_z63) rfl (fun w S hg=>qc) Tryz.func63 ?_;intro avs r h;unfold s_z63 at h;split at h <;> cases h
 obtain ⟨n,hn⟩:=qDA _;exact ⟨n,_,(qJJ n _ _).trans hn,.inl rfl⟩
def E_z35:EnvP:=eQ [(63,s_z63)] 12 (some [2]) nC nC nP
def C_z35:Code:=cO Tryz.f35
def R_z35:Array ResultVar:=Tryz.f35.results
theorem qJK (n:Nat) (n0:Int) (o0:Lab):evFnP E_z35 n C_z35 R_z35 [de n0 o0]=qDm n n0:=by
 kernel_rfl
theorem qyb:qe G Tryz.prog 35 s_z35:=by
 refine sQ (E:=E_z35) (c:=C_z35) rfl (fun w S hg=>(qa (qya w S hg) qc)) Tryz.func35 ?_;intro avs r h;unfold s_z35 at h;split at h <;> cases h
 obtain ⟨n,hn⟩:=qDC _;exact ⟨n,_,(qJK n _ _).trans hn,.inl rfl⟩
def E_z14:EnvP:=eQ [(10,s_z10),(24,s_z24),(32,s_z32),(33,s_z33),(34,s_z34),(35,s_z35)] 115 (some [1000004,5]) (fun x=>if x=11 then some [0,8,10,12,13] else if x=19 then some [0,10,14,15,16] else none) (fun x=>if x=0 then some [0,8,10,12] else if x=1 then some [0,8,10,12,13] else if x=2 then some [14] else if x=3 then some [0,10,14,15,16] else none) (fun x=>if x=67 then some (.psl 22 (.osl 5 .byte)) else if x=98 then some (.psl 22 (.osl 5 .byte)) else if x=99 then some (.psl 22 (.osl 5 .byte)) else if x=112 then some (.osl 5 .byte) else none)
def C_z14:Code:=cO Tryz.f14
def R_z14:Array ResultVar:=Tryz.f14.results
noncomputable def qkB (K:Ex→Fr→Option AV):=fun name0 n8 units10 whole12=>K (.exit 0) (frOf [(0,da name0),(8,dc n8),(10,(.dat (.sl (.sl .byte)) units10 none)),(12,(db whole12 (some (12,5))))])
noncomputable def qkC (K:Ex→Fr→Option AV):=fun out14=>K (.exit 2) (frOf [(14,(.pv (.psl 22 (.osl 5 .byte)) out14 none))])
def qoL (n:Nat):Ex→Fr→Option AV:=qp 2 (E_z14.cutb 2) (kSeq (evCP E_z14 (evLP E_z14 n) (sub C_z14 [1,1,1,1,1,1,1,1,1,1,1])) (kFnP E_z14 R_z14))
def qoM (n:Nat):Ex→Fr→Option AV:=qp 0 (E_z14.cutb 0) (kSeq (evCP E_z14 (evLP E_z14 n) (sub C_z14 [1,1,1,1,1,1,1])) (kFnP E_z14 R_z14))
def qtG (name0:List UInt8) (n8:Int) (units10:List (List UInt8)) (whole12:List UInt8) (i13:Int):Fr:=frOf [(0,da name0),(8,dc n8),(10,(.dat (.sl (.sl .byte)) units10 none)),(12,(db whole12 (some (12,5)))),(13,dc i13)]
def qtH (name0:List UInt8) (units10:List (List UInt8)) (out14:List (List UInt8)) (fresh15:Bool) (i16:Int):Fr:=frOf [(0,da name0),(10,(.dat (.sl (.sl .byte)) units10 none)),(14,(.pv (.psl 22 (.osl 5 .byte)) out14 none)),(15,dg fresh15),(16,dc i16)]
theorem qtI (K:Ex→Fr→Option AV):∀ (n:Nat) (name0:List UInt8) (n8:Int) (units10:List (List UInt8)) (whole12:List UInt8) (i13:Int),evLP E_z14 n (sub C_z14 [1,1,1,1,1,1,0,1,0,0]) K (qtG name0 n8 units10 whole12 i13)=qfp (qkB K) n name0 n8 units10 whole12 i13:=by
 intro n;induction n with
 | zero=>intros; rfl
 | succ n IH =>
 intro name0 n8 units10 whole12 i13;have ih:(fun name0 n8 units10 whole12 i13=>evLP E_z14 n (sub C_z14 [1,1,1,1,1,1,0,1,0,0]) K (qtG name0 n8 units10 whole12 i13))=qfp (qkB K) n:=by
  funext name0 n8 units10 whole12 i13;exact IH name0 n8 units10 whole12 i13
 show _=qcB (qkB K) (qfp (qkB K) n) n name0 n8 units10 whole12 i13;rw [← ih];kernel_rfl
theorem qtJ (K:Ex→Fr→Option AV):∀ (n:Nat) (name0:List UInt8) (units10:List (List UInt8)) (out14:List (List UInt8)) (fresh15:Bool) (i16:Int),evLP E_z14 n (sub C_z14 [1,1,1,1,1,1,1,1,1,1,0,1,0,0]) K (qtH name0 units10 out14 fresh15 i16)=qhf (qkC K) n name0 units10 out14 fresh15 i16:=by
 intro n;induction n with
 | zero=>intros; rfl
 | succ n IH =>
 intro name0 units10 out14 fresh15 i16;have ih:(fun name0 units10 out14 fresh15 i16=>evLP E_z14 n (sub C_z14 [1,1,1,1,1,1,1,1,1,1,0,1,0,0]) K (qtH name0 units10 out14 fresh15 i16))=qhf (qkC K) n:=by
  funext name0 units10 out14 fresh15 i16;exact IH name0 units10 out14 fresh15 i16
 show _=qcC (qkC K) (qhf (qkC K) n) n name0 units10 out14 fresh15 i16;rw [← ih];kernel_rfl
theorem qlP (n:Nat) (out14:List (List UInt8)):(qoL n) (.exit 2) (frOf [(14,(.pv (.psl 22 (.osl 5 .byte)) out14 none))])=qdT n out14:=by
 kernel_rfl
theorem qlQ (n:Nat) (name0:List UInt8) (n8:Int) (units10:List (List UInt8)) (whole12:List UInt8):(qoM n) (.exit 0) (frOf [(0,da name0),(8,dc n8),(10,(.dat (.sl (.sl .byte)) units10 none)),(12,(db whole12 (some (12,5))))])=qcD n name0 n8 units10 whole12:=by
 unfold qcD;rw [show qhf (qdT n) n=(fun name0 units10 out14 fresh15 i16=>evLP E_z14 n (sub C_z14 [1,1,1,1,1,1,1,1,1,1,0,1,0,0]) (qoL n) (qtH name0 units10 out14 fresh15 i16)) from by
  funext name0 units10 out14 fresh15 i16;refine Eq.trans ?_ (qtJ (qoL n) n name0 units10 out14 fresh15 i16).symm;rw [show (qkC (qoL n))=(qdT n) from by
   funext out14;exact qlP n out14]
  all_goals kernel_rfl]
 kernel_rfl
theorem qJL (n:Nat) (name0:List UInt8) (o0:Lab) (t1:List Int) (o1:Lab):evFnP E_z14 n C_z14 R_z14 [db name0 o0,.dat (.sl (.int .i32)) t1 o1]=qyZ n name0 t1:=by
 unfold qyZ;rw [show qfp (qcD n) n=(fun name0 n8 units10 whole12 i13=>evLP E_z14 n (sub C_z14 [1,1,1,1,1,1,0,1,0,0]) (qoM n) (qtG name0 n8 units10 whole12 i13)) from by
  funext name0 n8 units10 whole12 i13;refine Eq.trans ?_ (qtI (qoM n) n name0 n8 units10 whole12 i13).symm;rw [show (qkB (qoM n))=(qcD n) from by
   funext name0 n8 units10 whole12;exact qlQ n name0 n8 units10 whole12]
  all_goals kernel_rfl]
 kernel_rfl
theorem qoN:qe G Tryz.prog 14 s_z14:=by
 refine sQ (E:=E_z14) (c:=C_z14) rfl (fun w S hg=>(qa (qox w S hg) (qa (qor w S hg) (qa (qoF w S hg) (qa (qoK w S hg) (qa (qxZ w S hg) (qa (qyb w S hg) qc))))))) Tryz.func14 ?_;intro avs r h;unfold s_z14 at h;split at h
 ·obtain ⟨hp,rfl⟩:=yj h;obtain ⟨n,hn⟩:=qCy _ _ hp;exact ⟨n,_,(qJL n _ _ _ _).trans hn,.inl rfl⟩
 ·cases h
def E_z8:EnvP:=eQ [(14,s_z14)] 32 (some [4,5]) (fun x=>if x=4 then some [6,7,8,9] else none) (fun x=>if x=0 then some [7,8] else if x=1 then some [6,7,8,9] else none) nP
def C_z8:Code:=cO Tryz.f8
def R_z8:Array ResultVar:=Tryz.f8.results
noncomputable def qtK (K:Ex→Fr→Option AV):=fun e7 out8=>K (.exit 0) (frOf [(7,dc e7),(8,(db out8 (some (8,5))))])
def qyc (n:Nat):Ex→Fr→Option AV:=qp 0 (E_z8.cutb 0) (kSeq (evCP E_z8 (evLP E_z8 n) (sub C_z8 [1,1,1,1])) (kFnP E_z8 R_z8))
def qBE (l6:List (List UInt8)) (e7:Int) (out8:List UInt8) (i9:Int):Fr:=frOf [(6,(.dat (.sl (.sl .byte)) l6 none)),(7,dc e7),(8,(db out8 (some (8,5)))),(9,dc i9)]
theorem qBF (K:Ex→Fr→Option AV):∀ (n:Nat) (l6:List (List UInt8)) (e7:Int) (out8:List UInt8) (i9:Int),evLP E_z8 n (sub C_z8 [1,1,1,0,1,0,0]) K (qBE l6 e7 out8 i9)=z8_l4 (qtK K) n l6 e7 out8 i9:=by
 intro n;induction n with
 | zero=>intros; rfl
 | succ n IH =>
 intro l6 e7 out8 i9;have ih:(fun l6 e7 out8 i9=>evLP E_z8 n (sub C_z8 [1,1,1,0,1,0,0]) K (qBE l6 e7 out8 i9))=z8_l4 (qtK K) n:=by
  funext l6 e7 out8 i9;exact IH l6 e7 out8 i9
 show _=qhQ (qtK K) (z8_l4 (qtK K) n) n l6 e7 out8 i9;rw [← ih];kernel_rfl
theorem qtL (n:Nat) (e7:Int) (out8:List UInt8):(qyc n) (.exit 0) (frOf [(7,dc e7),(8,(db out8 (some (8,5))))])=qhR n e7 out8:=by
 kernel_rfl
theorem z8_ev (n:Nat) (name0:List UInt8) (o0:Lab) (t1:List Int) (o1:Lab):evFnP E_z8 n C_z8 R_z8 [db name0 o0,.dat (.sl (.int .i32)) t1 o1]=z8_sh n name0 t1:=by
 unfold z8_sh;rw [show z8_l4 (qhR n) n=(fun l6 e7 out8 i9=>evLP E_z8 n (sub C_z8 [1,1,1,0,1,0,0]) (qyc n) (qBE l6 e7 out8 i9)) from by
  funext l6 e7 out8 i9;refine Eq.trans ?_ (qBF (qyc n) n l6 e7 out8 i9).symm;rw [show (qtK (qyc n))=(qhR n) from by
   funext e7 out8;exact qtL n e7 out8]
  all_goals kernel_rfl]
 kernel_rfl
theorem qBG:qe G Tryz.prog 8 s_z8:=by
 refine sQ (E:=E_z8) (c:=C_z8) rfl (fun w S hg=>(qa (qoN w S hg) qc)) Tryz.func8 ?_;intro avs r h;unfold s_z8 at h;split at h
 ·obtain ⟨hp,rfl⟩:=yj h;obtain ⟨n,hn⟩:=qGZ _ _ hp;exact ⟨n,_,(z8_ev n _ _ _ _).trans hn,.inl rfl⟩
 ·cases h
end
end Go.Av
