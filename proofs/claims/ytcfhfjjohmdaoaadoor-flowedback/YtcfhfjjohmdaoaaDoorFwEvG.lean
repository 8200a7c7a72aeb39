import Derived.Test.YtcfhfjjohmdaoaaDoorFwEvF
import Derived.Test.YtcfhfjjohmdaoaaDoorFwWalk
import Derived.Test.YtcfhfjjohmdaoaaDoorProg
import Derived.KernelRfl
namespace Go.Av
set_option linter.unusedSimpArgs false
noncomputable section
open Go.Proofs
set_option maxRecDepth 100000
set_option linter.unusedVariables false
def E_z74:EnvP:=eQ [] 62 (some [2]) (fun x=>if x=5 then some [1,3,4] else none) (fun x=>if x=0 then some [1,3] else if x=1 then some [1,3,4] else none) nP
def C_z74:Code:=cO Tryd.f74
def R_z74:Array ResultVar:=Tryd.f74.results
noncomputable def qjX (K:Ex→Fr→Option AV):=fun p1 n3=>K (.exit 0) (frOf [(1,(.adr (.pair (.int .i64) (.pair (.sl .byte) .unit)) p1)),(3,dc n3)])
noncomputable def qmK (K:Ex→Fr→Option AV):=fun s2=>K .ret (frOf [(2,dg s2)])
def qmL (n:Nat):Ex→Fr→Option AV:=qL 0 (E_z74.cutb 0) (kSeq (evCP E_z74 (evLP E_z74 n) (sub C_z74 [1,1,1,1])) (kFnP E_z74 R_z74))
def qqz (p1:Int×((List UInt8)×Unit)) (n3:Int) (i4:Int):Fr:=frOf [(1,(.adr (.pair (.int .i64) (.pair (.sl .byte) .unit)) p1)),(3,dc n3),(4,dc i4)]
theorem qsM (K:Ex→Fr→Option AV):∀ (n:Nat) (p1:Int×((List UInt8)×Unit)) (n3:Int) (i4:Int),evLP E_z74 n (sub C_z74 [1,1,1,0,1,0,0]) K (qqz p1 n3 i4)=qgJ (qmK K) (qjX K) n p1 n3 i4:=by
 intro n;induction n with
 | zero=>intros; rfl
 | succ n IH =>
 intro p1 n3 i4;have ih:(fun p1 n3 i4=>evLP E_z74 n (sub C_z74 [1,1,1,0,1,0,0]) K (qqz p1 n3 i4))=qgJ (qmK K) (qjX K) n:=by
  funext p1 n3 i4;exact IH p1 n3 i4
 show _=qeG (qmK K) (qjX K) (qgJ (qmK K) (qjX K) n) n p1 n3 i4;rw [← ih];kernel_rfl
theorem qod (n:Nat) (p1:Int×((List UInt8)×Unit)) (n3:Int):(qmL n) (.exit 0) (frOf [(1,(.adr (.pair (.int .i64) (.pair (.sl .byte) .unit)) p1)),(3,dc n3)])=qeH n p1 n3:=by
 kernel_rfl
theorem qya (n:Nat) (p0:Int×((List UInt8)×Unit)) (o0:Lab):evFnP E_z74 n C_z74 R_z74 [.dat (.pair (.int .i64) (.pair (.sl .byte) .unit)) p0 o0]=qts n p0:=by
 unfold qts;rw [show qgJ qcY (qeH n) n=(fun p1 n3 i4=>evLP E_z74 n (sub C_z74 [1,1,1,0,1,0,0]) (qmL n) (qqz p1 n3 i4)) from by
  funext p1 n3 i4;refine Eq.trans ?_ (qsM (qmL n) n p1 n3 i4).symm;rw [show (qjX (qmL n))=(qeH n) from by
   funext p1 n3;exact qod n p1 n3]
  all_goals kernel_rfl]
 kernel_rfl
theorem qsN:qp G Tryd.prog 74 s_z74:=by
 refine sQ (E:=E_z74) (c:=C_z74) rfl (fun w S hg=>ql) Tryd.func74 ?_;intro avs r h;unfold s_z74 at h;split at h
 ·obtain ⟨hp,rfl⟩:=yj h;obtain ⟨n,hn⟩:=qvl _ hp;exact ⟨n,_,(qya n _ _).trans hn,.inl rfl⟩
 ·cases h
def E_z75:EnvP:=eQ [(49,s_z49)] 35 (some [6]) (fun x=>if x=3 then some [0,1,2,7,8] else none) (fun x=>if x=0 then some [7] else if x=1 then some [0,1,2,7,8] else none) nP
def C_z75:Code:=cO Tryd.f75
def R_z75:Array ResultVar:=Tryd.f75.results
noncomputable def qjY (K:Ex→Fr→Option AV):=fun best7=>K (.exit 0) (frOf [(7,dc best7)])
def qmM (n:Nat):Ex→Fr→Option AV:=qL 0 (E_z75.cutb 0) (kSeq (evCP E_z75 (evLP E_z75 n) (sub C_z75 [1,1,1])) (kFnP E_z75 R_z75))
def qqA (depth0:Int) (t1:List UInt8) (width2:Int) (best7:Int) (i8:Int):Fr:=frOf [(0,dc depth0),(1,da t1),(2,dc width2),(7,dc best7),(8,dc i8)]
theorem qsO (K:Ex→Fr→Option AV):∀ (n:Nat) (depth0:Int) (t1:List UInt8) (width2:Int) (best7:Int) (i8:Int),evLP E_z75 n (sub C_z75 [1,1,0,1,0,0]) K (qqA depth0 t1 width2 best7 i8)=qgK (qjY K) n depth0 t1 width2 best7 i8:=by
 intro n;induction n with
 | zero=>intros; rfl
 | succ n IH =>
 intro depth0 t1 width2 best7 i8;have ih:(fun depth0 t1 width2 best7 i8=>evLP E_z75 n (sub C_z75 [1,1,0,1,0,0]) K (qqA depth0 t1 width2 best7 i8))=qgK (qjY K) n:=by
  funext depth0 t1 width2 best7 i8;exact IH depth0 t1 width2 best7 i8
 show _=qeI (qjY K) (qgK (qjY K) n) n depth0 t1 width2 best7 i8;rw [← ih];kernel_rfl
theorem qoe (n:Nat) (best7:Int):(qmM n) (.exit 0) (frOf [(7,dc best7)])=qgL n best7:=by
 kernel_rfl
theorem qyb (n:Nat) (depth0:Int) (o0:Lab) (t1:List UInt8) (o1:Lab) (width2:Int) (o2:Lab):evFnP E_z75 n C_z75 R_z75 [de depth0 o0,db t1 o1,de width2 o2]=qtt n depth0 t1 width2:=by
 unfold qtt;rw [show qgK (qgL n) n=(fun depth0 t1 width2 best7 i8=>evLP E_z75 n (sub C_z75 [1,1,0,1,0,0]) (qmM n) (qqA depth0 t1 width2 best7 i8)) from by
  funext depth0 t1 width2 best7 i8;refine Eq.trans ?_ (qsO (qmM n) n depth0 t1 width2 best7 i8).symm;rw [show (qjY (qmM n))=(qgL n) from by
   funext best7;exact qoe n best7]
  all_goals kernel_rfl]
 kernel_rfl
theorem qsP:qp G Tryd.prog 75 s_z75:=by
 refine sQ (E:=E_z75) (c:=C_z75) rfl (fun w S hg=>(qb (qiq w S hg) ql)) Tryd.func75 ?_;intro avs r h;unfold s_z75 at h;split at h
 ·obtain ⟨hp,rfl⟩:=yj h;obtain ⟨n,hn⟩:=qvm _ _ _ hp;exact ⟨n,_,(qyb n _ _ _ _ _ _).trans hn,.inl rfl⟩
 ·cases h
def E_z41:EnvP:=eQ [(49,s_z49),(74,s_z74),(75,s_z75)] 88 (some [4,5]) (fun x=>if x=4 then some [0,1,6] else if x=10 then some [0,1,7,8] else if x=13 then some [0,1,7,8,9] else none) (fun x=>if x=0 then some [0,1] else if x=1 then some [0,1,6] else if x=2 then some [7] else if x=3 then some [0,1,7,8] else if x=4 then some [0,1,7,8,9] else if x=5 then some [0,1,7,8,9] else none) nP
def C_z41:Code:=cO Tryd.f41
def R_z41:Array ResultVar:=Tryd.f41.results
noncomputable def qjZ (K:Ex→Fr→Option AV):=fun l0 width1=>K (.exit 0) (frOf [(0,(.dat (.sl (.pair (.int .i64) (.pair (.sl .byte) .unit))) l0 none)),(1,dc width1)])
noncomputable def qmN (K:Ex→Fr→Option AV):=fun s4 s5=>K .ret (frOf [(4,(db s4 (some (4,5)))),(5,dc s5)])
def qka (l0:List (Int×((List UInt8)×Unit))) (width1:Int) (out7:List UInt8) (i8:Int) (t9:List UInt8):Fr:=frOf [(0,(.dat (.sl (.pair (.int .i64) (.pair (.sl .byte) .unit))) l0 none)),(1,dc width1),(7,(db out7 (some (7,5)))),(8,dc i8),(9,da t9)]
noncomputable def qkb (K:Ex→Fr→Option AV):=fun l0 width1 out7 i8 t9=>K (.exit 4) (qka l0 width1 out7 i8 t9)
noncomputable def qgg (K:Ex→Fr→Option AV):=fun out7=>K (.exit 2) (frOf [(7,(db out7 (some (7,5))))])
def qmO (n:Nat) (K:Ex→Fr→Option AV):Ex→Fr→Option AV:=qL 4 (E_z41.cutb 4) (kSeq (evCP E_z41 (evLP E_z41 n) (sub C_z41 [1,1,1,1,0,1,0,0,1,0,0,1,1])) (qL 3 (E_z41.cutb 3) (kSeq (evCP E_z41 (evLP E_z41 n) (sub C_z41 [1,1,1,1,0,1,0,0,1,1])) (kSeq (fun K fr=>evLP E_z41 n (sub C_z41 [1,1,1,1,0,1,0,0]) K (cutFP (E_z41.cuts 10) fr)) K))))
def qmP (n:Nat):Ex→Fr→Option AV:=qL 2 (E_z41.cutb 2) (kSeq (evCP E_z41 (evLP E_z41 n) (sub C_z41 [1,1,1,1,1])) (kFnP E_z41 R_z41))
def qmQ (n:Nat):Ex→Fr→Option AV:=qL 0 (E_z41.cutb 0) (kSeq (evCP E_z41 (evLP E_z41 n) (sub C_z41 [1,1,1])) (kFnP E_z41 R_z41))
def qhn (l0:List (Int×((List UInt8)×Unit))) (width1:Int) (out7:List UInt8) (i8:Int):Fr:=frOf [(0,(.dat (.sl (.pair (.int .i64) (.pair (.sl .byte) .unit))) l0 none)),(1,dc width1),(7,(db out7 (some (7,5)))),(8,dc i8)]
def qll (l0:List (Int×((List UInt8)×Unit))) (width1:Int) (i6:Int):Fr:=frOf [(0,(.dat (.sl (.pair (.int .i64) (.pair (.sl .byte) .unit))) l0 none)),(1,dc width1),(6,dc i6)]
theorem qsQ (K:Ex→Fr→Option AV):∀ (n:Nat) (l0:List (Int×((List UInt8)×Unit))) (width1:Int) (i6:Int),evLP E_z41 n (sub C_z41 [1,1,0,1,0,0]) K (qll l0 width1 i6)=qgN (qmN K) (qjZ K) n l0 width1 i6:=by
 intro n;induction n with
 | zero=>intros; rfl
 | succ n IH =>
 intro l0 width1 i6;have ih:(fun l0 width1 i6=>evLP E_z41 n (sub C_z41 [1,1,0,1,0,0]) K (qll l0 width1 i6))=qgN (qmN K) (qjZ K) n:=by
  funext l0 width1 i6;exact IH l0 width1 i6
 show _=qeJ (qmN K) (qjZ K) (qgN (qmN K) (qjZ K) n) n l0 width1 i6;rw [← ih];kernel_rfl
theorem qqB (K:Ex→Fr→Option AV):∀ (n:Nat) (l0:List (Int×((List UInt8)×Unit))) (width1:Int) (out7:List UInt8) (i8:Int) (t9:List UInt8),evLP E_z41 n (sub C_z41 [1,1,1,1,0,1,0,0,1,0,0,1,0,0,0]) K (qka l0 width1 out7 i8 t9)=qdW (qkb K) n l0 width1 out7 i8 t9:=by
 intro n;induction n with
 | zero=>intros; rfl
 | succ n IH =>
 intro l0 width1 out7 i8 t9;have ih:(fun l0 width1 out7 i8 t9=>evLP E_z41 n (sub C_z41 [1,1,1,1,0,1,0,0,1,0,0,1,0,0,0]) K (qka l0 width1 out7 i8 t9))=qdW (qkb K) n:=by
  funext l0 width1 out7 i8 t9;exact IH l0 width1 out7 i8 t9
 show _=qfA (qkb K) (qdW (qkb K) n) n l0 width1 out7 i8 t9;rw [← ih];kernel_rfl
theorem qlm (K:Ex→Fr→Option AV) (n:Nat) (l0:List (Int×((List UInt8)×Unit))) (width1:Int) (out7:List UInt8) (i8:Int) (t9:List UInt8):(qmO n K) (.exit 4) (qka l0 width1 out7 i8 t9)=qaL (fun out7=>K (.exit 2) (frOf [(7,(db out7 (some (7,5))))])) (fun l0 width1 out7 i8=>evLP E_z41 n (sub C_z41 [1,1,1,1,0,1,0,0]) K (qhn l0 width1 out7 i8)) n l0 width1 out7 i8 t9:=by
 kernel_rfl
theorem qqC (K:Ex→Fr→Option AV):∀ (n:Nat) (l0:List (Int×((List UInt8)×Unit))) (width1:Int) (out7:List UInt8) (i8:Int),evLP E_z41 n (sub C_z41 [1,1,1,1,0,1,0,0]) K (qhn l0 width1 out7 i8)=qbX (qgg K) n l0 width1 out7 i8:=by
 intro n;induction n with
 | zero=>intros; rfl
 | succ n IH =>
 intro l0 width1 out7 i8;have ih:(fun l0 width1 out7 i8=>evLP E_z41 n (sub C_z41 [1,1,1,1,0,1,0,0]) K (qhn l0 width1 out7 i8))=qbX (qgg K) n:=by
  funext l0 width1 out7 i8;exact IH l0 width1 out7 i8
 show _=qbS (qgg K) (qbX (qgg K) n) n l0 width1 out7 i8;rw [← ih];unfold qbS;rw [show qdW (qaL (qgg K) (fun l0 width1 out7 i8=>evLP E_z41 n (sub C_z41 [1,1,1,1,0,1,0,0]) K (qhn l0 width1 out7 i8)) n) n=(fun l0 width1 out7 i8 t9=>evLP E_z41 n (sub C_z41 [1,1,1,1,0,1,0,0,1,0,0,1,0,0,0]) (qmO n K) (qka l0 width1 out7 i8 t9)) from by
  funext l0 width1 out7 i8 t9;refine Eq.trans ?_ (qqB (qmO n K) n l0 width1 out7 i8 t9).symm;rw [show (qkb (qmO n K))=(qaL (qgg K) (fun l0 width1 out7 i8=>evLP E_z41 n (sub C_z41 [1,1,1,1,0,1,0,0]) K (qhn l0 width1 out7 i8)) n) from by
   funext l0 width1 out7 i8 t9;exact qlm K n l0 width1 out7 i8 t9]
  all_goals kernel_rfl]
 kernel_rfl
theorem qln (n:Nat) (out7:List UInt8):(qmP n) (.exit 2) (frOf [(7,(db out7 (some (7,5))))])=qdX n out7:=by
 kernel_rfl
theorem qof (n:Nat) (l0:List (Int×((List UInt8)×Unit))) (width1:Int):(qmQ n) (.exit 0) (frOf [(0,(.dat (.sl (.pair (.int .i64) (.pair (.sl .byte) .unit))) l0 none)),(1,dc width1)])=qeK n l0 width1:=by
 unfold qeK;rw [show qbX (qdX n) n=(fun l0 width1 out7 i8=>evLP E_z41 n (sub C_z41 [1,1,1,1,0,1,0,0]) (qmP n) (qhn l0 width1 out7 i8)) from by
  funext l0 width1 out7 i8;refine Eq.trans ?_ (qqC (qmP n) n l0 width1 out7 i8).symm;rw [show (qgg (qmP n))=(qdX n) from by
   funext out7;exact qln n out7]
  all_goals kernel_rfl]
 kernel_rfl
theorem qyc (n:Nat) (l0:List (Int×((List UInt8)×Unit))) (o0:Lab) (width1:Int) (o1:Lab):evFnP E_z41 n C_z41 R_z41 [.dat (.sl (.pair (.int .i64) (.pair (.sl .byte) .unit))) l0 o0,de width1 o1]=qtu n l0 width1:=by
 unfold qtu;rw [show qgN qgM (qeK n) n=(fun l0 width1 i6=>evLP E_z41 n (sub C_z41 [1,1,0,1,0,0]) (qmQ n) (qll l0 width1 i6)) from by
  funext l0 width1 i6;refine Eq.trans ?_ (qsQ (qmQ n) n l0 width1 i6).symm;rw [show (qjZ (qmQ n))=(qeK n) from by
   funext l0 width1;exact qof n l0 width1]
  all_goals kernel_rfl]
 kernel_rfl
theorem qsR:qp G Tryd.prog 41 s_z41:=by
 refine sQ (E:=E_z41) (c:=C_z41) rfl (fun w S hg=>(qb (qiq w S hg) (qb (qsN w S hg) (qb (qsP w S hg) ql)))) Tryd.func41 ?_;intro avs r h;unfold s_z41 at h;split at h
 ·obtain ⟨hp,rfl⟩:=yj h;obtain ⟨n,hn⟩:=qvn _ _ hp;exact ⟨n,_,(qyc n _ _ _ _).trans hn,.inl rfl⟩
 ·cases h
def E_z10:EnvP:=eQ [(15,s_z15),(34,s_z34),(38,s_z38),(39,s_z39),(40,s_z40),(41,s_z41)] 36 (some [4]) nC nC nP
def C_z10:Code:=cO Tryd.f10
def R_z10:Array ResultVar:=Tryd.f10.results
theorem qyd (n:Nat) (l0:List (Int×((List UInt8)×Unit))) (o0:Lab) (width1:Int) (o1:Lab):evFnP E_z10 n C_z10 R_z10 [.dat (.sl (.pair (.int .i64) (.pair (.sl .byte) .unit))) l0 o0,de width1 o1]=qvM n l0 width1:=by
 kernel_rfl
theorem qsS:qp G Tryd.prog 10 s_z10:=by
 refine sQ (E:=E_z10) (c:=C_z10) rfl (fun w S hg=>(qb (qin w S hg) (qb (qfv w S hg) (qb (qmG w S hg) (qb (qim w S hg) (qb (qmI w S hg) (qb (qsR w S hg) ql))))))) Tryd.func10 ?_;intro avs r h;unfold s_z10 at h;split at h <;> cases h
 obtain ⟨n,hn⟩:=qvr _ _;exact ⟨n,_,(qyd n _ _ _ _).trans hn,.inl rfl⟩
end
end Go.Av
