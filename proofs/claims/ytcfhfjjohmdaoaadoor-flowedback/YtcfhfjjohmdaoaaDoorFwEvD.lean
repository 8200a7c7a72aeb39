import Derived.Test.YtcfhfjjohmdaoaaDoorFwEvC
import Derived.Test.YtcfhfjjohmdaoaaDoorFwWalk
import Derived.Test.YtcfhfjjohmdaoaaDoorProg
import Derived.KernelRfl
namespace Go.Av
set_option linter.unusedSimpArgs false
noncomputable section
open Go.Proofs
set_option maxRecDepth 100000
set_option linter.unusedVariables false
def E_z72:EnvP:=eQ [(53,s_z53),(78,s_z78),(88,s_z88)] 28 (some [2]) nC (fun x=>if x=0 then some [1] else none) nP
def C_z72:Code:=cO Tryd.f72
def R_z72:Array ResultVar:=Tryd.f72.results
theorem qxJ (n:Nat) (p0:Int×((List UInt8)×Unit)) (o0:Lab):evFnP E_z72 n C_z72 R_z72 [.dat (.pair (.int .i64) (.pair (.sl .byte) .unit)) p0 o0]=qvH n p0:=by
 kernel_rfl
theorem qsv:qp G Tryd.prog 72 s_z72:=by
 refine sQ (E:=E_z72) (c:=C_z72) rfl (fun w S hg=>(qb (qst w S hg) (qb (qmj w S hg) (qb (qsu w S hg) ql)))) Tryd.func72 ?_;intro avs r h;unfold s_z72 at h;split at h
 ·obtain ⟨hp,rfl⟩:=yj h;obtain ⟨n,hn⟩:=quX _ hp;exact ⟨n,_,(qxJ n _ _).trans hn,.inl rfl⟩
 ·cases h
def E_z80:EnvP:=eQ [(95,s_z95)] 24 (some [2]) nC nC nP
def C_z80:Code:=cO Tryd.f80
def R_z80:Array ResultVar:=Tryd.f80.results
theorem qxK (n:Nat) (text0:List UInt8) (o0:Lab):evFnP E_z80 n C_z80 R_z80 [db text0 o0]=qvI n text0:=by
 kernel_rfl
theorem qqk:qp Any Tryd.prog 80 s_z80:=by
 refine qF qdr (E:=E_z80) (fn:=Tryd.f80) (c:=C_z80) (qn rfl qeo) (fun w S hg=>⟨⟨(qb (qjK w S trivial) ql),fun f sp h=>qbT f sp h w S⟩,glAny w S hg,(fun _ _ h=>by cases h),(fun f sp h=>qcQ f sp h),(fun f it h=>qcS f it h),(fun t kt vt h=>qcR t kt vt h)⟩) follows Tryd.func80 (by kernel_rfl) (by kernel_rfl) (by kernel_rfl) ?_;intro avs r h;unfold s_z80 at h;split at h
 ·obtain ⟨hp,rfl⟩:=yj h;obtain ⟨n,hn⟩:=quW _ hp;exact ⟨n,_,(qxK n _ _).trans hn,.inl rfl⟩
 ·cases h
theorem qgf:qp Any Tryd.prog 48 s_z48:=fun w S hg vals avs r h hS ha=>by
 unfold s_z48 at h;split at h
 ·rename_i d0 o0 s o;simp only [yb] at h;obtain ⟨hp,rfl⟩:=h;unfold qdj at hp;simp only [yf,ym] at hp;obtain ⟨u,v,rfl,h0,h1⟩:=args2 ha;obtain rfl:=qaC h0;obtain ⟨A,cap,rfl,hcap,hA,hcA⟩:=qif h1;have hent:(callFunc 48 #[.int .i64 d0,.slice A (List.length s) cap]).run Tryd.prog w=.ok (.enter 48 #[.int .i64 d0,.slice A (List.length s) cap]) w:=enters_of (c:=Tryd.f48.body.getD .skip) Tryd.func48 (by kernel_rfl) (by kernel_rfl) _ _;refine .inl ⟨hent,(Go.Proofs.stuff_walk hp.1 ?_ (qm hp.2) hA (fun ad ha' i x hx=>?_)).mono ?_⟩
  ·intro w' hb;have hk:Keeps w S w' S:=fun b o hs=>⟨hs,qf (hb.block b (hS b o hs)) o⟩;have hS':∀ b o,S b o→b < w'.heap.size:=fun b o hs=>yH (hS b o hs) hb.size;rcases qqk w' S trivial [.slice A (List.length s) cap] [db s none] _ (show s_z80 _=(true,_) from Prod.ext hp.2 rfl) hS' (qao ((h1.keeps hk).relab none) (qcb _ _)) with ⟨_,h2⟩ | ⟨v,w2,h2,_⟩
   ·refine h2.mono fun e w2 ⟨v,he,S2,g2,hr⟩=>?_;obtain rfl:=qbc hr.rd;exact ⟨he,g2.below⟩
   ·exfalso;have:(callFunc 80 #[.slice A (List.length s) cap]).run Tryd.prog w'=.ok (.enter 80 #[.slice A (List.length s) cap]) w':=enters_of (c:=Tryd.f80.body.getD .skip) Tryd.func80 (by kernel_rfl) (by kernel_rfl) _ _;rw [this] at h2;cases h2
  ·have hi:=(List.getElem?_eq_some_iff.1 hx).1;have:=hcA ad ha' i hi;rw [List.getD_eq_getElem?_getD,List.getElem?_map,hx] at this;exact this
  ·rintro e w' ⟨v,rfl,hf,hb⟩;exact ⟨v,rfl,qpR hS hb hf⟩
 ·cases h
theorem qsw:qp G Tryd.prog 48 s_z48:=fun w S _=>qgf w S trivial
def E_z90:EnvP:=eQ [(48,s_z48),(99,s_z99)] 42 (some [6]) (fun x=>if x=3 then some [0,1,2,7,8] else none) (fun x=>if x=0 then some [7] else if x=1 then some [0,1,2,7,8] else none) nP
def C_z90:Code:=cO Tryd.f90
def R_z90:Array ResultVar:=Tryd.f90.results
noncomputable def qjN (K:Ex→Fr→Option AV):=fun at7=>K (.exit 0) (frOf [(7,dc at7)])
def qmr (n:Nat):Ex→Fr→Option AV:=qL 0 (E_z90.cutb 0) (kSeq (evCP E_z90 (evLP E_z90 n) (sub C_z90 [1,1,1])) (kFnP E_z90 R_z90))
def qql (depth0:Int) (t1:List UInt8) (width2:Int) (at7:Int) (n8:Int):Fr:=frOf [(0,dc depth0),(1,da t1),(2,dc width2),(7,dc at7),(8,dc n8)]
theorem qsx (K:Ex→Fr→Option AV):∀ (n:Nat) (depth0:Int) (t1:List UInt8) (width2:Int) (at7:Int) (n8:Int),evLP E_z90 n (sub C_z90 [1,1,0,1,0,0]) K (qql depth0 t1 width2 at7 n8)=qiI (qjN K) n depth0 t1 width2 at7 n8:=by
 intro n;induction n with
 | zero=>intros; rfl
 | succ n IH =>
 intro depth0 t1 width2 at7 n8;have ih:(fun depth0 t1 width2 at7 n8=>evLP E_z90 n (sub C_z90 [1,1,0,1,0,0]) K (qql depth0 t1 width2 at7 n8))=qiI (qjN K) n:=by
  funext depth0 t1 width2 at7 n8;exact IH depth0 t1 width2 at7 n8
 show _=qiH (qjN K) (qiI (qjN K) n) n depth0 t1 width2 at7 n8;rw [← ih];kernel_rfl
theorem qnS (n:Nat) (at7:Int):(qmr n) (.exit 0) (frOf [(7,dc at7)])=qiJ n at7:=by
 kernel_rfl
theorem qxL (n:Nat) (depth0:Int) (o0:Lab) (t1:List UInt8) (o1:Lab) (width2:Int) (o2:Lab):evFnP E_z90 n C_z90 R_z90 [de depth0 o0,db t1 o1,de width2 o2]=qtg n depth0 t1 width2:=by
 unfold qtg;rw [show qiI (qiJ n) n=(fun depth0 t1 width2 at7 n8=>evLP E_z90 n (sub C_z90 [1,1,0,1,0,0]) (qmr n) (qql depth0 t1 width2 at7 n8)) from by
  funext depth0 t1 width2 at7 n8;refine Eq.trans ?_ (qsx (qmr n) n depth0 t1 width2 at7 n8).symm;rw [show (qjN (qmr n))=(qiJ n) from by
   funext at7;exact qnS n at7]
  all_goals kernel_rfl]
 kernel_rfl
theorem qqm:qp Any Tryd.prog 90 s_z90:=by
 refine qF qdr (E:=E_z90) (fn:=Tryd.f90) (c:=C_z90) (qn rfl qeo) (fun w S hg=>⟨⟨(qb (qgf w S trivial) (qb (qqa w S trivial) ql)),fun f sp h=>qbT f sp h w S⟩,glAny w S hg,(fun _ _ h=>by cases h),(fun f sp h=>qcQ f sp h),(fun f it h=>qcS f it h),(fun t kt vt h=>qcR t kt vt h)⟩) follows Tryd.func90 (by kernel_rfl) (by kernel_rfl) (by kernel_rfl) ?_;intro avs r h;unfold s_z90 at h;split at h
 ·obtain ⟨hp,rfl⟩:=yj h;obtain ⟨n,hn⟩:=qvb _ _ _ hp;exact ⟨n,_,(qxL n _ _ _ _ _ _).trans hn,.inl rfl⟩
 ·cases h
def E_z73:EnvP:=eQ [(48,s_z48),(90,s_z90)] 44 (some [6]) (fun x=>if x=2 then some [0,2,4,7] else none) (fun x=>if x=0 then some [0,4,7] else if x=1 then some [0,2,4,7] else none) nP
def C_z73:Code:=cO Tryd.f73
def R_z73:Array ResultVar:=Tryd.f73.results
noncomputable def qjO (K:Ex→Fr→Option AV):=fun out0 p4 t7=>K (.exit 0) (frOf [(0,(db out0 (some (0,5)))),(4,(.adr (.pair (.int .i64) (.pair (.sl .byte) .unit)) p4)),(7,da t7)])
def qqn (out0:List UInt8) (width2:Int) (p4:Int×((List UInt8)×Unit)) (t7:List UInt8):Fr:=frOf [(0,(db out0 (some (0,5)))),(2,dc width2),(4,(.adr (.pair (.int .i64) (.pair (.sl .byte) .unit)) p4)),(7,da t7)]
theorem qsy (K:Ex→Fr→Option AV):∀ (n:Nat) (out0:List UInt8) (width2:Int) (p4:Int×((List UInt8)×Unit)) (t7:List UInt8),evL E_z73.toEnv n (sub C_z73 [1,1,0,0,0]) K (qqn out0 width2 p4 t7)=qiL (qjO K) n out0 width2 p4 t7:=by
 intro n;induction n with
 | zero=>intros; rfl
 | succ n IH =>
 intro out0 width2 p4 t7;have ih:(fun out0 width2 p4 t7=>evL E_z73.toEnv n (sub C_z73 [1,1,0,0,0]) K (qqn out0 width2 p4 t7))=qiL (qjO K) n:=by
  funext out0 width2 p4 t7;exact IH out0 width2 p4 t7
 show _=qiK (qjO K) (qiL (qjO K) n) n out0 width2 p4 t7;rw [← ih];kernel_rfl
theorem qnT (n:Nat) (out0:List UInt8) (p4:Int×((List UInt8)×Unit)) (t7:List UInt8):(qnA 0 (E_z73.cutb 0) (kSeq (evC E_z73.toEnv (evL E_z73.toEnv n) (sub C_z73 [1,1,1])) (kFn E_z73.toEnv R_z73))) (.exit 0) (frOf [(0,(db out0 (some (0,5)))),(4,(.adr (.pair (.int .i64) (.pair (.sl .byte) .unit)) p4)),(7,da t7)])=qbw n out0 p4 t7:=by
 kernel_rfl
theorem qxM (n:Nat) (out0:List UInt8) (p1:Int×((List UInt8)×Unit)) (o1:Lab) (width2:Int) (o2:Lab):evFnC E_z73.toEnv n C_z73 R_z73 [db out0 (some (0,5)),.dat (.pair (.int .i64) (.pair (.sl .byte) .unit)) p1 o1,de width2 o2]=qth n out0 p1 width2:=by
 unfold qth;rw [show qiL (qbw n) n=(fun out0 width2 p4 t7=>evL E_z73.toEnv n (sub C_z73 [1,1,0,0,0]) (qnA 0 (E_z73.cutb 0) (kSeq (evC E_z73.toEnv (evL E_z73.toEnv n) (sub C_z73 [1,1,1])) (kFn E_z73.toEnv R_z73))) (qqn out0 width2 p4 t7)) from by
  funext out0 width2 p4 t7;refine Eq.trans ?_ (qsy (qnA 0 (E_z73.cutb 0) (kSeq (evC E_z73.toEnv (evL E_z73.toEnv n) (sub C_z73 [1,1,1])) (kFn E_z73.toEnv R_z73))) n out0 width2 p4 t7).symm;rw [show (qjO (qnA 0 (E_z73.cutb 0) (kSeq (evC E_z73.toEnv (evL E_z73.toEnv n) (sub C_z73 [1,1,1])) (kFn E_z73.toEnv R_z73))))=(qbw n) from by
   funext out0 p4 t7;exact qnT n out0 p4 t7]
  all_goals kernel_rfl]
 kernel_rfl
theorem qsz:qnf Tryd.prog 73 s_z73:=by
 refine qkF (E:=E_z73.toEnv) (fn:=Tryd.f73) (c:=C_z73) (qn rfl qeo) (fun w S=>⟨(qb (qgf w S trivial) (qb (qqm w S trivial) ql)),fun f sp h=>qbT f sp h w S⟩) follows Tryd.func73 (by kernel_rfl) (by kernel_rfl) (by kernel_rfl) ?_;intro avs r h;unfold s_z73 at h;split at h
 ·obtain ⟨hp,rfl⟩:=yj h;obtain ⟨n,hn⟩:=qvc _ _ _ hp;exact ⟨n,(qxM n _ _ _ _ _).trans hn⟩
 ·cases h
def E_z39:EnvP:=⟨⟨tiOf tis,fnsOf [(72,s_z72)],cnsOf [(73,s_z73)],[],39,(fun x=>if x=4 then some [0,1,17,18,19] else if x=11 then some [1,8,27,28,29] else none),(fun x=>if x=0 then some [0,1] else if x=1 then some [0,1,17,18,19] else if x=2 then some [8] else if x=3 then some [1,8,27,28,29] else none),some [4,5]⟩,fun _=>none,fun _=>none,fun _=>[],fun _=>none,fun _=>none,fun _=>none,fun _=>none⟩
def C_z39:Code:=cO Tryd.f39
def R_z39:Array ResultVar:=Tryd.f39.results
noncomputable def qjP (K:Ex→Fr→Option AV):=fun l0 width1=>K (.exit 0) (frOf [(0,(.dat (.sl (.pair (.int .i64) (.pair (.sl .byte) .unit))) l0 none)),(1,dc width1)])
noncomputable def qms (K:Ex→Fr→Option AV):=fun s4 s5=>K .ret (frOf [(4,(db s4 (some (4,5)))),(5,dc s5)])
noncomputable def qjQ (K:Ex→Fr→Option AV):=fun out8=>K (.exit 2) (frOf [(8,(db out8 (some (8,5))))])
def qmt (n:Nat):Ex→Fr→Option AV:=qL 2 (E_z39.cutb 2) (kSeq (evCP E_z39 (evLP E_z39 n) (sub C_z39 [1,1,1,1,1])) (kFnP E_z39 R_z39))
def qmu (n:Nat):Ex→Fr→Option AV:=qL 0 (E_z39.cutb 0) (kSeq (evCP E_z39 (evLP E_z39 n) (sub C_z39 [1,1,1])) (kFnP E_z39 R_z39))
def qqo (l0:List (Int×((List UInt8)×Unit))) (width1:Int) (s17:List (Int×((List UInt8)×Unit))) (s18:Int) (s19:Int):Fr:=frOf [(0,(.dat (.sl (.pair (.int .i64) (.pair (.sl .byte) .unit))) l0 none)),(1,dc width1),(17,(.dat (.sl (.pair (.int .i64) (.pair (.sl .byte) .unit))) s17 none)),(18,dc s18),(19,dc s19)]
def qqp (width1:Int) (out8:List UInt8) (s27:List (Int×((List UInt8)×Unit))) (s28:Int) (s29:Int):Fr:=frOf [(1,dc width1),(8,(db out8 (some (8,5)))),(27,(.dat (.sl (.pair (.int .i64) (.pair (.sl .byte) .unit))) s27 none)),(28,dc s28),(29,dc s29)]
theorem qsA (K:Ex→Fr→Option AV):∀ (n:Nat) (l0:List (Int×((List UInt8)×Unit))) (width1:Int) (s17:List (Int×((List UInt8)×Unit))) (s18:Int) (s19:Int),evLP E_z39 n (sub C_z39 [1,1,0,1,0,0]) K (qqo l0 width1 s17 s18 s19)=qgv (qms K) (qjP K) n l0 width1 s17 s18 s19:=by
 intro n;induction n with
 | zero=>intros; rfl
 | succ n IH =>
 intro l0 width1 s17 s18 s19;have ih:(fun l0 width1 s17 s18 s19=>evLP E_z39 n (sub C_z39 [1,1,0,1,0,0]) K (qqo l0 width1 s17 s18 s19))=qgv (qms K) (qjP K) n:=by
  funext l0 width1 s17 s18 s19;exact IH l0 width1 s17 s18 s19
 show _=qew (qms K) (qjP K) (qgv (qms K) (qjP K) n) n l0 width1 s17 s18 s19;rw [← ih];kernel_rfl
theorem qqq (K:Ex→Fr→Option AV):∀ (n:Nat) (width1:Int) (out8:List UInt8) (s27:List (Int×((List UInt8)×Unit))) (s28:Int) (s29:Int),evLP E_z39 n (sub C_z39 [1,1,1,1,0,1,0,0]) K (qqp width1 out8 s27 s28 s29)=qcp (qjQ K) n width1 out8 s27 s28 s29:=by
 intro n;induction n with
 | zero=>intros; rfl
 | succ n IH =>
 intro width1 out8 s27 s28 s29;have ih:(fun width1 out8 s27 s28 s29=>evLP E_z39 n (sub C_z39 [1,1,1,1,0,1,0,0]) K (qqp width1 out8 s27 s28 s29))=qcp (qjQ K) n:=by
  funext width1 out8 s27 s28 s29;exact IH width1 out8 s27 s28 s29
 show _=qcH (qjQ K) (qcp (qjQ K) n) n width1 out8 s27 s28 s29;rw [← ih];kernel_rfl
theorem qlk (n:Nat) (out8:List UInt8):(qmt n) (.exit 2) (frOf [(8,(db out8 (some (8,5))))])=qdV n out8:=by
 kernel_rfl
theorem qnU (n:Nat) (l0:List (Int×((List UInt8)×Unit))) (width1:Int):(qmu n) (.exit 0) (frOf [(0,(.dat (.sl (.pair (.int .i64) (.pair (.sl .byte) .unit))) l0 none)),(1,dc width1)])=qex n l0 width1:=by
 unfold qex;rw [show qcp (qdV n) n=(fun width1 out8 s27 s28 s29=>evLP E_z39 n (sub C_z39 [1,1,1,1,0,1,0,0]) (qmt n) (qqp width1 out8 s27 s28 s29)) from by
  funext width1 out8 s27 s28 s29;refine Eq.trans ?_ (qqq (qmt n) n width1 out8 s27 s28 s29).symm;rw [show (qjQ (qmt n))=(qdV n) from by
   funext out8;exact qlk n out8]
  all_goals kernel_rfl]
 kernel_rfl
theorem qxN (n:Nat) (l0:List (Int×((List UInt8)×Unit))) (o0:Lab) (width1:Int) (o1:Lab):evFnP E_z39 n C_z39 R_z39 [.dat (.sl (.pair (.int .i64) (.pair (.sl .byte) .unit))) l0 o0,de width1 o1]=qti n l0 width1:=by
 unfold qti;rw [show qgv qgu (qex n) n=(fun l0 width1 s17 s18 s19=>evLP E_z39 n (sub C_z39 [1,1,0,1,0,0]) (qmu n) (qqo l0 width1 s17 s18 s19)) from by
  funext l0 width1 s17 s18 s19;refine Eq.trans ?_ (qsA (qmu n) n l0 width1 s17 s18 s19).symm;rw [show (qjP (qmu n))=(qex n) from by
   funext l0 width1;exact qnU n l0 width1]
  all_goals kernel_rfl]
 kernel_rfl
theorem qim:qp G Tryd.prog 39 s_z39:=by
 refine qF G_stays (E:=E_z39) (fn:=Tryd.f39) (c:=C_z39) (qn rfl qeo) (fun w S hg=>⟨⟨(qb (qsv w S hg) ql),fun f sp h=>(qtY qsz qbT) f sp h w S⟩,qjE w S hg,(fun _ _ h=>by cases h),(fun f sp h=>qcQ f sp h),(fun f it h=>qcS f it h),(fun t kt vt h=>qcR t kt vt h)⟩) follows Tryd.func39 (by kernel_rfl) (by kernel_rfl) (by kernel_rfl) ?_;intro avs r h;unfold s_z39 at h;split at h
 ·obtain ⟨hp,rfl⟩:=yj h;obtain ⟨n,hn⟩:=qvd _ _ hp;exact ⟨n,_,(qxN n _ _ _ _).trans hn,.inl rfl⟩
 ·cases h
end
end Go.Av
