import Derived.Test.YtcfhfjjohmdaoaaDoorFwEvC
import Derived.Test.YtcfhfjjohmdaoaaDoorFwWalk
import Derived.Test.YtcfhfjjohmdaoaaDoorProg
import Derived.KernelRfl
namespace Go.Av
set_option linter.unusedSimpArgs false
noncomputable section
open Go.Proofs
set_option maxRecDepth 100000
set_option linter.unusedVariables false
def E_z72:EnvP:=eQ [(53,s_z53),(78,s_z78),(88,s_z88)] 28 (some [2]) nC (fun x=>if x=0 then some [1] else none) nP
def C_z72:Code:=cO Tryd.f72
def R_z72:Array ResultVar:=Tryd.f72.results
theorem qxM (n:Nat) (p0:Int×((List UInt8)×Unit)) (o0:Lab):evFnP E_z72 n C_z72 R_z72 [.dat (.pair (.int .i64) (.pair (.sl .byte) .unit)) p0 o0]=qvK n p0:=by
 kernel_rfl
theorem qsy:qp G Tryd.prog 72 s_z72:=by
 refine sQ (E:=E_z72) (c:=C_z72) rfl (fun w S hg=>(qb (qsw w S hg) (qb (qmm w S hg) (qb (qsx w S hg) ql)))) Tryd.func72 ?_;intro avs r h;unfold s_z72 at h;split at h
 ·obtain ⟨hp,rfl⟩:=yj h;obtain ⟨n,hn⟩:=qva _ hp;exact ⟨n,_,(qxM n _ _).trans hn,.inl rfl⟩
 ·cases h
def E_z80:EnvP:=eQ [(95,s_z95)] 24 (some [2]) nC nC nP
def C_z80:Code:=cO Tryd.f80
def R_z80:Array ResultVar:=Tryd.f80.results
theorem qxN (n:Nat) (text0:List UInt8) (o0:Lab):evFnP E_z80 n C_z80 R_z80 [db text0 o0]=qvL n text0:=by
 kernel_rfl
theorem qqn:qp Any Tryd.prog 80 s_z80:=by
 refine qF qdr (E:=E_z80) (fn:=Tryd.f80) (c:=C_z80) (qn rfl qeo) (fun w S hg=>⟨⟨(qb (qjN w S trivial) ql),fun f sp h=>qbT f sp h w S⟩,glAny w S hg,(fun _ _ h=>by cases h),(fun f sp h=>qcQ f sp h),(fun f it h=>qcS f it h),(fun t kt vt h=>qcR t kt vt h)⟩) follows Tryd.func80 (by kernel_rfl) (by kernel_rfl) (by kernel_rfl) ?_;intro avs r h;unfold s_z80 at h;split at h
 ·obtain ⟨hp,rfl⟩:=yj h;obtain ⟨n,hn⟩:=quZ _ hp;exact ⟨n,_,(qxN n _ _).trans hn,.inl rfl⟩
 ·cases h
theorem qgh:qp Any Tryd.prog 48 s_z48:=fun w S hg vals avs r h hS ha=>by
 unfold s_z48 at h;split at h
 ·rename_i d0 o0 s o;simp only [yb] at h;obtain ⟨hp,rfl⟩:=h;unfold qdj at hp;simp only [yf,ym] at hp;obtain ⟨u,v,rfl,h0,h1⟩:=args2 ha;obtain rfl:=qaC h0;obtain ⟨A,cap,rfl,hcap,hA,hcA⟩:=qii h1;have hent:(callFunc 48 #[.int .i64 d0,.slice A (List.length s) cap]).run Tryd.prog w=.ok (.enter 48 #[.int .i64 d0,.slice A (List.length s) cap]) w:=enters_of (c:=Tryd.f48.body.getD .skip) Tryd.func48 (by kernel_rfl) (by kernel_rfl) _ _;refine .inl ⟨hent,(Go.Proofs.stuff_walk hp.1 ?_ (qm hp.2) hA (fun ad ha' i x hx=>?_)).mono ?_⟩
  ·intro w' hb;have hk:Keeps w S w' S:=fun b o hs=>⟨hs,qf (hb.block b (hS b o hs)) o⟩;have hS':∀ b o,S b o→b < w'.heap.size:=fun b o hs=>yH (hS b o hs) hb.size;rcases qqn w' S trivial [.slice A (List.length s) cap] [db s none] _ (show s_z80 _=(true,_) from Prod.ext hp.2 rfl) hS' (qao ((h1.keeps hk).relab none) (qcb _ _)) with ⟨_,h2⟩ | ⟨v,w2,h2,_⟩
   ·refine h2.mono fun e w2 ⟨v,he,S2,g2,hr⟩=>?_;obtain rfl:=qbc hr.rd;exact ⟨he,g2.below⟩
   ·exfalso;have:(callFunc 80 #[.slice A (List.length s) cap]).run Tryd.prog w'=.ok (.enter 80 #[.slice A (List.length s) cap]) w':=enters_of (c:=Tryd.f80.body.getD .skip) Tryd.func80 (by kernel_rfl) (by kernel_rfl) _ _;rw [this] at h2;cases h2
  ·have hi:=(List.getElem?_eq_some_iff.1 hx).1;have:=hcA ad ha' i hi;rw [List.getD_eq_getElem?_getD,List.getElem?_map,hx] at this;exact this
  ·rintro e w' ⟨v,rfl,hf,hb⟩;exact ⟨v,rfl,qpU hS hb hf⟩
 ·cases h
theorem qsz:qp G Tryd.prog 48 s_z48:=fun w S _=>qgh w S trivial
def E_z90:EnvP:=eQ [(48,s_z48),(99,s_z99)] 42 (some [6]) (fun x=>if x=3 then some [0,1,2,7,8] else none) (fun x=>if x=0 then some [7] else if x=1 then some [0,1,2,7,8] else none) nP
def C_z90:Code:=cO Tryd.f90
def R_z90:Array ResultVar:=Tryd.f90.results
noncomputable def qjQ (K:Ex→Fr→Option AV):=fun at7=>K (.exit 0) (frOf [(7,dc at7)])
def qmu (n:Nat):Ex→Fr→Option AV:=qL 0 (E_z90.cutb 0) (kSeq (evCP E_z90 (evLP E_z90 n) (sub C_z90 [1,1,1])) (kFnP E_z90 R_z90))
def qqo (depth0:Int) (t1:List UInt8) (width2:Int) (at7:Int) (n8:Int):Fr:=frOf [(0,dc depth0),(1,da t1),(2,dc width2),(7,dc at7),(8,dc n8)]
theorem qsA (K:Ex→Fr→Option AV):∀ (n:Nat) (depth0:Int) (t1:List UInt8) (width2:Int) (at7:Int) (n8:Int),evLP E_z90 n (sub C_z90 [1,1,0,1,0,0]) K (qqo depth0 t1 width2 at7 n8)=qiL (qjQ K) n depth0 t1 width2 at7 n8:=by
 intro n;induction n with
 | zero=>intros; rfl
 | succ n IH =>
 intro depth0 t1 width2 at7 n8;have ih:(fun depth0 t1 width2 at7 n8=>evLP E_z90 n (sub C_z90 [1,1,0,1,0,0]) K (qqo depth0 t1 width2 at7 n8))=qiL (qjQ K) n:=by
  funext depth0 t1 width2 at7 n8;exact IH depth0 t1 width2 at7 n8
 show _=qiK (qjQ K) (qiL (qjQ K) n) n depth0 t1 width2 at7 n8;rw [← ih];kernel_rfl
theorem qnV (n:Nat) (at7:Int):(qmu n) (.exit 0) (frOf [(7,dc at7)])=qiM n at7:=by
 kernel_rfl
theorem qxO (n:Nat) (depth0:Int) (o0:Lab) (t1:List UInt8) (o1:Lab) (width2:Int) (o2:Lab):evFnP E_z90 n C_z90 R_z90 [de depth0 o0,db t1 o1,de width2 o2]=qtj n depth0 t1 width2:=by
 unfold qtj;rw [show qiL (qiM n) n=(fun depth0 t1 width2 at7 n8=>evLP E_z90 n (sub C_z90 [1,1,0,1,0,0]) (qmu n) (qqo depth0 t1 width2 at7 n8)) from by
  funext depth0 t1 width2 at7 n8;refine Eq.trans ?_ (qsA (qmu n) n depth0 t1 width2 at7 n8).symm;rw [show (qjQ (qmu n))=(qiM n) from by
   funext at7;exact qnV n at7]
  all_goals kernel_rfl]
 kernel_rfl
theorem qqp:qp Any Tryd.prog 90 s_z90:=by
 refine qF qdr (E:=E_z90) (fn:=Tryd.f90) (c:=C_z90) (qn rfl qeo) (fun w S hg=>⟨⟨(qb (qgh w S trivial) (qb (qqd w S trivial) ql)),fun f sp h=>qbT f sp h w S⟩,glAny w S hg,(fun _ _ h=>by cases h),(fun f sp h=>qcQ f sp h),(fun f it h=>qcS f it h),(fun t kt vt h=>qcR t kt vt h)⟩) follows Tryd.func90 (by kernel_rfl) (by kernel_rfl) (by kernel_rfl) ?_;intro avs r h;unfold s_z90 at h;split at h
 ·obtain ⟨hp,rfl⟩:=yj h;obtain ⟨n,hn⟩:=qve _ _ _ hp;exact ⟨n,_,(qxO n _ _ _ _ _ _).trans hn,.inl rfl⟩
 ·cases h
def E_z73:EnvP:=eQ [(48,s_z48),(90,s_z90)] 44 (some [6]) (fun x=>if x=2 then some [0,2,4,7] else none) (fun x=>if x=0 then some [0,4,7] else if x=1 then some [0,2,4,7] else none) nP
def C_z73:Code:=cO Tryd.f73
def R_z73:Array ResultVar:=Tryd.f73.results
noncomputable def qjR (K:Ex→Fr→Option AV):=fun out0 p4 t7=>K (.exit 0) (frOf [(0,(db out0 (some (0,5)))),(4,(.adr (.pair (.int .i64) (.pair (.sl .byte) .unit)) p4)),(7,da t7)])
def qqq (out0:List UInt8) (width2:Int) (p4:Int×((List UInt8)×Unit)) (t7:List UInt8):Fr:=frOf [(0,(db out0 (some (0,5)))),(2,dc width2),(4,(.adr (.pair (.int .i64) (.pair (.sl .byte) .unit)) p4)),(7,da t7)]
theorem qsB (K:Ex→Fr→Option AV):∀ (n:Nat) (out0:List UInt8) (width2:Int) (p4:Int×((List UInt8)×Unit)) (t7:List UInt8),evL E_z73.toEnv n (sub C_z73 [1,1,0,0,0]) K (qqq out0 width2 p4 t7)=qiO (qjR K) n out0 width2 p4 t7:=by
 intro n;induction n with
 | zero=>intros; rfl
 | succ n IH =>
 intro out0 width2 p4 t7;have ih:(fun out0 width2 p4 t7=>evL E_z73.toEnv n (sub C_z73 [1,1,0,0,0]) K (qqq out0 width2 p4 t7))=qiO (qjR K) n:=by
  funext out0 width2 p4 t7;exact IH out0 width2 p4 t7
 show _=qiN (qjR K) (qiO (qjR K) n) n out0 width2 p4 t7;rw [← ih];kernel_rfl
theorem qnW (n:Nat) (out0:List UInt8) (p4:Int×((List UInt8)×Unit)) (t7:List UInt8):(qnD 0 (E_z73.cutb 0) (kSeq (evC E_z73.toEnv (evL E_z73.toEnv n) (sub C_z73 [1,1,1])) (kFn E_z73.toEnv R_z73))) (.exit 0) (frOf [(0,(db out0 (some (0,5)))),(4,(.adr (.pair (.int .i64) (.pair (.sl .byte) .unit)) p4)),(7,da t7)])=qbw n out0 p4 t7:=by
 kernel_rfl
theorem qxP (n:Nat) (out0:List UInt8) (p1:Int×((List UInt8)×Unit)) (o1:Lab) (width2:Int) (o2:Lab):evFnC E_z73.toEnv n C_z73 R_z73 [db out0 (some (0,5)),.dat (.pair (.int .i64) (.pair (.sl .byte) .unit)) p1 o1,de width2 o2]=qtk n out0 p1 width2:=by
 unfold qtk;rw [show qiO (qbw n) n=(fun out0 width2 p4 t7=>evL E_z73.toEnv n (sub C_z73 [1,1,0,0,0]) (qnD 0 (E_z73.cutb 0) (kSeq (evC E_z73.toEnv (evL E_z73.toEnv n) (sub C_z73 [1,1,1])) (kFn E_z73.toEnv R_z73))) (qqq out0 width2 p4 t7)) from by
  funext out0 width2 p4 t7;refine Eq.trans ?_ (qsB (qnD 0 (E_z73.cutb 0) (kSeq (evC E_z73.toEnv (evL E_z73.toEnv n) (sub C_z73 [1,1,1])) (kFn E_z73.toEnv R_z73))) n out0 width2 p4 t7).symm;rw [show (qjR (qnD 0 (E_z73.cutb 0) (kSeq (evC E_z73.toEnv (evL E_z73.toEnv n) (sub C_z73 [1,1,1])) (kFn E_z73.toEnv R_z73))))=(qbw n) from by
   funext out0 p4 t7;exact qnW n out0 p4 t7]
  all_goals kernel_rfl]
 kernel_rfl
theorem qsC:qni Tryd.prog 73 s_z73:=by
 refine qkI (E:=E_z73.toEnv) (fn:=Tryd.f73) (c:=C_z73) (qn rfl qeo) (fun w S=>⟨(qb (qgh w S trivial) (qb (qqp w S trivial) ql)),fun f sp h=>qbT f sp h w S⟩) follows Tryd.func73 (by kernel_rfl) (by kernel_rfl) (by kernel_rfl) ?_;intro avs r h;unfold s_z73 at h;split at h
 ·obtain ⟨hp,rfl⟩:=yj h;obtain ⟨n,hn⟩:=qvf _ _ _ hp;exact ⟨n,(qxP n _ _ _ _ _).trans hn⟩
 ·cases h
def E_z39:EnvP:=⟨⟨tiOf tis,fnsOf [(72,s_z72)],cnsOf [(73,s_z73)],[],39,(fun x=>if x=4 then some [0,1,17,18,19] else if x=11 then some [1,8,27,28,29] else none),(fun x=>if x=0 then some [0,1] else if x=1 then some [0,1,17,18,19] else if x=2 then some [8] else if x=3 then some [1,8,27,28,29] else none),some [4,5]⟩,fun _=>none,fun _=>none,fun _=>[],fun _=>none,fun _=>none,fun _=>none,fun _=>none⟩
def C_z39:Code:=cO Tryd.f39
def R_z39:Array ResultVar:=Tryd.f39.results
noncomputable def qjS (K:Ex→Fr→Option AV):=fun l0 width1=>K (.exit 0) (frOf [(0,(.dat (.sl (.pair (.int .i64) (.pair (.sl .byte) .unit))) l0 none)),(1,dc width1)])
noncomputable def qmv (K:Ex→Fr→Option AV):=fun s4 s5=>K .ret (frOf [(4,(db s4 (some (4,5)))),(5,dc s5)])
noncomputable def qjT (K:Ex→Fr→Option AV):=fun out8=>K (.exit 2) (frOf [(8,(db out8 (some (8,5))))])
def qmw (n:Nat):Ex→Fr→Option AV:=qL 2 (E_z39.cutb 2) (kSeq (evCP E_z39 (evLP E_z39 n) (sub C_z39 [1,1,1,1,1])) (kFnP E_z39 R_z39))
def qmx (n:Nat):Ex→Fr→Option AV:=qL 0 (E_z39.cutb 0) (kSeq (evCP E_z39 (evLP E_z39 n) (sub C_z39 [1,1,1])) (kFnP E_z39 R_z39))
def qqr (l0:List (Int×((List UInt8)×Unit))) (width1:Int) (s17:List (Int×((List UInt8)×Unit))) (s18:Int) (s19:Int):Fr:=frOf [(0,(.dat (.sl (.pair (.int .i64) (.pair (.sl .byte) .unit))) l0 none)),(1,dc width1),(17,(.dat (.sl (.pair (.int .i64) (.pair (.sl .byte) .unit))) s17 none)),(18,dc s18),(19,dc s19)]
def qqs (width1:Int) (out8:List UInt8) (s27:List (Int×((List UInt8)×Unit))) (s28:Int) (s29:Int):Fr:=frOf [(1,dc width1),(8,(db out8 (some (8,5)))),(27,(.dat (.sl (.pair (.int .i64) (.pair (.sl .byte) .unit))) s27 none)),(28,dc s28),(29,dc s29)]
theorem qsD (K:Ex→Fr→Option AV):∀ (n:Nat) (l0:List (Int×((List UInt8)×Unit))) (width1:Int) (s17:List (Int×((List UInt8)×Unit))) (s18:Int) (s19:Int),evLP E_z39 n (sub C_z39 [1,1,0,1,0,0]) K (qqr l0 width1 s17 s18 s19)=qgy (qmv K) (qjS K) n l0 width1 s17 s18 s19:=by
 intro n;induction n with
 | zero=>intros; rfl
 | succ n IH =>
 intro l0 width1 s17 s18 s19;have ih:(fun l0 width1 s17 s18 s19=>evLP E_z39 n (sub C_z39 [1,1,0,1,0,0]) K (qqr l0 width1 s17 s18 s19))=qgy (qmv K) (qjS K) n:=by
  funext l0 width1 s17 s18 s19;exact IH l0 width1 s17 s18 s19
 show _=qew (qmv K) (qjS K) (qgy (qmv K) (qjS K) n) n l0 width1 s17 s18 s19;rw [← ih];kernel_rfl
theorem qqt (K:Ex→Fr→Option AV):∀ (n:Nat) (width1:Int) (out8:List UInt8) (s27:List (Int×((List UInt8)×Unit))) (s28:Int) (s29:Int),evLP E_z39 n (sub C_z39 [1,1,1,1,0,1,0,0]) K (qqs width1 out8 s27 s28 s29)=qcp (qjT K) n width1 out8 s27 s28 s29:=by
 intro n;induction n with
 | zero=>intros; rfl
 | succ n IH =>
 intro width1 out8 s27 s28 s29;have ih:(fun width1 out8 s27 s28 s29=>evLP E_z39 n (sub C_z39 [1,1,1,1,0,1,0,0]) K (qqs width1 out8 s27 s28 s29))=qcp (qjT K) n:=by
  funext width1 out8 s27 s28 s29;exact IH width1 out8 s27 s28 s29
 show _=qcH (qjT K) (qcp (qjT K) n) n width1 out8 s27 s28 s29;rw [← ih];kernel_rfl
theorem qln (n:Nat) (out8:List UInt8):(qmw n) (.exit 2) (frOf [(8,(db out8 (some (8,5))))])=qdV n out8:=by
 kernel_rfl
theorem qnX (n:Nat) (l0:List (Int×((List UInt8)×Unit))) (width1:Int):(qmx n) (.exit 0) (frOf [(0,(.dat (.sl (.pair (.int .i64) (.pair (.sl .byte) .unit))) l0 none)),(1,dc width1)])=qex n l0 width1:=by
 unfold qex;rw [show qcp (qdV n) n=(fun width1 out8 s27 s28 s29=>evLP E_z39 n (sub C_z39 [1,1,1,1,0,1,0,0]) (qmw n) (qqs width1 out8 s27 s28 s29)) from by
  funext width1 out8 s27 s28 s29;refine Eq.trans ?_ (qqt (qmw n) n width1 out8 s27 s28 s29).symm;rw [show (qjT (qmw n))=(qdV n) from by
   funext out8;exact qln n out8]
  all_goals kernel_rfl]
 kernel_rfl
theorem qxQ (n:Nat) (l0:List (Int×((List UInt8)×Unit))) (o0:Lab) (width1:Int) (o1:Lab):evFnP E_z39 n C_z39 R_z39 [.dat (.sl (.pair (.int .i64) (.pair (.sl .byte) .unit))) l0 o0,de width1 o1]=qtl n l0 width1:=by
 unfold qtl;rw [show qgy qgx (qex n) n=(fun l0 width1 s17 s18 s19=>evLP E_z39 n (sub C_z39 [1,1,0,1,0,0]) (qmx n) (qqr l0 width1 s17 s18 s19)) from by
  funext l0 width1 s17 s18 s19;refine Eq.trans ?_ (qsD (qmx n) n l0 width1 s17 s18 s19).symm;rw [show (qjS (qmx n))=(qex n) from by
   funext l0 width1;exact qnX n l0 width1]
  all_goals kernel_rfl]
 kernel_rfl
theorem qip:qp G Tryd.prog 39 s_z39:=by
 refine qF G_stays (E:=E_z39) (fn:=Tryd.f39) (c:=C_z39) (qn rfl qeo) (fun w S hg=>⟨⟨(qb (qsy w S hg) ql),fun f sp h=>(qub qsC qbT) f sp h w S⟩,qjH w S hg,(fun _ _ h=>by cases h),(fun f sp h=>qcQ f sp h),(fun f it h=>qcS f it h),(fun t kt vt h=>qcR t kt vt h)⟩) follows Tryd.func39 (by kernel_rfl) (by kernel_rfl) (by kernel_rfl) ?_;intro avs r h;unfold s_z39 at h;split at h
 ·obtain ⟨hp,rfl⟩:=yj h;obtain ⟨n,hn⟩:=qvg _ _ hp;exact ⟨n,_,(qxQ n _ _ _ _).trans hn,.inl rfl⟩
 ·cases h
end
end Go.Av
