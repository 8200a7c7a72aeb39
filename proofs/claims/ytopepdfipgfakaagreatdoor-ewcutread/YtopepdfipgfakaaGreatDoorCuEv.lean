import Derived.Test.YtopepdfipgfakaaGreatDoorCuEvH
import Derived.Test.YtopepdfipgfakaaGreatDoorCuC
import Derived.Test.YtopepdfipgfakaaGreatDoorProg
import Derived.KernelRfl
namespace Go.Av
set_option linter.unusedSimpArgs false
noncomputable section
open Go.Proofs
set_option maxRecDepth 100000
set_option linter.unusedVariables false
theorem qAg:qe Gc Tryz.prog 47 s_z47:=fun w S hg vals avs r h hS ha=>by
 unfold s_z47 at h
 split at h
 ·rename_i s o
  simp only [Prod.mk.injEq] at h
  obtain ⟨hp,rfl⟩:=h
  obtain ⟨u,rfl,h1⟩:=args1 ha
  obtain ⟨A,cap,rfl,hcap,hA,hcA⟩:=qkL h1
  have hent:(callFunc 47 #[.slice A (List.length s) cap]).run Tryz.prog w=.ok (.enter 47 #[.slice A (List.length s) cap]) w:=enters_of (c:=Tryz.f47.body.getD .skip) Tryz.func47 (by kernel_rfl) (by kernel_rfl) _ _
  refine .inl ⟨hent,(Go.Proofs.lay_walk (S:=S) (qh hp) ?_).mono ?_⟩
  ·intro w' hb
   have hk:Keeps w S w' S:=fun b o hs=>⟨hs,qi (hb.block b (hS b o hs)) o⟩
   have hS':∀ b o,S b o→b < w'.heap.size:=fun b o hs=>Nat.lt_of_lt_of_le (hS b o hs) hb.size
   rcases qBh w' S (qbc w S w' S hk hg) [.slice A (List.length s) cap] [.dat (.sl .byte) s none] _ (show s_z88 _=(true,_) from Prod.ext hp rfl) hS' (qen ((h1.keeps hk).relab none) (qkQ _ _)) with ⟨_,h2⟩ | ⟨v,w2,h2,_⟩
   ·refine h2.mono fun e w2 ⟨v,he,S2,g2,hr⟩=>?_
    obtain ⟨A',cap',rfl,_,hA',hc'⟩:=qkL hr.rd
    refine ⟨A',cap',he,g2.below,hA',fun ad ha' i x hx=>?_⟩
    have hi:=(List.getElem?_eq_some_iff.1 hx).1
    have hx':(z88 s)[i]? = some x:=hx
    have:=hc' ad ha' i hi
    rw [List.getD_eq_getElem?_getD,List.getElem?_map,hx'] at this
    exact this
   ·exfalso
    have:(callFunc 88 #[.slice A (List.length s) cap]).run Tryz.prog w'=.ok (.enter 88 #[.slice A (List.length s) cap]) w':=enters_of (c:=Tryz.f88.body.getD .skip) Tryz.func88 (by kernel_rfl) (by kernel_rfl) _ _
    rw [this] at h2
    cases h2
  ·rintro e w' ⟨v,rfl,hf,hb⟩
   exact ⟨v,rfl,Go.Proofs.res_fresh hS hb hf⟩
 ·cases h
def E_z15:EnvP:=eQ [(44,s_z44),(45,s_z45),(46,s_z46),(47,s_z47),(48,s_z48)] 41 (some [1000006,7]) nC (fun x=>if x=0 then some [0,1,2] else none) (fun x=>if x=32 then some (.osl 5 .byte) else if x=34 then some (.osl 5 .byte) else if x=36 then some (.osl 5 .byte) else none)
def C_z15:Code:=cO Tryz.f15
def R_z15:Array ResultVar:=Tryz.f15.results
theorem qMW (n:Nat) (charset0:Int) (o0:Lab) (code1:Int) (o1:Lab) (s2:List UInt8) (o2:Lab):evFnP E_z15 n C_z15 R_z15 [.dat (.int .i64) charset0 o0,.dat (.int .i64) code1 o1,.dat (.sl .byte) s2 o2]=qGz n charset0 code1 s2:=by
 kernel_rfl
theorem qAh:qe Gc Tryz.prog 15 s_z15:=by
 refine sQ (E:=E_z15) (c:=C_z15) rfl (fun w S hg=>(qb (qpU w S hg) (qb (qpV w S hg) (qb (qBe w S hg) (qb (qAg w S hg) (qb (qpW w S hg) qc)))))) Tryz.func15 ?_
 intro avs r h
 unfold s_z15 at h
 split at h
 ·obtain ⟨hp,rfl⟩:=Prod.mk.inj h
  obtain ⟨n,hn⟩:=qHx _ _ _ hp
  exact ⟨n,_,(qMW n _ _ _ _ _ _).trans hn,.inl rfl⟩
 ·cases h
def E_z75:EnvP:=eQ [(15,s_z15),(120,s_z120)] 25 (some [1000006,7]) nC nC nP
def C_z75:Code:=cO Tryz.f75
def R_z75:Array ResultVar:=Tryz.f75.results
theorem qMX (n:Nat) (charset0:Int) (o0:Lab) (code1:Int) (o1:Lab) (p2:List Int) (o2:Lab):evFnP E_z75 n C_z75 R_z75 [.dat (.int .i64) charset0 o0,.dat (.int .i64) code1 o1,.dat (.sl (.int .i32)) p2 o2]=qGA n charset0 code1 p2:=by
 kernel_rfl
theorem qAi:qe Gc Tryz.prog 75 s_z75:=by
 refine sQ (E:=E_z75) (c:=C_z75) rfl (fun w S hg=>(qb (qAh w S hg) (qb (qlP w S hg) qc))) Tryz.func75 ?_
 intro avs r h
 unfold s_z75 at h
 split at h
 ·obtain ⟨hp,rfl⟩:=Prod.mk.inj h
  obtain ⟨n,hn⟩:=qFN _ _ _ hp
  exact ⟨n,_,(qMX n _ _ _ _ _ _).trans hn,.inl rfl⟩
 ·cases h
def E_z32:EnvP:=eQ [(28,s_z28),(30,s_z30),(75,s_z75)] 57 (some [4,5]) (fun x=>if x=9 then some [6,7,10,35,36,37] else none) (fun x=>if x=0 then some [10] else if x=1 then some [6,7,10,35,36,37] else none) nP
def C_z32:Code:=cO Tryz.f32
def R_z32:Array ResultVar:=Tryz.f32.results
noncomputable def qpB (K:Ex→Fr→Option AV):=fun s4 s5=>K .ret (frOf [(4,(.dat (.sl (.sl .byte)) s4 (some (4,22)))),(5,(.dat (.int .i64) s5 none))])
noncomputable def qlw (K:Ex→Fr→Option AV):=fun out10=>K (.exit 0) (frOf [(10,(.dat (.sl (.sl .byte)) out10 (some (10,22))))])
def qpC (n:Nat):Ex→Fr→Option AV:=qo 0 (E_z32.cutb 0) (kSeq (evCP E_z32 (evLP E_z32 n) (sub C_z32 [1,1,1,1,1,1,1])) (kFnP E_z32 R_z32))
def quN (charset6:Int) (code7:Int) (out10:List (List UInt8)) (s35:List (List Int)) (s36:Int) (s37:Int):Fr:=frOf [(6,(.dat (.int .i64) charset6 none)),(7,(.dat (.int .i64) code7 none)),(10,(.dat (.sl (.sl .byte)) out10 (some (10,22)))),(35,(.dat (.sl (.sl (.int .i32))) s35 none)),(36,(.dat (.int .i64) s36 none)),(37,(.dat (.int .i64) s37 none))]
theorem qAj (K:Ex→Fr→Option AV):∀ (n:Nat) (charset6:Int) (code7:Int) (out10:List (List UInt8)) (s35:List (List Int)) (s36:Int) (s37:Int),evLP E_z32 n (sub C_z32 [1,1,1,1,1,1,0,1,0,0]) K (quN charset6 code7 out10 s35 s36 s37)=qov (qpB K) (qlw K) n charset6 code7 out10 s35 s36 s37:=by
 intro n
 induction n with
 | zero=>intros; rfl
 | succ n IH =>
 intro charset6 code7 out10 s35 s36 s37
 have ih:(fun charset6 code7 out10 s35 s36 s37=>evLP E_z32 n (sub C_z32 [1,1,1,1,1,1,0,1,0,0]) K (quN charset6 code7 out10 s35 s36 s37))=qov (qpB K) (qlw K) n:=by
  funext charset6 code7 out10 s35 s36 s37
  exact IH charset6 code7 out10 s35 s36 s37
 show _=qeZ (qpB K) (qlw K) (qov (qpB K) (qlw K) n) n charset6 code7 out10 s35 s36 s37
 rw [← ih]
 kernel_rfl
theorem qsm (n:Nat) (out10:List (List UInt8)):(qpC n) (.exit 0) (frOf [(10,(.dat (.sl (.sl .byte)) out10 (some (10,22))))])=qhF n out10:=by
 kernel_rfl
theorem qMY (n:Nat) (t0:List Int) (o0:Lab) (first1:Int) (o1:Lab):evFnP E_z32 n C_z32 R_z32 [.dat (.sl (.int .i32)) t0 o0,.dat (.int .i64) first1 o1]=qBS n t0 first1:=by
 unfold qBS
 rw [show qov qbV (qhF n) n=(fun charset6 code7 out10 s35 s36 s37=>evLP E_z32 n (sub C_z32 [1,1,1,1,1,1,0,1,0,0]) (qpC n) (quN charset6 code7 out10 s35 s36 s37)) from by
  funext charset6 code7 out10 s35 s36 s37
  refine Eq.trans ?_ (qAj (qpC n) n charset6 code7 out10 s35 s36 s37).symm
  rw [show (qlw (qpC n))=(qhF n) from by
   funext out10
   exact qsm n out10]
  all_goals kernel_rfl]
 kernel_rfl
theorem qfL:qe Gc Tryz.prog 32 s_z32:=by
 refine sQ (E:=E_z32) (c:=C_z32) rfl (fun w S hg=>(qb (qAX w S hg) (qb (qBb w S hg) (qb (qAi w S hg) qc)))) Tryz.func32 ?_
 intro avs r h
 unfold s_z32 at h
 split at h
 ·obtain ⟨hp,rfl⟩:=Prod.mk.inj h
  obtain ⟨n,hn⟩:=qFO _ _ hp
  exact ⟨n,_,(qMY n _ _ _ _).trans hn,.inl rfl⟩
 ·cases h
def E_z34:EnvP:=eQ [(32,s_z32),(77,s_z77)] 21 (some [1000004,5]) nC nC nP
def C_z34:Code:=cO Tryz.f34
def R_z34:Array ResultVar:=Tryz.f34.results
theorem qMZ (n:Nat) (t0:List Int) (o0:Lab) (first1:Int) (o1:Lab):evFnP E_z34 n C_z34 R_z34 [.dat (.sl (.int .i32)) t0 o0,.dat (.int .i64) first1 o1]=qGB n t0 first1:=by
 kernel_rfl
theorem qAk:qe Gc Tryz.prog 34 s_z34:=by
 refine sQ (E:=E_z34) (c:=C_z34) rfl (fun w S hg=>(qb (qfL w S hg) (qb (qAp w S hg) qc))) Tryz.func34 ?_
 intro avs r h
 unfold s_z34 at h
 split at h
 ·obtain ⟨hp,rfl⟩:=Prod.mk.inj h
  obtain ⟨n,hn⟩:=qFP _ _ hp
  exact ⟨n,_,(qMZ n _ _ _ _).trans hn,.inl rfl⟩
 ·cases h
def E_z36:EnvP:=eQ [(32,s_z32)] 15 (some [4]) nC nC nP
def C_z36:Code:=cO Tryz.f36
def R_z36:Array ResultVar:=Tryz.f36.results
theorem qNa (n:Nat) (t0:List Int) (o0:Lab) (first1:Int) (o1:Lab):evFnP E_z36 n C_z36 R_z36 [.dat (.sl (.int .i32)) t0 o0,.dat (.int .i64) first1 o1]=qGC n t0 first1:=by
 kernel_rfl
theorem qAl:qe Gc Tryz.prog 36 s_z36:=by
 refine sQ (E:=E_z36) (c:=C_z36) rfl (fun w S hg=>(qb (qfL w S hg) qc)) Tryz.func36 ?_
 intro avs r h
 unfold s_z36 at h
 split at h
 ·obtain ⟨hp,rfl⟩:=Prod.mk.inj h
  obtain ⟨n,hn⟩:=qFQ _ _ hp
  exact ⟨n,_,(qNa n _ _ _ _).trans hn,.inl rfl⟩
 ·cases h
def E_z27:EnvP:=eQ [(32,s_z32),(34,s_z34),(36,s_z36)] 31 (some [0]) nC nC nP
def C_z27:Code:=cO Tryz.f27
def R_z27:Array ResultVar:=Tryz.f27.results
theorem qNb (n:Nat)  : evFnP E_z27 n C_z27 R_z27 []=qGD n  := by
 kernel_rfl
theorem qAm:qe Gc Tryz.prog 27 s_z27:=by
 refine sQ (E:=E_z27) (c:=C_z27) rfl (fun w S hg=>(qb (qfL w S hg) (qb (qAk w S hg) (qb (qAl w S hg) qc)))) Tryz.func27 ?_
 intro avs r h
 unfold s_z27 at h
 split at h <;> cases h
 obtain ⟨n,hn⟩:=qFS
 exact ⟨n,_,(qNb n ).trans hn,.inl rfl⟩
def E_z9:EnvP:=eQ [(20,s_z20),(21,s_z21),(23,s_z23),(25,s_z25),(27,s_z27),(32,s_z32)] 83 (some [4]) (fun x=>if x=8 then some [0,1,5,7,30,31,32] else none) (fun x=>if x=0 then some [0,7] else if x=1 then some [0,1,5,7,30,31,32] else none) nP
def C_z9:Code:=cO Tryz.f9
def R_z9:Array ResultVar:=Tryz.f9.results
noncomputable def quO (K:Ex→Fr→Option AV):=fun t0 all7=>K (.exit 0) (frOf [(0,(.dat (.sl (.int .i32)) t0 none)),(7,(.dat (.sl (.int .i32)) all7 (some (7,21))))])
noncomputable def qAn (K:Ex→Fr→Option AV):=fun s4=>K .ret (frOf [(4,(.dat .bool s4 none))])
def qAo (n:Nat):Ex→Fr→Option AV:=qo 0 (E_z9.cutb 0) (kSeq (evCP E_z9 (evLP E_z9 n) (sub C_z9 [1,1,1,1,1,1])) (kFnP E_z9 R_z9))
def qFx (t0:List Int) (first1:Int) (l5:List (List UInt8)) (all7:List Int) (s30:List (List UInt8)) (s31:Int) (s32:Int):Fr:=frOf [(0,(.dat (.sl (.int .i32)) t0 none)),(1,(.dat (.int .i64) first1 none)),(5,(.dat (.sl (.sl .byte)) l5 none)),(7,(.dat (.sl (.int .i32)) all7 (some (7,21)))),(30,(.dat (.sl (.sl .byte)) s30 none)),(31,(.dat (.int .i64) s31 none)),(32,(.dat (.int .i64) s32 none))]
theorem qFy (K:Ex→Fr→Option AV):∀ (n:Nat) (t0:List Int) (first1:Int) (l5:List (List UInt8)) (all7:List Int) (s30:List (List UInt8)) (s31:Int) (s32:Int),evLP E_z9 n (sub C_z9 [1,1,1,1,1,0,1,0,0]) K (qFx t0 first1 l5 all7 s30 s31 s32)=z9_l8 (qAn K) (quO K) n t0 first1 l5 all7 s30 s31 s32:=by
 intro n
 induction n with
 | zero=>intros; rfl
 | succ n IH =>
 intro t0 first1 l5 all7 s30 s31 s32
 have ih:(fun t0 first1 l5 all7 s30 s31 s32=>evLP E_z9 n (sub C_z9 [1,1,1,1,1,0,1,0,0]) K (qFx t0 first1 l5 all7 s30 s31 s32))=z9_l8 (qAn K) (quO K) n:=by
  funext t0 first1 l5 all7 s30 s31 s32
  exact IH t0 first1 l5 all7 s30 s31 s32
 show _=qiu (qAn K) (quO K) (z9_l8 (qAn K) (quO K) n) n t0 first1 l5 all7 s30 s31 s32
 rw [← ih]
 kernel_rfl
theorem quP (n:Nat) (t0:List Int) (all7:List Int):(qAo n) (.exit 0) (frOf [(0,(.dat (.sl (.int .i32)) t0 none)),(7,(.dat (.sl (.int .i32)) all7 (some (7,21))))])=qhG n t0 all7:=by
 kernel_rfl
theorem z9_ev (n:Nat) (t0:List Int) (o0:Lab) (first1:Int) (o1:Lab):evFnP E_z9 n C_z9 R_z9 [.dat (.sl (.int .i32)) t0 o0,.dat (.int .i64) first1 o1]=z9_sh n t0 first1:=by
 unfold z9_sh
 rw [show z9_l8 qhX (qhG n) n=(fun t0 first1 l5 all7 s30 s31 s32=>evLP E_z9 n (sub C_z9 [1,1,1,1,1,0,1,0,0]) (qAo n) (qFx t0 first1 l5 all7 s30 s31 s32)) from by
  funext t0 first1 l5 all7 s30 s31 s32
  refine Eq.trans ?_ (qFy (qAo n) n t0 first1 l5 all7 s30 s31 s32).symm
  rw [show (quO (qAo n))=(qhG n) from by
   funext t0 all7
   exact quP n t0 all7]
  all_goals kernel_rfl]
 kernel_rfl
theorem qFz:qe Gc Tryz.prog 9 s_z9:=by
 refine sQ (E:=E_z9) (c:=C_z9) rfl (fun w S hg=>(qb (qAH w S hg) (qb (qAJ w S hg) (qb (qpK w S hg) (qb (qAO w S hg) (qb (qAm w S hg) (qb (qfL w S hg) qc))))))) Tryz.func9 ?_
 intro avs r h
 unfold s_z9 at h
 split at h
 ·obtain ⟨hp,rfl⟩:=Prod.mk.inj h
  obtain ⟨n,hn⟩:=qMh _ _ hp
  exact ⟨n,_,(z9_ev n _ _ _ _).trans hn,.inl rfl⟩
 ·cases h
end
end Go.Av
