import Derived.Test.YtopepdfipgfakaaGreatDoorCuEvE
import Derived.Test.YtopepdfipgfakaaGreatDoorCuC
import Derived.Test.YtopepdfipgfakaaGreatDoorProg
import Derived.KernelRfl
namespace Go.Av
set_option linter.unusedSimpArgs false
noncomputable section
open Go.Proofs
set_option maxRecDepth 100000
set_option linter.unusedVariables false
def E_z32:EnvP:=eQ [(28,s_z28),(30,s_z30),(75,s_z75)] 57 (some [4,5]) (fun x=>if x=9 then some [6,7,10,35,36,37] else none) (fun x=>if x=0 then some [10] else if x=1 then some [6,7,10,35,36,37] else none) nP
def C_z32:Code:=cO Tryz.f32
def R_z32:Array ResultVar:=Tryz.f32.results
noncomputable def qoz (K:Ex→Fr→Option AV):=fun s4 s5=>K .ret (frOf [(4,(.dat (.sl (.sl .byte)) s4 (some (4,22)))),(5,(.dat (.int .i64) s5 none))])
noncomputable def qkA (K:Ex→Fr→Option AV):=fun out10=>K (.exit 0) (frOf [(10,(.dat (.sl (.sl .byte)) out10 (some (10,22))))])
def qoA (n:Nat):Ex→Fr→Option AV:=qm 0 (E_z32.cutb 0) (kSeq (evCP E_z32 (evLP E_z32 n) (sub C_z32 [1,1,1,1,1,1,1])) (kFnP E_z32 R_z32))
def quB (charset6:Int) (code7:Int) (out10:List (List UInt8)) (s35:List (List Int)) (s36:Int) (s37:Int):Fr:=frOf [(6,(.dat (.int .i64) charset6 none)),(7,(.dat (.int .i64) code7 none)),(10,(.dat (.sl (.sl .byte)) out10 (some (10,22)))),(35,(.dat (.sl (.sl (.int .i32))) s35 none)),(36,(.dat (.int .i64) s36 none)),(37,(.dat (.int .i64) s37 none))]
theorem qyK (K:Ex→Fr→Option AV):∀ (n:Nat) (charset6:Int) (code7:Int) (out10:List (List UInt8)) (s35:List (List Int)) (s36:Int) (s37:Int),evLP E_z32 n (sub C_z32 [1,1,1,1,1,1,0,1,0,0]) K (quB charset6 code7 out10 s35 s36 s37)=qmS (qoz K) (qkA K) n charset6 code7 out10 s35 s36 s37:=by
 intro n
 induction n with
 | zero=>intros; rfl
 | succ n IH =>
 intro charset6 code7 out10 s35 s36 s37
 have ih:(fun charset6 code7 out10 s35 s36 s37=>evLP E_z32 n (sub C_z32 [1,1,1,1,1,1,0,1,0,0]) K (quB charset6 code7 out10 s35 s36 s37))=qmS (qoz K) (qkA K) n:=by
  funext charset6 code7 out10 s35 s36 s37
  exact IH charset6 code7 out10 s35 s36 s37
 show _=qei (qoz K) (qkA K) (qmS (qoz K) (qkA K) n) n charset6 code7 out10 s35 s36 s37
 rw [← ih]
 kernel_rfl
theorem qrq (n:Nat) (out10:List (List UInt8)):(qoA n) (.exit 0) (frOf [(10,(.dat (.sl (.sl .byte)) out10 (some (10,22))))])=qgA n out10:=by
 kernel_rfl
theorem qLg (n:Nat) (t0:List Int) (o0:Lab) (first1:Int) (o1:Lab):evFnP E_z32 n C_z32 R_z32 [.dat (.sl (.int .i32)) t0 o0,.dat (.int .i64) first1 o1]=qzE n t0 first1:=by
 unfold qzE
 rw [show qmS qbC (qgA n) n=(fun charset6 code7 out10 s35 s36 s37=>evLP E_z32 n (sub C_z32 [1,1,1,1,1,1,0,1,0,0]) (qoA n) (quB charset6 code7 out10 s35 s36 s37)) from by
  funext charset6 code7 out10 s35 s36 s37
  refine Eq.trans ?_ (qyK (qoA n) n charset6 code7 out10 s35 s36 s37).symm
  rw [show (qkA (qoA n))=(qgA n) from by
   funext out10
   exact qrq n out10]
  all_goals kernel_rfl]
 kernel_rfl
theorem qfd:qe Gc Tryz.prog 32 s_z32:=by
 refine sQ (E:=E_z32) (c:=C_z32) rfl (fun w S hg=>(qb (qyw w S hg) (qb (qyA w S hg) (qb (qyJ w S hg) qc)))) Tryz.func32 ?_
 intro avs r h
 unfold s_z32 at h
 split at h
 ·obtain ⟨hp,rfl⟩:=Prod.mk.inj h
  obtain ⟨n,hn⟩:=qDi _ _ hp
  exact ⟨n,_,(qLg n _ _ _ _).trans hn,.inl rfl⟩
 ·cases h
def E_z34:EnvP:=eQ [(32,s_z32),(77,s_z77)] 21 (some [1000004,5]) nC nC nP
def C_z34:Code:=cO Tryz.f34
def R_z34:Array ResultVar:=Tryz.f34.results
theorem qLh (n:Nat) (t0:List Int) (o0:Lab) (first1:Int) (o1:Lab):evFnP E_z34 n C_z34 R_z34 [.dat (.sl (.int .i32)) t0 o0,.dat (.int .i64) first1 o1]=qDE n t0 first1:=by
 kernel_rfl
theorem qoB:qe Gc Tryz.prog 34 s_z34:=by
 refine sQ (E:=E_z34) (c:=C_z34) rfl (fun w S hg=>(qb (qfd w S hg) (qb (qyk w S hg) qc))) Tryz.func34 ?_
 intro avs r h
 unfold s_z34 at h
 split at h
 ·obtain ⟨hp,rfl⟩:=Prod.mk.inj h
  obtain ⟨n,hn⟩:=qDk _ _ hp
  exact ⟨n,_,(qLh n _ _ _ _).trans hn,.inl rfl⟩
 ·cases h
def E_z36:EnvP:=eQ [(32,s_z32)] 15 (some [4]) nC nC nP
def C_z36:Code:=cO Tryz.f36
def R_z36:Array ResultVar:=Tryz.f36.results
theorem qLi (n:Nat) (t0:List Int) (o0:Lab) (first1:Int) (o1:Lab):evFnP E_z36 n C_z36 R_z36 [.dat (.sl (.int .i32)) t0 o0,.dat (.int .i64) first1 o1]=qDF n t0 first1:=by
 kernel_rfl
theorem qoC:qe Gc Tryz.prog 36 s_z36:=by
 refine sQ (E:=E_z36) (c:=C_z36) rfl (fun w S hg=>(qb (qfd w S hg) qc)) Tryz.func36 ?_
 intro avs r h
 unfold s_z36 at h
 split at h
 ·obtain ⟨hp,rfl⟩:=Prod.mk.inj h
  obtain ⟨n,hn⟩:=qDl _ _ hp
  exact ⟨n,_,(qLi n _ _ _ _).trans hn,.inl rfl⟩
 ·cases h
def E_z27:EnvP:=eQ [(32,s_z32),(34,s_z34),(36,s_z36)] 31 (some [0]) nC nC nP
def C_z27:Code:=cO Tryz.f27
def R_z27:Array ResultVar:=Tryz.f27.results
theorem qLj (n:Nat)  : evFnP E_z27 n C_z27 R_z27 []=qDG n  := by
 kernel_rfl
theorem qyL:qe Gc Tryz.prog 27 s_z27:=by
 refine sQ (E:=E_z27) (c:=C_z27) rfl (fun w S hg=>(qb (qfd w S hg) (qb (qoB w S hg) (qb (qoC w S hg) qc)))) Tryz.func27 ?_
 intro avs r h
 unfold s_z27 at h
 split at h <;> cases h
 obtain ⟨n,hn⟩:=qDp
 exact ⟨n,_,(qLj n ).trans hn,.inl rfl⟩
def qaO:EnvP:=eQ [] 28 (some [2]) (fun x=>if x=3 then some [0,3,4] else if x=6 then some [0,3,4,5] else none) (fun x=>if x=0 then some [3] else if x=1 then some [0,3,4] else if x=2 then some [0,3,4] else if x=3 then some [0,3,4,5] else none) nP
def qdk:Code:=cO Tryz.f134
def qIj:Array ResultVar:=Tryz.f134.results
def qby (s0:List UInt8) (out3:List Int) (i4:Int):Fr:=frOf [(0,(.dat (.sl .byte) s0 none)),(3,(.dat (.sl (.int .i64)) out3 (some (3,3)))),(4,(.dat (.int .i64) i4 none))]
noncomputable def qge (K:Ex→Fr→Option AV):=fun s0 out3 i4=>K (.exit 2) (qby s0 out3 i4)
noncomputable def qcy (K:Ex→Fr→Option AV):=fun out3=>K (.exit 0) (frOf [(3,(.dat (.sl (.int .i64)) out3 (some (3,3))))])
def qiR (n:Nat) (K:Ex→Fr→Option AV):Ex→Fr→Option AV:=qm 2 (qaO.cutb 2) (qm 1 (qaO.cutb 1) (kSeq (evCP qaO (evLP qaO n) (sub qdk [1,1,0,1,0,0,1,1])) (kSeq (fun K fr=>evLP qaO n (sub qdk [1,1,0,1,0,0]) K (cutFP (qaO.cuts 3) fr)) K)))
def qiS (n:Nat):Ex→Fr→Option AV:=qm 0 (qaO.cutb 0) (kSeq (evCP qaO (evLP qaO n) (sub qdk [1,1,1])) (kFnP qaO qIj))
def qmt (s0:List UInt8) (out3:List Int) (i4:Int) (k5:Int):Fr:=frOf [(0,(.dat (.sl .byte) s0 none)),(3,(.dat (.sl (.int .i64)) out3 (some (3,3)))),(4,(.dat (.int .i64) i4 none)),(5,(.dat (.int .i64) k5 none))]
theorem quC (K:Ex→Fr→Option AV):∀ (n:Nat) (s0:List UInt8) (out3:List Int) (i4:Int) (k5:Int),evLP qaO n (sub qdk [1,1,0,1,0,0,1,0,0,1,0,0]) K (qmt s0 out3 i4 k5)=qdu (qge K) n s0 out3 i4 k5:=by
 intro n
 induction n with
 | zero=>intros; rfl
 | succ n IH =>
 intro s0 out3 i4 k5
 have ih:(fun s0 out3 i4 k5=>evLP qaO n (sub qdk [1,1,0,1,0,0,1,0,0,1,0,0]) K (qmt s0 out3 i4 k5))=qdu (qge K) n:=by
  funext s0 out3 i4 k5
  exact IH s0 out3 i4 k5
 show _=qce (qge K) (qdu (qge K) n) n s0 out3 i4 k5
 rw [← ih]
 kernel_rfl
theorem qmu (K:Ex→Fr→Option AV) (n:Nat) (s0:List UInt8) (out3:List Int) (i4:Int):(qiR n K) (.exit 2) (qby s0 out3 i4)=qdv (fun out3=>K (.exit 0) (frOf [(3,(.dat (.sl (.int .i64)) out3 (some (3,3))))])) (fun s0 out3 i4=>evLP qaO n (sub qdk [1,1,0,1,0,0]) K (qby s0 out3 i4)) n s0 out3 i4:=by
 kernel_rfl
theorem quD (K:Ex→Fr→Option AV):∀ (n:Nat) (s0:List UInt8) (out3:List Int) (i4:Int),evLP qaO n (sub qdk [1,1,0,1,0,0]) K (qby s0 out3 i4)=qgB (qcy K) n s0 out3 i4:=by
 intro n
 induction n with
 | zero=>intros; rfl
 | succ n IH =>
 intro s0 out3 i4
 have ih:(fun s0 out3 i4=>evLP qaO n (sub qdk [1,1,0,1,0,0]) K (qby s0 out3 i4))=qgB (qcy K) n:=by
  funext s0 out3 i4
  exact IH s0 out3 i4
 show _=qbe (qcy K) (qgB (qcy K) n) n s0 out3 i4
 rw [← ih]
 unfold qbe
 rw [show qdu (qdv (qcy K) (fun s0 out3 i4=>evLP qaO n (sub qdk [1,1,0,1,0,0]) K (qby s0 out3 i4)) n) n=(fun s0 out3 i4 k5=>evLP qaO n (sub qdk [1,1,0,1,0,0,1,0,0,1,0,0]) (qiR n K) (qmt s0 out3 i4 k5)) from by
  funext s0 out3 i4 k5
  refine Eq.trans ?_ (quC (qiR n K) n s0 out3 i4 k5).symm
  rw [show (qge (qiR n K))=(qdv (qcy K) (fun s0 out3 i4=>evLP qaO n (sub qdk [1,1,0,1,0,0]) K (qby s0 out3 i4)) n) from by
   funext s0 out3 i4
   exact qmu K n s0 out3 i4]
  all_goals kernel_rfl]
 kernel_rfl
theorem qmv (n:Nat) (out3:List Int):(qiS n) (.exit 0) (frOf [(3,(.dat (.sl (.int .i64)) out3 (some (3,3))))])=qdw n out3:=by
 kernel_rfl
theorem qIk (n:Nat) (s0:List UInt8) (o0:Lab):evFnP qaO n qdk qIj [.dat (.sl .byte) s0 o0]=qpC n s0:=by
 unfold qpC
 rw [show qgB (qdw n) n=(fun s0 out3 i4=>evLP qaO n (sub qdk [1,1,0,1,0,0]) (qiS n) (qby s0 out3 i4)) from by
  funext s0 out3 i4
  refine Eq.trans ?_ (quD (qiS n) n s0 out3 i4).symm
  rw [show (qcy (qiS n))=(qdw n) from by
   funext out3
   exact qmv n out3]
  all_goals kernel_rfl]
 kernel_rfl
theorem quE:qe Gc Tryz.prog 134 s_z134:=by
 refine sQ (E:=qaO) (c:=qdk) rfl (fun w S hg=>qc) Tryz.func134 ?_
 intro avs r h
 unfold s_z134 at h
 split at h
 ·obtain ⟨hp,rfl⟩:=Prod.mk.inj h
  obtain ⟨n,hn⟩:=qAh _ hp
  exact ⟨n,_,(qIk n _ _).trans hn,.inl rfl⟩
 ·cases h
def qIl:EnvP:=eQ [] 31 (some [2]) nC (fun x=>if x=0 then some [] else none) nP
def qIm:Code:=cO Tryz.f135
def qLk:Array ResultVar:=Tryz.f135.results
theorem qIn (n:Nat) (n0:Int) (o0:Lab):evFnP qIl n qIm qLk [.dat (.int .i64) n0 o0]=qwv n n0:=by
 kernel_rfl
theorem quF:qe Gc Tryz.prog 135 s_z135:=by
 refine sQ (E:=qIl) (c:=qIm) rfl (fun w S hg=>qc) Tryz.func135 ?_
 intro avs r h
 unfold s_z135 at h
 split at h <;> cases h
 obtain ⟨n,hn⟩:=qAf _
 exact ⟨n,_,(qIn n _ _).trans hn,.inl rfl⟩
def qiT:EnvP:=eQ [] 19 (some [2]) (fun x=>if x=3 then some [0,3,4] else none) (fun x=>if x=0 then some [3] else if x=1 then some [0,3,4] else none) nP
def qrr:Code:=cO Tryz.f136
def qIo:Array ResultVar:=Tryz.f136.results
noncomputable def qgf (K:Ex→Fr→Option AV):=fun n3=>K (.exit 0) (frOf [(3,(.dat (.int .i64) n3 none))])
def qiU (n:Nat):Ex→Fr→Option AV:=qm 0 (qiT.cutb 0) (kSeq (evCP qiT (evLP qiT n) (sub qrr [1,1,1])) (kFnP qiT qIo))
def qmw (l0:List Int) (n3:Int) (i4:Int):Fr:=frOf [(0,(.dat (.sl (.int .i64)) l0 none)),(3,(.dat (.int .i64) n3 none)),(4,(.dat (.int .i64) i4 none))]
theorem quG (K:Ex→Fr→Option AV):∀ (n:Nat) (l0:List Int) (n3:Int) (i4:Int),evLP qiT n (sub qrr [1,1,0,1,0,0]) K (qmw l0 n3 i4)=qgC (qgf K) n l0 n3 i4:=by
 intro n
 induction n with
 | zero=>intros; rfl
 | succ n IH =>
 intro l0 n3 i4
 have ih:(fun l0 n3 i4=>evLP qiT n (sub qrr [1,1,0,1,0,0]) K (qmw l0 n3 i4))=qgC (qgf K) n:=by
  funext l0 n3 i4
  exact IH l0 n3 i4
 show _=qcf (qgf K) (qgC (qgf K) n) n l0 n3 i4
 rw [← ih]
 kernel_rfl
theorem qmx (n:Nat) (n3:Int):(qiU n) (.exit 0) (frOf [(3,(.dat (.int .i64) n3 none))])=qdx n n3:=by
 kernel_rfl
theorem qIp (n:Nat) (l0:List Int) (o0:Lab):evFnP qiT n qrr qIo [.dat (.sl (.int .i64)) l0 o0]=qpD n l0:=by
 unfold qpD
 rw [show qgC (qdx n) n=(fun l0 n3 i4=>evLP qiT n (sub qrr [1,1,0,1,0,0]) (qiU n) (qmw l0 n3 i4)) from by
  funext l0 n3 i4
  refine Eq.trans ?_ (quG (qiU n) n l0 n3 i4).symm
  rw [show (qgf (qiU n))=(qdx n) from by
   funext n3
   exact qmx n n3]
  all_goals kernel_rfl]
 kernel_rfl
theorem quH:qe Gc Tryz.prog 136 s_z136:=by
 refine sQ (E:=qiT) (c:=qrr) rfl (fun w S hg=>qc) Tryz.func136 ?_
 intro avs r h
 unfold s_z136 at h
 split at h
 ·obtain ⟨hp,rfl⟩:=Prod.mk.inj h
  obtain ⟨n,hn⟩:=qAg _ hp
  exact ⟨n,_,(qIp n _ _).trans hn,.inl rfl⟩
 ·cases h
def E_z90:EnvP:=eQ [(134,s_z134),(135,s_z135),(136,s_z136)] 32 (some [2]) (fun x=>if x=2 then some [3] else if x=6 then some [3,4,5] else none) (fun x=>if x=0 then some [3] else if x=1 then some [3] else if x=2 then some [4] else if x=3 then some [3,4,5] else none) nP
def C_z90:Code:=cO Tryz.f90
def R_z90:Array ResultVar:=Tryz.f90.results
def qkB (l3:List Int):Fr:=frOf [(3,(.dat (.sl (.int .i64)) l3 (some (3,3))))]
noncomputable def qkC (K:Ex→Fr→Option AV):=fun l3=>K (.exit 0) (qkB l3)
noncomputable def qkD (K:Ex→Fr→Option AV):=fun out4=>K (.exit 2) (frOf [(4,(.dat (.sl .byte) out4 (some (4,5))))])
def qoD (n:Nat):Ex→Fr→Option AV:=qm 2 (E_z90.cutb 2) (kSeq (evCP E_z90 (evLP E_z90 n) (sub C_z90 [1,1,1,1,1])) (kFnP E_z90 R_z90))
def qoE (n:Nat):Ex→Fr→Option AV:=qm 0 (E_z90.cutb 0) (kSeq (evCP E_z90 (evLP E_z90 n) (sub C_z90 [1,1,1])) (kFnP E_z90 R_z90))
def quI (l3:List Int) (out4:List UInt8) (i5:Int):Fr:=frOf [(3,(.dat (.sl (.int .i64)) l3 (some (3,3)))),(4,(.dat (.sl .byte) out4 (some (4,5)))),(5,(.dat (.int .i64) i5 none))]
theorem qyM (K:Ex→Fr→Option AV):∀ (n:Nat) (l3:List Int),evLP E_z90 n (sub C_z90 [1,1,0,0,0]) K (qkB l3)=qmT (qkC K) n l3:=by
 intro n
 induction n with
 | zero=>intros; rfl
 | succ n IH =>
 intro l3
 have ih:(fun l3=>evLP E_z90 n (sub C_z90 [1,1,0,0,0]) K (qkB l3))=qmT (qkC K) n:=by
  funext l3
  exact IH l3
 show _=qjo (qkC K) (qmT (qkC K) n) n l3
 rw [← ih]
 kernel_rfl
theorem qyN (K:Ex→Fr→Option AV):∀ (n:Nat) (l3:List Int) (out4:List UInt8) (i5:Int),evLP E_z90 n (sub C_z90 [1,1,1,1,0,1,0,0]) K (quI l3 out4 i5)=qmU (qkD K) n l3 out4 i5:=by
 intro n
 induction n with
 | zero=>intros; rfl
 | succ n IH =>
 intro l3 out4 i5
 have ih:(fun l3 out4 i5=>evLP E_z90 n (sub C_z90 [1,1,1,1,0,1,0,0]) K (quI l3 out4 i5))=qmU (qkD K) n:=by
  funext l3 out4 i5
  exact IH l3 out4 i5
 show _=qej (qkD K) (qmU (qkD K) n) n l3 out4 i5
 rw [← ih]
 kernel_rfl
theorem qrs (n:Nat) (out4:List UInt8):(qoD n) (.exit 2) (frOf [(4,(.dat (.sl .byte) out4 (some (4,5))))])=qgD n out4:=by
 kernel_rfl
theorem qrt (n:Nat) (l3:List Int):(qoE n) (.exit 0) (qkB l3)=qbf n l3:=by
 unfold qbf
 rw [show qmU (qgD n) n=(fun l3 out4 i5=>evLP E_z90 n (sub C_z90 [1,1,1,1,0,1,0,0]) (qoD n) (quI l3 out4 i5)) from by
  funext l3 out4 i5
  refine Eq.trans ?_ (qyN (qoD n) n l3 out4 i5).symm
  rw [show (qkD (qoD n))=(qgD n) from by
   funext out4
   exact qrs n out4]
  all_goals kernel_rfl]
 kernel_rfl
theorem qLl (n:Nat) (s0:List UInt8) (o0:Lab):evFnP E_z90 n C_z90 R_z90 [.dat (.sl .byte) s0 o0]=qzF n s0:=by
 unfold qzF
 rw [show qmT (qbf n) n=(fun l3=>evLP E_z90 n (sub C_z90 [1,1,0,0,0]) (qoE n) (qkB l3)) from by
  funext l3
  refine Eq.trans ?_ (qyM (qoE n) n l3).symm
  rw [show (qkC (qoE n))=(qbf n) from by
   funext l3
   exact qrt n l3]
  all_goals kernel_rfl]
 kernel_rfl
theorem qyO:qe Gc Tryz.prog 90 s_z90:=by
 refine sQ (E:=E_z90) (c:=C_z90) rfl (fun w S hg=>(qb (quE w S hg) (qb (quF w S hg) (qb (quH w S hg) qc)))) Tryz.func90 ?_
 intro avs r h
 unfold s_z90 at h
 split at h
 ·obtain ⟨hp,rfl⟩:=Prod.mk.inj h
  obtain ⟨n,hn⟩:=qEm _ hp
  exact ⟨n,_,(qLl n _ _).trans hn,.inl rfl⟩
 ·cases h
def E_z49:EnvP:=eQ [(90,s_z90)] 14 (some [2]) (fun x=>if x=2 then some [3] else none) (fun x=>if x=0 then some [3] else if x=1 then some [3] else none) nP
def C_z49:Code:=cO Tryz.f49
def R_z49:Array ResultVar:=Tryz.f49.results
def qkE (out3:List UInt8):Fr:=frOf [(3,(.dat (.sl .byte) out3 (some (3,5))))]
noncomputable def qkF (K:Ex→Fr→Option AV):=fun out3=>K (.exit 0) (qkE out3)
def qoF (n:Nat):Ex→Fr→Option AV:=qm 0 (E_z49.cutb 0) (kSeq (evCP E_z49 (evLP E_z49 n) (sub C_z49 [1,1,1])) (kFnP E_z49 R_z49))
theorem qyP (K:Ex→Fr→Option AV):∀ (n:Nat) (out3:List UInt8),evLP E_z49 n (sub C_z49 [1,1,0,0,0]) K (qkE out3)=qmV (qkF K) n out3:=by
 intro n
 induction n with
 | zero=>intros; rfl
 | succ n IH =>
 intro out3
 have ih:(fun out3=>evLP E_z49 n (sub C_z49 [1,1,0,0,0]) K (qkE out3))=qmV (qkF K) n:=by
  funext out3
  exact IH out3
 show _=qjp (qkF K) (qmV (qkF K) n) n out3
 rw [← ih]
 kernel_rfl
theorem qru (n:Nat) (out3:List UInt8):(qoF n) (.exit 0) (qkE out3)=qek n out3:=by
 kernel_rfl
theorem qLm (n:Nat) (s0:List UInt8) (o0:Lab):evFnP E_z49 n C_z49 R_z49 [.dat (.sl .byte) s0 o0]=qzG n s0:=by
 unfold qzG
 rw [show qmV (qek n) n=(fun out3=>evLP E_z49 n (sub C_z49 [1,1,0,0,0]) (qoF n) (qkE out3)) from by
  funext out3
  refine Eq.trans ?_ (qyP (qoF n) n out3).symm
  rw [show (qkF (qoF n))=(qek n) from by
   funext out3
   exact qru n out3]
  all_goals kernel_rfl]
 kernel_rfl
theorem qoG:qe Gc Tryz.prog 49 s_z49:=by
 refine sQ (E:=E_z49) (c:=C_z49) rfl (fun w S hg=>(qb (qyO w S hg) qc)) Tryz.func49 ?_
 intro avs r h
 unfold s_z49 at h
 split at h
 ·obtain ⟨hp,rfl⟩:=Prod.mk.inj h
  obtain ⟨n,hn⟩:=qEn _ hp
  exact ⟨n,_,(qLm n _ _).trans hn,.inl rfl⟩
 ·cases h
def qiV:EnvP:=eQ [] 17 (some [4]) (fun x=>if x=2 then some [0,1,5] else none) (fun x=>if x=0 then some [] else if x=1 then some [0,1,5] else none) nP
def qrv:Code:=cO Tryz.f179
def qIq:Array ResultVar:=Tryz.f179.results
noncomputable def qiW (K:Ex→Fr→Option AV):=fun s4=>K .ret (frOf [(4,(.dat .bool s4 none))])
def qiX (n:Nat):Ex→Fr→Option AV:=qm 0 (qiV.cutb 0) (kSeq (evCP qiV (evLP qiV n) (sub qrv [1,1])) (kFnP qiV qIq))
def qmy (s0:List UInt8) (c1:UInt8) (i5:Int):Fr:=frOf [(0,(.dat .str s0 none)),(1,(.dat .byte c1 none)),(5,(.dat (.int .i64) i5 none))]
theorem quJ (K:Ex→Fr→Option AV):∀ (n:Nat) (s0:List UInt8) (c1:UInt8) (i5:Int),evLP qiV n (sub qrv [1,0,1,0,0]) K (qmy s0 c1 i5)=qdy (qiW K) (K (.exit 0) (frOf [])) n s0 c1 i5:=by
 intro n
 induction n with
 | zero=>intros; rfl
 | succ n IH =>
 intro s0 c1 i5
 have ih:(fun s0 c1 i5=>evLP qiV n (sub qrv [1,0,1,0,0]) K (qmy s0 c1 i5))=qdy (qiW K) (K (.exit 0) (frOf [])) n:=by
  funext s0 c1 i5
  exact IH s0 c1 i5
 show _=qcg (qiW K) (K (.exit 0) (frOf [])) (qdy (qiW K) (K (.exit 0) (frOf [])) n) n s0 c1 i5
 rw [← ih]
 kernel_rfl
theorem qmz (n:Nat)  : (qiX n) (.exit 0) (frOf [])=qdz n  := by
 kernel_rfl
theorem qIr (n:Nat) (s0:List UInt8) (o0:Lab) (c1:UInt8) (o1:Lab):evFnP qiV n qrv qIq [.dat .str s0 o0,.dat .byte c1 o1]=qlb n s0 c1:=by
 unfold qlb
 rw [show qdy qel (qdz n) n=(fun s0 c1 i5=>evLP qiV n (sub qrv [1,0,1,0,0]) (qiX n) (qmy s0 c1 i5)) from by
  funext s0 c1 i5
  refine Eq.trans ?_ (quJ (qiX n) n s0 c1 i5).symm
  rw [show ((qiX n) (.exit 0) (frOf []))=(qdz n) from by
   exact qmz n ]
  all_goals kernel_rfl]
 kernel_rfl
theorem quK:qe Gc Tryz.prog 179 s_z179:=by
 refine sQ (E:=qiV) (c:=qrv) rfl (fun w S hg=>qc) Tryz.func179 ?_
 intro avs r h
 unfold s_z179 at h
 split at h
 ·obtain ⟨hp,rfl⟩:=Prod.mk.inj h
  obtain ⟨n,hn⟩:=qzW _ _ hp
  exact ⟨n,_,(qIr n _ _ _ _).trans hn,.inl rfl⟩
 ·cases h
end
end Go.Av
