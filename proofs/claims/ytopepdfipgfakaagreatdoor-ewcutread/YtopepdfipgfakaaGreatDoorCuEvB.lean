import Derived.Test.YtopepdfipgfakaaGreatDoorCuEvA
import Derived.Test.YtopepdfipgfakaaGreatDoorCuC
import Derived.Test.YtopepdfipgfakaaGreatDoorProg
import Derived.KernelRfl
namespace Go.Av
set_option linter.unusedSimpArgs false
noncomputable section
open Go.Proofs
set_option maxRecDepth 100000
set_option linter.unusedVariables false
def qjp:EnvP:=eQ [(81,s_z81)] 20 (some [2]) (fun x=>if x=3 then some [0,3,4] else none) (fun x=>if x=0 then some [3] else if x=1 then some [0,3,4] else none) nP
def qsq:Code:=cO Tryz.f104
def qIJ:Array ResultVar:=Tryz.f104.results
noncomputable def qgA (K:Ex→Fr→Option AV):=fun out3=>K (.exit 0) (frOf [(3,(.dat (.sl .byte) out3 (some (3,5))))])
def qjq (n:Nat):Ex→Fr→Option AV:=qo 0 (qjp.cutb 0) (kSeq (evCP qjp (evLP qjp n) (sub qsq [1,1,1])) (kFnP qjp qIJ))
def qnd (s0:List UInt8) (out3:List UInt8) (i4:Int):Fr:=frOf [(0,(.dat (.sl .byte) s0 none)),(3,(.dat (.sl .byte) out3 (some (3,5)))),(4,(.dat (.int .i64) i4 none))]
theorem quX (K:Ex→Fr→Option AV):∀ (n:Nat) (s0:List UInt8) (out3:List UInt8) (i4:Int),evLP qjp n (sub qsq [1,1,0,1,0,0]) K (qnd s0 out3 i4)=qha (qgA K) n s0 out3 i4:=by
 intro n
 induction n with
 | zero=>intros; rfl
 | succ n IH =>
 intro s0 out3 i4
 have ih:(fun s0 out3 i4=>evLP qjp n (sub qsq [1,1,0,1,0,0]) K (qnd s0 out3 i4))=qha (qgA K) n:=by
  funext s0 out3 i4
  exact IH s0 out3 i4
 show _=qcg (qgA K) (qha (qgA K) n) n s0 out3 i4
 rw [← ih]
 kernel_rfl
theorem qne (n:Nat) (out3:List UInt8):(qjq n) (.exit 0) (frOf [(3,(.dat (.sl .byte) out3 (some (3,5))))])=qch n out3:=by
 kernel_rfl
theorem qIK (n:Nat) (s0:List UInt8) (o0:Lab):evFnP qjp n qsq qIJ [.dat (.sl .byte) s0 o0]=qqA n s0:=by
 unfold qqA
 rw [show qha (qch n) n=(fun s0 out3 i4=>evLP qjp n (sub qsq [1,1,0,1,0,0]) (qjq n) (qnd s0 out3 i4)) from by
  funext s0 out3 i4
  refine Eq.trans ?_ (quX (qjq n) n s0 out3 i4).symm
  rw [show (qgA (qjq n))=(qch n) from by
   funext out3
   exact qne n out3]
  all_goals kernel_rfl]
 kernel_rfl
theorem quY:qe Gc Tryz.prog 104 s_z104:=by
 refine sQ (E:=qjp) (c:=qsq) rfl (fun w S hg=>(qb (qpF w S hg) qc)) Tryz.func104 ?_
 intro avs r h
 unfold s_z104 at h
 split at h
 ·obtain ⟨hp,rfl⟩:=Prod.mk.inj h
  obtain ⟨n,hn⟩:=qCE _ hp
  exact ⟨n,_,(qIK n _ _).trans hn,.inl rfl⟩
 ·cases h
def qcO:EnvP:=eQ [(82,s_z82)] 36 (some [2]) (fun x=>if x=2 then some [0,3,4] else if x=4 then some [0,3,4] else none) (fun x=>if x=0 then some [0,3,4] else if x=1 then some [0,3,4] else if x=2 then some [0,3,4] else if x=3 then some [0,3,4] else none) nP
def qhV:Code:=cO Tryz.f147
def qFB:Array ResultVar:=Tryz.f147.results
def qaZ (s0:List UInt8) (a3:Int) (b4:Int):Fr:=frOf [(0,(.dat (.sl .byte) s0 none)),(3,(.dat (.int .i64) a3 none)),(4,(.dat (.int .i64) b4 none))]
noncomputable def qgB (K:Ex→Fr→Option AV):=fun s0 a3 b4=>K (.exit 0) (qaZ s0 a3 b4)
noncomputable def qgC (K:Ex→Fr→Option AV):=fun s0 a3 b4=>K (.exit 2) (qaZ s0 a3 b4)
def qjr (n:Nat):Ex→Fr→Option AV:=qo 2 (qcO.cutb 2) (kSeq (evCP qcO (evLP qcO n) (sub qhV [1,1,1,1])) (kFnP qcO qFB))
def qjs (n:Nat):Ex→Fr→Option AV:=qo 0 (qcO.cutb 0) (kSeq (evCP qcO (evLP qcO n) (sub qhV [1,1,1])) (kFnP qcO qFB))
theorem quZ (K:Ex→Fr→Option AV):∀ (n:Nat) (s0:List UInt8) (a3:Int) (b4:Int),evLP qcO n (sub qhV [1,1,0,0,0]) K (qaZ s0 a3 b4)=qdR (qgB K) n s0 a3 b4:=by
 intro n
 induction n with
 | zero=>intros; rfl
 | succ n IH =>
 intro s0 a3 b4
 have ih:(fun s0 a3 b4=>evLP qcO n (sub qhV [1,1,0,0,0]) K (qaZ s0 a3 b4))=qdR (qgB K) n:=by
  funext s0 a3 b4
  exact IH s0 a3 b4
 show _=qci (qgB K) (qdR (qgB K) n) n s0 a3 b4
 rw [← ih]
 kernel_rfl
theorem qva (K:Ex→Fr→Option AV):∀ (n:Nat) (s0:List UInt8) (a3:Int) (b4:Int),evLP qcO n (sub qhV [1,1,1,0,0,0]) K (qaZ s0 a3 b4)=qdS (qgC K) n s0 a3 b4:=by
 intro n
 induction n with
 | zero=>intros; rfl
 | succ n IH =>
 intro s0 a3 b4
 have ih:(fun s0 a3 b4=>evLP qcO n (sub qhV [1,1,1,0,0,0]) K (qaZ s0 a3 b4))=qdS (qgC K) n:=by
  funext s0 a3 b4
  exact IH s0 a3 b4
 show _=qcj (qgC K) (qdS (qgC K) n) n s0 a3 b4
 rw [← ih]
 kernel_rfl
theorem qnf (n:Nat) (s0:List UInt8) (a3:Int) (b4:Int):(qjr n) (.exit 2) (qaZ s0 a3 b4)=qck n s0 a3 b4:=by
 kernel_rfl
theorem qng (n:Nat) (s0:List UInt8) (a3:Int) (b4:Int):(qjs n) (.exit 0) (qaZ s0 a3 b4)=qbs n s0 a3 b4:=by
 unfold qbs
 rw [show qdS (qck n) n=(fun s0 a3 b4=>evLP qcO n (sub qhV [1,1,1,0,0,0]) (qjr n) (qaZ s0 a3 b4)) from by
  funext s0 a3 b4
  refine Eq.trans ?_ (qva (qjr n) n s0 a3 b4).symm
  rw [show (qgC (qjr n))=(qck n) from by
   funext s0 a3 b4
   exact qnf n s0 a3 b4]
  all_goals kernel_rfl]
 kernel_rfl
theorem qIL (n:Nat) (s0:List UInt8) (o0:Lab):evFnP qcO n qhV qFB [.dat (.sl .byte) s0 o0]=qqB n s0:=by
 unfold qqB
 rw [show qdR (qbs n) n=(fun s0 a3 b4=>evLP qcO n (sub qhV [1,1,0,0,0]) (qjs n) (qaZ s0 a3 b4)) from by
  funext s0 a3 b4
  refine Eq.trans ?_ (quZ (qjs n) n s0 a3 b4).symm
  rw [show (qgB (qjs n))=(qbs n) from by
   funext s0 a3 b4
   exact qng n s0 a3 b4]
  all_goals kernel_rfl]
 kernel_rfl
theorem qvb:qe Gc Tryz.prog 147 s_z147:=by
 refine sQ (E:=qcO) (c:=qhV) rfl (fun w S hg=>(qb (qjn w S hg) qc)) Tryz.func147 ?_
 intro avs r h
 unfold s_z147 at h
 split at h
 ·obtain ⟨hp,rfl⟩:=Prod.mk.inj h
  obtain ⟨n,hn⟩:=qCx _ hp
  exact ⟨n,_,(qIL n _ _).trans hn,.inl rfl⟩
 ·cases h
def qjt:EnvP:=eQ [(147,s_z147)] 24 (some [2]) (fun x=>if x=3 then some [0,3,4] else none) (fun x=>if x=0 then some [0,3] else if x=1 then some [0,3,4] else none) nP
def qsr:Code:=cO Tryz.f105
def qIM:Array ResultVar:=Tryz.f105.results
noncomputable def qgD (K:Ex→Fr→Option AV):=fun s0 end3=>K (.exit 0) (frOf [(0,(.dat (.sl .byte) s0 none)),(3,(.dat (.int .i64) end3 none))])
def qju (n:Nat):Ex→Fr→Option AV:=qo 0 (qjt.cutb 0) (kSeq (evCP qjt (evLP qjt n) (sub qsr [1,1,1])) (kFnP qjt qIM))
def qnh (s0:List UInt8) (end3:Int) (i4:Int):Fr:=frOf [(0,(.dat (.sl .byte) s0 none)),(3,(.dat (.int .i64) end3 none)),(4,(.dat (.int .i64) i4 none))]
theorem qvc (K:Ex→Fr→Option AV):∀ (n:Nat) (s0:List UInt8) (end3:Int) (i4:Int),evLP qjt n (sub qsr [1,1,0,1,0,0]) K (qnh s0 end3 i4)=qhb (qgD K) n s0 end3 i4:=by
 intro n
 induction n with
 | zero=>intros; rfl
 | succ n IH =>
 intro s0 end3 i4
 have ih:(fun s0 end3 i4=>evLP qjt n (sub qsr [1,1,0,1,0,0]) K (qnh s0 end3 i4))=qhb (qgD K) n:=by
  funext s0 end3 i4
  exact IH s0 end3 i4
 show _=qcl (qgD K) (qhb (qgD K) n) n s0 end3 i4
 rw [← ih]
 kernel_rfl
theorem qni (n:Nat) (s0:List UInt8) (end3:Int):(qju n) (.exit 0) (frOf [(0,(.dat (.sl .byte) s0 none)),(3,(.dat (.int .i64) end3 none))])=qbt n s0 end3:=by
 kernel_rfl
theorem qIN (n:Nat) (s0:List UInt8) (o0:Lab):evFnP qjt n qsr qIM [.dat (.sl .byte) s0 o0]=qqC n s0:=by
 unfold qqC
 rw [show qhb (qbt n) n=(fun s0 end3 i4=>evLP qjt n (sub qsr [1,1,0,1,0,0]) (qju n) (qnh s0 end3 i4)) from by
  funext s0 end3 i4
  refine Eq.trans ?_ (qvc (qju n) n s0 end3 i4).symm
  rw [show (qgD (qju n))=(qbt n) from by
   funext s0 end3
   exact qni n s0 end3]
  all_goals kernel_rfl]
 kernel_rfl
theorem qvd:qe Gc Tryz.prog 105 s_z105:=by
 refine sQ (E:=qjt) (c:=qsr) rfl (fun w S hg=>(qb (qvb w S hg) qc)) Tryz.func105 ?_
 intro avs r h
 unfold s_z105 at h
 split at h
 ·obtain ⟨hp,rfl⟩:=Prod.mk.inj h
  obtain ⟨n,hn⟩:=qCL _ hp
  exact ⟨n,_,(qIN n _ _).trans hn,.inl rfl⟩
 ·cases h
def E_z57:EnvP:=eQ [(92,s_z92),(104,s_z104),(105,s_z105)] 31 (some [2,3]) (fun x=>if x=3 then some [4,5] else if x=7 then some [4,5,6,7] else none) (fun x=>if x=0 then some [] else if x=1 then some [4,5] else if x=2 then some [4,5] else if x=3 then some [4,5,6,7] else none) nP
def C_z57:Code:=cO Tryz.f57
def R_z57:Array ResultVar:=Tryz.f57.results
noncomputable def qbP (K:Ex→Fr→Option AV):=fun s2 s3=>K .ret (frOf [(2,(.dat (.int .i64) s2 none)),(3,(.dat (.int .i64) s3 none))])
def qfl (b4:List UInt8) (n5:Int):Fr:=frOf [(4,(.dat .str b4 none)),(5,(.dat (.int .i64) n5 none))]
noncomputable def qlz (K:Ex→Fr→Option AV):=fun b4 n5=>K (.exit 2) (qfl b4 n5)
def qpH (n:Nat) (K:Ex→Fr→Option AV):Ex→Fr→Option AV:=qo 2 (E_z57.cutb 2) (qo 1 (E_z57.cutb 1) (kSeq (evCP E_z57 (evLP E_z57 n) (sub C_z57 [1,1,0,1,0,0,1,1])) (kSeq (fun K fr=>evLP E_z57 n (sub C_z57 [1,1,0,1,0,0]) K (cutFP (E_z57.cuts 3) fr)) K)))
def qpI (n:Nat):Ex→Fr→Option AV:=qo 0 (E_z57.cutb 0) (kSeq (evCP E_z57 (evLP E_z57 n) (sub C_z57 [1,1,1])) (kFnP E_z57 R_z57))
def qve (b4:List UInt8) (n5:Int) (l6:List (List UInt8)) (i7:Int):Fr:=frOf [(4,(.dat .str b4 none)),(5,(.dat (.int .i64) n5 none)),(6,(.dat (.sl .str) l6 (some (6,9)))),(7,(.dat (.int .i64) i7 none))]
theorem qAx (K:Ex→Fr→Option AV):∀ (n:Nat) (b4:List UInt8) (n5:Int) (l6:List (List UInt8)) (i7:Int),evLP E_z57 n (sub C_z57 [1,1,0,1,0,0,1,0,0,1,1,0,0]) K (qve b4 n5 l6 i7)=qod (qbP K) (qlz K) n b4 n5 l6 i7:=by
 intro n
 induction n with
 | zero=>intros; rfl
 | succ n IH =>
 intro b4 n5 l6 i7
 have ih:(fun b4 n5 l6 i7=>evLP E_z57 n (sub C_z57 [1,1,0,1,0,0,1,0,0,1,1,0,0]) K (qve b4 n5 l6 i7))=qod (qbP K) (qlz K) n:=by
  funext b4 n5 l6 i7
  exact IH b4 n5 l6 i7
 show _=qeJ (qbP K) (qlz K) (qod (qbP K) (qlz K) n) n b4 n5 l6 i7
 rw [← ih]
 kernel_rfl
theorem qss (K:Ex→Fr→Option AV) (n:Nat) (b4:List UInt8) (n5:Int):(qpH n K) (.exit 2) (qfl b4 n5)=qhc (fun s2 s3=>K .ret (frOf [(2,(.dat (.int .i64) s2 none)),(3,(.dat (.int .i64) s3 none))])) (K (.exit 0) (frOf [])) (fun b4 n5=>evLP E_z57 n (sub C_z57 [1,1,0,1,0,0]) K (qfl b4 n5)) n b4 n5:=by
 kernel_rfl
theorem qAy (K:Ex→Fr→Option AV):∀ (n:Nat) (b4:List UInt8) (n5:Int),evLP E_z57 n (sub C_z57 [1,1,0,1,0,0]) K (qfl b4 n5)=qhe (qbP K) (K (.exit 0) (frOf [])) n b4 n5:=by
 intro n
 induction n with
 | zero=>intros; rfl
 | succ n IH =>
 intro b4 n5
 have ih:(fun b4 n5=>evLP E_z57 n (sub C_z57 [1,1,0,1,0,0]) K (qfl b4 n5))=qhe (qbP K) (K (.exit 0) (frOf [])) n:=by
  funext b4 n5
  exact IH b4 n5
 show _=qhd (qbP K) (K (.exit 0) (frOf [])) (qhe (qbP K) (K (.exit 0) (frOf [])) n) n b4 n5
 rw [← ih]
 unfold qhd
 rw [show qod (qbP K) (qhc (qbP K) (K (.exit 0) (frOf [])) (fun b4 n5=>evLP E_z57 n (sub C_z57 [1,1,0,1,0,0]) K (qfl b4 n5)) n) n=(fun b4 n5 l6 i7=>evLP E_z57 n (sub C_z57 [1,1,0,1,0,0,1,0,0,1,1,0,0]) (qpH n K) (qve b4 n5 l6 i7)) from by
  funext b4 n5 l6 i7
  refine Eq.trans ?_ (qAx (qpH n K) n b4 n5 l6 i7).symm
  rw [show (qlz (qpH n K))=(qhc (qbP K) (K (.exit 0) (frOf [])) (fun b4 n5=>evLP E_z57 n (sub C_z57 [1,1,0,1,0,0]) K (qfl b4 n5)) n) from by
   funext b4 n5
   exact qss K n b4 n5]
  all_goals kernel_rfl]
 kernel_rfl
theorem qst (n:Nat)  : (qpI n) (.exit 0) (frOf [])=qbu n  := by
 kernel_rfl
theorem qNt (n:Nat) (s0:List UInt8) (o0:Lab):evFnP E_z57 n C_z57 R_z57 [.dat (.sl .byte) s0 o0]=qBL n s0:=by
 unfold qBL
 rw [show qhe qaf (qbu n) n=(fun b4 n5=>evLP E_z57 n (sub C_z57 [1,1,0,1,0,0]) (qpI n) (qfl b4 n5)) from by
  funext b4 n5
  refine Eq.trans ?_ (qAy (qpI n) n b4 n5).symm
  rw [show ((qpI n) (.exit 0) (frOf []))=(qbu n) from by
   exact qst n ]
  all_goals kernel_rfl]
 kernel_rfl
theorem qpJ:qe Gc Tryz.prog 57 s_z57:=by
 refine sQ (E:=E_z57) (c:=C_z57) rfl (fun w S hg=>(qb (qAw w S hg) (qb (quY w S hg) (qb (qvd w S hg) qc)))) Tryz.func57 ?_
 intro avs r h
 unfold s_z57 at h
 split at h
 ·obtain ⟨hp,rfl⟩:=Prod.mk.inj h
  obtain ⟨n,hn⟩:=qHs _ hp
  exact ⟨n,_,(qNt n _ _).trans hn,.inl rfl⟩
 ·cases h
def E_z23:EnvP:=eQ [(12,s_z12),(57,s_z57)] 23 (some [2]) nC nC nP
def C_z23:Code:=cO Tryz.f23
def R_z23:Array ResultVar:=Tryz.f23.results
theorem qNu (n:Nat) (s0:List UInt8) (o0:Lab):evFnP E_z23 n C_z23 R_z23 [.dat (.sl .byte) s0 o0]=qGd n s0:=by
 kernel_rfl
theorem qpK:qe Gc Tryz.prog 23 s_z23:=by
 refine sQ (E:=E_z23) (c:=C_z23) rfl (fun w S hg=>(qb (qjo w S hg) (qb (qpJ w S hg) qc))) Tryz.func23 ?_
 intro avs r h
 unfold s_z23 at h
 split at h
 ·obtain ⟨hp,rfl⟩:=Prod.mk.inj h
  obtain ⟨n,hn⟩:=qHt _ hp
  exact ⟨n,_,(qNu n _ _).trans hn,.inl rfl⟩
 ·cases h
def qIO:EnvP:=eQ [] 23 (some [2]) nC nC nP
def qIP:Code:=cO Tryz.f153
def qNv:Array ResultVar:=Tryz.f153.results
theorem qIQ (n:Nat) (c0:UInt8) (o0:Lab):evFnP qIO n qIP qNv [.dat .byte c0 o0]=qxm n c0:=by
 kernel_rfl
theorem qlA:qe Gc Tryz.prog 153 s_z153:=by
 refine sQ (E:=qIO) (c:=qIP) rfl (fun w S hg=>qc) Tryz.func153 ?_
 intro avs r h
 unfold s_z153 at h
 split at h <;> cases h
 obtain ⟨n,hn⟩:=qCz _
 exact ⟨n,_,(qIQ n _ _).trans hn,.inl rfl⟩
def qIR:EnvP:=eQ [] 12 (some [2,3]) nC nC nP
def qIS:Code:=cO Tryz.f193
def qNw:Array ResultVar:=Tryz.f193.results
theorem qIT (n:Nat) (c0:UInt8) (o0:Lab):evFnP qIR n qIS qNw [.dat .byte c0 o0]=qxn n c0:=by
 kernel_rfl
theorem qvf:qe Gc Tryz.prog 193 s_z193:=by
 refine sQ (E:=qIR) (c:=qIS) rfl (fun w S hg=>qc) Tryz.func193 ?_
 intro avs r h
 unfold s_z193 at h
 split at h <;> cases h
 obtain ⟨n,hn⟩:=qCA _
 exact ⟨n,_,(qIT n _ _).trans hn,.inl rfl⟩
def qjv:EnvP:=eQ [(153,s_z153),(193,s_z193)] 55 (some [2]) (fun x=>if x=4 then some [0,3] else none) (fun x=>if x=0 then some [3] else if x=1 then some [0,3] else none) nP
def qsu:Code:=cO Tryz.f152
def qIU:Array ResultVar:=Tryz.f152.results
noncomputable def qgE (K:Ex→Fr→Option AV):=fun n3=>K (.exit 0) (frOf [(3,(.dat (.int .i64) n3 none))])
noncomputable def qjw (K:Ex→Fr→Option AV):=fun s2=>K .ret (frOf [(2,(.dat (.int .i64) s2 none))])
def qjx (n:Nat):Ex→Fr→Option AV:=qo 0 (qjv.cutb 0) (kSeq (evCP qjv (evLP qjv n) (sub qsu [1,1,1,1])) (kFnP qjv qIU))
def qnj (s0:List UInt8) (n3:Int):Fr:=frOf [(0,(.dat (.sl .byte) s0 none)),(3,(.dat (.int .i64) n3 none))]
theorem qvg (K:Ex→Fr→Option AV):∀ (n:Nat) (s0:List UInt8) (n3:Int),evLP qjv n (sub qsu [1,1,1,0,0,0]) K (qnj s0 n3)=qfo (qjw K) (qgE K) n s0 n3:=by
 intro n
 induction n with
 | zero=>intros; rfl
 | succ n IH =>
 intro s0 n3
 have ih:(fun s0 n3=>evLP qjv n (sub qsu [1,1,1,0,0,0]) K (qnj s0 n3))=qfo (qjw K) (qgE K) n:=by
  funext s0 n3
  exact IH s0 n3
 show _=qcm (qjw K) (qgE K) (qfo (qjw K) (qgE K) n) n s0 n3
 rw [← ih]
 kernel_rfl
theorem qnk (n:Nat) (n3:Int):(qjx n) (.exit 0) (frOf [(3,(.dat (.int .i64) n3 none))])=qcn n n3:=by
 kernel_rfl
theorem qIV (n:Nat) (s0:List UInt8) (o0:Lab):evFnP qjv n qsu qIU [.dat (.sl .byte) s0 o0]=qqE n s0:=by
 unfold qqE
 rw [show qfo qbd (qcn n) n=(fun s0 n3=>evLP qjv n (sub qsu [1,1,1,0,0,0]) (qjx n) (qnj s0 n3)) from by
  funext s0 n3
  refine Eq.trans ?_ (qvg (qjx n) n s0 n3).symm
  rw [show (qgE (qjx n))=(qcn n) from by
   funext n3
   exact qnk n n3]
  all_goals kernel_rfl]
 kernel_rfl
theorem qvh:qe Gc Tryz.prog 152 s_z152:=by
 refine sQ (E:=qjv) (c:=qsu) rfl (fun w S hg=>(qb (qlA w S hg) (qb (qvf w S hg) qc))) Tryz.func152 ?_
 intro avs r h
 unfold s_z152 at h
 split at h
 ·obtain ⟨hp,rfl⟩:=Prod.mk.inj h
  obtain ⟨n,hn⟩:=qCC _ hp
  exact ⟨n,_,(qIV n _ _).trans hn,.inl rfl⟩
 ·cases h
def qgF:EnvP:=eQ [(152,s_z152),(153,s_z153)] 58 (some [2,3,4]) (fun x=>if x=8 then some [0,5,7,8] else none) (fun x=>if x=0 then some [5,7] else if x=1 then some [0,5,7,8] else none) nP
def qnl:Code:=cO Tryz.f111
def qIW:Array ResultVar:=Tryz.f111.results
noncomputable def qgG (K:Ex→Fr→Option AV):=fun n5 c7=>K (.exit 0) (frOf [(5,(.dat (.int .i64) n5 none)),(7,(.dat (.int .i64) c7 none))])
def qjy (n:Nat):Ex→Fr→Option AV:=qo 0 (qgF.cutb 0) (kSeq (evCP qgF (evLP qgF n) (sub qnl [1,1,1,0,1,0,1,1,1])) (kSeq (evCP qgF (evLP qgF n) (sub qnl [1,1,1,1])) (kFnP qgF qIW)))
def qnm (s0:List UInt8) (n5:Int) (c7:Int) (i8:Int):Fr:=frOf [(0,(.dat (.sl .byte) s0 none)),(5,(.dat (.int .i64) n5 none)),(7,(.dat (.int .i64) c7 none)),(8,(.dat (.int .i64) i8 none))]
theorem qvi (K:Ex→Fr→Option AV):∀ (n:Nat) (s0:List UInt8) (n5:Int) (c7:Int) (i8:Int),evLP qgF n (sub qnl [1,1,1,0,1,0,1,1,0,1,0,0]) K (qnm s0 n5 c7 i8)=qhf (qgG K) n s0 n5 c7 i8:=by
 intro n
 induction n with
 | zero=>intros; rfl
 | succ n IH =>
 intro s0 n5 c7 i8
 have ih:(fun s0 n5 c7 i8=>evLP qgF n (sub qnl [1,1,1,0,1,0,1,1,0,1,0,0]) K (qnm s0 n5 c7 i8))=qhf (qgG K) n:=by
  funext s0 n5 c7 i8
  exact IH s0 n5 c7 i8
 show _=qco (qgG K) (qhf (qgG K) n) n s0 n5 c7 i8
 rw [← ih]
 kernel_rfl
theorem qnn (n:Nat) (n5:Int) (c7:Int):(qjy n) (.exit 0) (frOf [(5,(.dat (.int .i64) n5 none)),(7,(.dat (.int .i64) c7 none))])=qdT n n5 c7:=by
 kernel_rfl
theorem qIX (n:Nat) (s0:List UInt8) (o0:Lab):evFnP qgF n qnl qIW [.dat (.sl .byte) s0 o0]=qqF n s0:=by
 unfold qqF
 rw [show qhf (qdT n) n=(fun s0 n5 c7 i8=>evLP qgF n (sub qnl [1,1,1,0,1,0,1,1,0,1,0,0]) (qjy n) (qnm s0 n5 c7 i8)) from by
  funext s0 n5 c7 i8
  refine Eq.trans ?_ (qvi (qjy n) n s0 n5 c7 i8).symm
  rw [show (qgG (qjy n))=(qdT n) from by
   funext n5 c7
   exact qnn n n5 c7]
  all_goals kernel_rfl]
 kernel_rfl
theorem qvj:qe Gc Tryz.prog 111 s_z111:=by
 refine sQ (E:=qgF) (c:=qnl) rfl (fun w S hg=>(qb (qvh w S hg) (qb (qlA w S hg) qc))) Tryz.func111 ?_
 intro avs r h
 unfold s_z111 at h
 split at h
 ·obtain ⟨hp,rfl⟩:=Prod.mk.inj h
  obtain ⟨n,hn⟩:=qCD _ hp
  exact ⟨n,_,(qIX n _ _).trans hn,.inl rfl⟩
 ·cases h
def E_z63:EnvP:=eQ [(111,s_z111)] 42 (some [2,3,4]) (fun x=>if x=4 then some [0,5,6,7,8] else none) (fun x=>if x=0 then some [5,6,7] else if x=1 then some [0,5,6,7,8] else none) nP
def C_z63:Code:=cO Tryz.f63
def R_z63:Array ResultVar:=Tryz.f63.results
noncomputable def qlB (K:Ex→Fr→Option AV):=fun out5 broken6 first7=>K (.exit 0) (frOf [(5,(.dat (.sl (.int .i32)) out5 (some (5,21)))),(6,(.dat (.int .i64) broken6 none)),(7,(.dat (.int .i64) first7 none))])
def qpL (n:Nat):Ex→Fr→Option AV:=qo 0 (E_z63.cutb 0) (kSeq (evCP E_z63 (evLP E_z63 n) (sub C_z63 [1,1,1,1])) (kFnP E_z63 R_z63))
def qvk (s0:List UInt8) (out5:List Int) (broken6:Int) (first7:Int) (at8:Int):Fr:=frOf [(0,(.dat (.sl .byte) s0 none)),(5,(.dat (.sl (.int .i32)) out5 (some (5,21)))),(6,(.dat (.int .i64) broken6 none)),(7,(.dat (.int .i64) first7 none)),(8,(.dat (.int .i64) at8 none))]
theorem qAz (K:Ex→Fr→Option AV):∀ (n:Nat) (s0:List UInt8) (out5:List Int) (broken6:Int) (first7:Int) (at8:Int),evLP E_z63 n (sub C_z63 [1,1,1,0,1,0,0]) K (qvk s0 out5 broken6 first7 at8)=qlY (qlB K) n s0 out5 broken6 first7 at8:=by
 intro n
 induction n with
 | zero=>intros; rfl
 | succ n IH =>
 intro s0 out5 broken6 first7 at8
 have ih:(fun s0 out5 broken6 first7 at8=>evLP E_z63 n (sub C_z63 [1,1,1,0,1,0,0]) K (qvk s0 out5 broken6 first7 at8))=qlY (qlB K) n:=by
  funext s0 out5 broken6 first7 at8
  exact IH s0 out5 broken6 first7 at8
 show _=qkx (qlB K) (qlY (qlB K) n) n s0 out5 broken6 first7 at8
 rw [← ih]
 kernel_rfl
theorem qsv (n:Nat) (out5:List Int) (broken6:Int) (first7:Int):(qpL n) (.exit 0) (frOf [(5,(.dat (.sl (.int .i32)) out5 (some (5,21)))),(6,(.dat (.int .i64) broken6 none)),(7,(.dat (.int .i64) first7 none))])=qeL n out5 broken6 first7:=by
 kernel_rfl
theorem qNx (n:Nat) (s0:List UInt8) (o0:Lab):evFnP E_z63 n C_z63 R_z63 [.dat (.sl .byte) s0 o0]=qGe n s0:=by
 unfold qGe
 rw [show qlY (qeL n) n=(fun s0 out5 broken6 first7 at8=>evLP E_z63 n (sub C_z63 [1,1,1,0,1,0,0]) (qpL n) (qvk s0 out5 broken6 first7 at8)) from by
  funext s0 out5 broken6 first7 at8
  refine Eq.trans ?_ (qAz (qpL n) n s0 out5 broken6 first7 at8).symm
  rw [show (qlB (qpL n))=(qeL n) from by
   funext out5 broken6 first7
   exact qsv n out5 broken6 first7]
  all_goals kernel_rfl]
 kernel_rfl
theorem qAA:qe Gc Tryz.prog 63 s_z63:=by
 refine sQ (E:=E_z63) (c:=C_z63) rfl (fun w S hg=>(qb (qvj w S hg) qc)) Tryz.func63 ?_
 intro avs r h
 unfold s_z63 at h
 split at h
 ·obtain ⟨hp,rfl⟩:=Prod.mk.inj h
  obtain ⟨n,hn⟩:=qHh _ hp
  exact ⟨n,_,(qNx n _ _).trans hn,.inl rfl⟩
 ·cases h
end
end Go.Av
