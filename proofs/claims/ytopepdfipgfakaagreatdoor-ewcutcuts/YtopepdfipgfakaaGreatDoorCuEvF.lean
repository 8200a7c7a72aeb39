import Derived.Test.YtopepdfipgfakaaGreatDoorCuEvE
import Derived.Test.YtopepdfipgfakaaGreatDoorCuC
import Derived.Test.YtopepdfipgfakaaGreatDoorProg
import Derived.KernelRfl
namespace Go.Av
set_option linter.unusedSimpArgs false
noncomputable section
open Go.Proofs
set_option maxRecDepth 100000
set_option linter.unusedVariables false
def E_z15:EnvP:=eQ [(44,s_z44),(45,s_z45),(46,s_z46),(47,s_z47),(48,s_z48)] 41 (some [1000006,7]) nC (fun x=>if x=0 then some [0,1,2] else none) (fun x=>if x=32 then some (.osl 5 .byte) else if x=34 then some (.osl 5 .byte) else if x=36 then some (.osl 5 .byte) else none)
def C_z15:Code:=cO Tryz.f15
def R_z15:Array ResultVar:=Tryz.f15.results
theorem qKf (n:Nat) (charset0:Int) (o0:Lab) (code1:Int) (o1:Lab) (s2:List UInt8) (o2:Lab):evFnP E_z15 n C_z15 R_z15 [.dat (.int .i64) charset0 o0,.dat (.int .i64) code1 o1,.dat (.sl .byte) s2 o2]=qCH n charset0 code1 s2:=by
 kernel_rfl
theorem qxK:qe Gc Tryz.prog 15 s_z15:=by
 refine sQ (E:=E_z15) (c:=C_z15) rfl (fun w S hg=>(qb (qnI w S hg) (qb (qnJ w S hg) (qb (qxF w S hg) (qb (qxJ w S hg) (qb (qnK w S hg) qc)))))) Tryz.func15 ?_
 intro avs r h
 unfold s_z15 at h
 split at h
 ·obtain ⟨hp,rfl⟩:=Prod.mk.inj h
  obtain ⟨n,hn⟩:=qDx _ _ _ hp
  exact ⟨n,_,(qKf n _ _ _ _ _ _).trans hn,.inl rfl⟩
 ·cases h
def E_z75:EnvP:=eQ [(15,s_z15),(120,s_z120)] 25 (some [1000006,7]) nC nC nP
def C_z75:Code:=cO Tryz.f75
def R_z75:Array ResultVar:=Tryz.f75.results
theorem qKg (n:Nat) (charset0:Int) (o0:Lab) (code1:Int) (o1:Lab) (p2:List Int) (o2:Lab):evFnP E_z75 n C_z75 R_z75 [.dat (.int .i64) charset0 o0,.dat (.int .i64) code1 o1,.dat (.sl (.int .i32)) p2 o2]=qCI n charset0 code1 p2:=by
 kernel_rfl
theorem qxL:qe Gc Tryz.prog 75 s_z75:=by
 refine sQ (E:=E_z75) (c:=C_z75) rfl (fun w S hg=>(qb (qxK w S hg) (qb (qkc w S hg) qc))) Tryz.func75 ?_
 intro avs r h
 unfold s_z75 at h
 split at h
 ·obtain ⟨hp,rfl⟩:=Prod.mk.inj h
  obtain ⟨n,hn⟩:=qCo _ _ _ hp
  exact ⟨n,_,(qKg n _ _ _ _ _ _).trans hn,.inl rfl⟩
 ·cases h
def E_z32:EnvP:=eQ [(28,s_z28),(30,s_z30),(75,s_z75)] 57 (some [4,5]) (fun x=>if x=9 then some [6,7,10,35,36,37] else none) (fun x=>if x=0 then some [10] else if x=1 then some [6,7,10,35,36,37] else none) nP
def C_z32:Code:=cO Tryz.f32
def R_z32:Array ResultVar:=Tryz.f32.results
noncomputable def qob (K:Ex→Fr→Option AV):=fun s4 s5=>K .ret (frOf [(4,(.dat (.sl (.sl .byte)) s4 (some (4,22)))),(5,(.dat (.int .i64) s5 none))])
noncomputable def qkh (K:Ex→Fr→Option AV):=fun out10=>K (.exit 0) (frOf [(10,(.dat (.sl (.sl .byte)) out10 (some (10,22))))])
def qoc (n:Nat):Ex→Fr→Option AV:=qm 0 (E_z32.cutb 0) (kSeq (evCP E_z32 (evLP E_z32 n) (sub C_z32 [1,1,1,1,1,1,1])) (kFnP E_z32 R_z32))
def qtK (charset6:Int) (code7:Int) (out10:List (List UInt8)) (s35:List (List Int)) (s36:Int) (s37:Int):Fr:=frOf [(6,(.dat (.int .i64) charset6 none)),(7,(.dat (.int .i64) code7 none)),(10,(.dat (.sl (.sl .byte)) out10 (some (10,22)))),(35,(.dat (.sl (.sl (.int .i32))) s35 none)),(36,(.dat (.int .i64) s36 none)),(37,(.dat (.int .i64) s37 none))]
theorem qxM (K:Ex→Fr→Option AV):∀ (n:Nat) (charset6:Int) (code7:Int) (out10:List (List UInt8)) (s35:List (List Int)) (s36:Int) (s37:Int),evLP E_z32 n (sub C_z32 [1,1,1,1,1,1,0,1,0,0]) K (qtK charset6 code7 out10 s35 s36 s37)=qmz (qob K) (qkh K) n charset6 code7 out10 s35 s36 s37:=by
 intro n
 induction n with
 | zero=>intros; rfl
 | succ n IH =>
 intro charset6 code7 out10 s35 s36 s37
 have ih:(fun charset6 code7 out10 s35 s36 s37=>evLP E_z32 n (sub C_z32 [1,1,1,1,1,1,0,1,0,0]) K (qtK charset6 code7 out10 s35 s36 s37))=qmz (qob K) (qkh K) n:=by
  funext charset6 code7 out10 s35 s36 s37
  exact IH charset6 code7 out10 s35 s36 s37
 show _=qed (qob K) (qkh K) (qmz (qob K) (qkh K) n) n charset6 code7 out10 s35 s36 s37
 rw [← ih]
 kernel_rfl
theorem qqA (n:Nat) (out10:List (List UInt8)):(qoc n) (.exit 0) (frOf [(10,(.dat (.sl (.sl .byte)) out10 (some (10,22))))])=qgr n out10:=by
 kernel_rfl
theorem qKh (n:Nat) (t0:List Int) (o0:Lab) (first1:Int) (o1:Lab):evFnP E_z32 n C_z32 R_z32 [.dat (.sl (.int .i32)) t0 o0,.dat (.int .i64) first1 o1]=qyM n t0 first1:=by
 unfold qyM
 rw [show qmz qbA (qgr n) n=(fun charset6 code7 out10 s35 s36 s37=>evLP E_z32 n (sub C_z32 [1,1,1,1,1,1,0,1,0,0]) (qoc n) (qtK charset6 code7 out10 s35 s36 s37)) from by
  funext charset6 code7 out10 s35 s36 s37
  refine Eq.trans ?_ (qxM (qoc n) n charset6 code7 out10 s35 s36 s37).symm
  rw [show (qkh (qoc n))=(qgr n) from by
   funext out10
   exact qqA n out10]
  all_goals kernel_rfl]
 kernel_rfl
theorem qiC:qe Gc Tryz.prog 32 s_z32:=by
 refine sQ (E:=E_z32) (c:=C_z32) rfl (fun w S hg=>(qb (qnV w S hg) (qb (qnX w S hg) (qb (qxL w S hg) qc)))) Tryz.func32 ?_
 intro avs r h
 unfold s_z32 at h
 split at h
 ·obtain ⟨hp,rfl⟩:=Prod.mk.inj h
  obtain ⟨n,hn⟩:=qCp _ _ hp
  exact ⟨n,_,(qKh n _ _ _ _).trans hn,.inl rfl⟩
 ·cases h
def E_z34:EnvP:=eQ [(32,s_z32),(77,s_z77)] 21 (some [1000004,5]) nC nC nP
def C_z34:Code:=cO Tryz.f34
def R_z34:Array ResultVar:=Tryz.f34.results
theorem qKi (n:Nat) (t0:List Int) (o0:Lab) (first1:Int) (o1:Lab):evFnP E_z34 n C_z34 R_z34 [.dat (.sl (.int .i32)) t0 o0,.dat (.int .i64) first1 o1]=qCJ n t0 first1:=by
 kernel_rfl
theorem qxN:qe Gc Tryz.prog 34 s_z34:=by
 refine sQ (E:=E_z34) (c:=C_z34) rfl (fun w S hg=>(qb (qiC w S hg) (qb (qxo w S hg) qc))) Tryz.func34 ?_
 intro avs r h
 unfold s_z34 at h
 split at h
 ·obtain ⟨hp,rfl⟩:=Prod.mk.inj h
  obtain ⟨n,hn⟩:=qCr _ _ hp
  exact ⟨n,_,(qKi n _ _ _ _).trans hn,.inl rfl⟩
 ·cases h
def E_z36:EnvP:=eQ [(32,s_z32)] 15 (some [4]) nC nC nP
def C_z36:Code:=cO Tryz.f36
def R_z36:Array ResultVar:=Tryz.f36.results
theorem qKj (n:Nat) (t0:List Int) (o0:Lab) (first1:Int) (o1:Lab):evFnP E_z36 n C_z36 R_z36 [.dat (.sl (.int .i32)) t0 o0,.dat (.int .i64) first1 o1]=qCK n t0 first1:=by
 kernel_rfl
theorem qxO:qe Gc Tryz.prog 36 s_z36:=by
 refine sQ (E:=E_z36) (c:=C_z36) rfl (fun w S hg=>(qb (qiC w S hg) qc)) Tryz.func36 ?_
 intro avs r h
 unfold s_z36 at h
 split at h
 ·obtain ⟨hp,rfl⟩:=Prod.mk.inj h
  obtain ⟨n,hn⟩:=qCs _ _ hp
  exact ⟨n,_,(qKj n _ _ _ _).trans hn,.inl rfl⟩
 ·cases h
def E_z27:EnvP:=eQ [(32,s_z32),(34,s_z34),(36,s_z36)] 31 (some [0]) nC nC nP
def C_z27:Code:=cO Tryz.f27
def R_z27:Array ResultVar:=Tryz.f27.results
theorem qKk (n:Nat)  : evFnP E_z27 n C_z27 R_z27 []=qCL n  := by
 kernel_rfl
theorem qxP:qe Gc Tryz.prog 27 s_z27:=by
 refine sQ (E:=E_z27) (c:=C_z27) rfl (fun w S hg=>(qb (qiC w S hg) (qb (qxN w S hg) (qb (qxO w S hg) qc)))) Tryz.func27 ?_
 intro avs r h
 unfold s_z27 at h
 split at h <;> cases h
 obtain ⟨n,hn⟩:=qCu
 exact ⟨n,_,(qKk n ).trans hn,.inl rfl⟩
def E_z92:EnvP:=eQ [] 19 (some [2]) nC (fun x=>if x=0 then some [] else none) nP
def C_z92:Code:=cO Tryz.f92
def R_z92:Array ResultVar:=Tryz.f92.results
theorem qKl (n:Nat) (n0:Int) (o0:Lab):evFnP E_z92 n C_z92 R_z92 [.dat (.int .i64) n0 o0]=qCM n n0:=by
 kernel_rfl
theorem qxQ:qe Gc Tryz.prog 92 s_z92:=by
 refine sQ (E:=E_z92) (c:=C_z92) rfl (fun w S hg=>qc) Tryz.func92 ?_
 intro avs r h
 unfold s_z92 at h
 split at h <;> cases h
 obtain ⟨n,hn⟩:=qDc _
 exact ⟨n,_,(qKl n _ _).trans hn,.inl rfl⟩
def E_z51:EnvP:=eQ [(92,s_z92)] 12 (some [2]) nC nC nP
def C_z51:Code:=cO Tryz.f51
def R_z51:Array ResultVar:=Tryz.f51.results
theorem qKm (n:Nat) (n0:Int) (o0:Lab):evFnP E_z51 n C_z51 R_z51 [.dat (.int .i64) n0 o0]=qCN n n0:=by
 kernel_rfl
theorem qxR:qe Gc Tryz.prog 51 s_z51:=by
 refine sQ (E:=E_z51) (c:=C_z51) rfl (fun w S hg=>(qb (qxQ w S hg) qc)) Tryz.func51 ?_
 intro avs r h
 unfold s_z51 at h
 split at h <;> cases h
 obtain ⟨n,hn⟩:=qDe _
 exact ⟨n,_,(qKm n _ _).trans hn,.inl rfl⟩
def E_z18:EnvP:=eQ [(51,s_z51)] 13 (some [2]) nC nC nP
def C_z18:Code:=cO Tryz.f18
def R_z18:Array ResultVar:=Tryz.f18.results
theorem qKn (n:Nat) (charset0:Int) (o0:Lab):evFnP E_z18 n C_z18 R_z18 [.dat (.int .i64) charset0 o0]=qCO n charset0:=by
 kernel_rfl
theorem qxS:qe Gc Tryz.prog 18 s_z18:=by
 refine sQ (E:=E_z18) (c:=C_z18) rfl (fun w S hg=>(qb (qxR w S hg) qc)) Tryz.func18 ?_
 intro avs r h
 unfold s_z18 at h
 split at h <;> cases h
 obtain ⟨n,hn⟩:=qDj _
 exact ⟨n,_,(qKn n _ _).trans hn,.inl rfl⟩
def qaL:EnvP:=eQ [] 28 (some [2]) (fun x=>if x=3 then some [0,3,4] else if x=6 then some [0,3,4,5] else none) (fun x=>if x=0 then some [3] else if x=1 then some [0,3,4] else if x=2 then some [0,3,4] else if x=3 then some [0,3,4,5] else none) nP
def qdg:Code:=cO Tryz.f134
def qHn:Array ResultVar:=Tryz.f134.results
def qbw (s0:List UInt8) (out3:List Int) (i4:Int):Fr:=frOf [(0,(.dat (.sl .byte) s0 none)),(3,(.dat (.sl (.int .i64)) out3 (some (3,3)))),(4,(.dat (.int .i64) i4 none))]
noncomputable def qfV (K:Ex→Fr→Option AV):=fun s0 out3 i4=>K (.exit 2) (qbw s0 out3 i4)
noncomputable def qcu (K:Ex→Fr→Option AV):=fun out3=>K (.exit 0) (frOf [(3,(.dat (.sl (.int .i64)) out3 (some (3,3))))])
def qiD (n:Nat) (K:Ex→Fr→Option AV):Ex→Fr→Option AV:=qm 2 (qaL.cutb 2) (qm 1 (qaL.cutb 1) (kSeq (evCP qaL (evLP qaL n) (sub qdg [1,1,0,1,0,0,1,1])) (kSeq (fun K fr=>evLP qaL n (sub qdg [1,1,0,1,0,0]) K (cutFP (qaL.cuts 3) fr)) K)))
def qiE (n:Nat):Ex→Fr→Option AV:=qm 0 (qaL.cutb 0) (kSeq (evCP qaL (evLP qaL n) (sub qdg [1,1,1])) (kFnP qaL qHn))
def qlZ (s0:List UInt8) (out3:List Int) (i4:Int) (k5:Int):Fr:=frOf [(0,(.dat (.sl .byte) s0 none)),(3,(.dat (.sl (.int .i64)) out3 (some (3,3)))),(4,(.dat (.int .i64) i4 none)),(5,(.dat (.int .i64) k5 none))]
theorem qtL (K:Ex→Fr→Option AV):∀ (n:Nat) (s0:List UInt8) (out3:List Int) (i4:Int) (k5:Int),evLP qaL n (sub qdg [1,1,0,1,0,0,1,0,0,1,0,0]) K (qlZ s0 out3 i4 k5)=qdq (qfV K) n s0 out3 i4 k5:=by
 intro n
 induction n with
 | zero=>intros; rfl
 | succ n IH =>
 intro s0 out3 i4 k5
 have ih:(fun s0 out3 i4 k5=>evLP qaL n (sub qdg [1,1,0,1,0,0,1,0,0,1,0,0]) K (qlZ s0 out3 i4 k5))=qdq (qfV K) n:=by
  funext s0 out3 i4 k5
  exact IH s0 out3 i4 k5
 show _=qcb (qfV K) (qdq (qfV K) n) n s0 out3 i4 k5
 rw [← ih]
 kernel_rfl
theorem qma (K:Ex→Fr→Option AV) (n:Nat) (s0:List UInt8) (out3:List Int) (i4:Int):(qiD n K) (.exit 2) (qbw s0 out3 i4)=qdr (fun out3=>K (.exit 0) (frOf [(3,(.dat (.sl (.int .i64)) out3 (some (3,3))))])) (fun s0 out3 i4=>evLP qaL n (sub qdg [1,1,0,1,0,0]) K (qbw s0 out3 i4)) n s0 out3 i4:=by
 kernel_rfl
theorem qtM (K:Ex→Fr→Option AV):∀ (n:Nat) (s0:List UInt8) (out3:List Int) (i4:Int),evLP qaL n (sub qdg [1,1,0,1,0,0]) K (qbw s0 out3 i4)=qgt (qcu K) n s0 out3 i4:=by
 intro n
 induction n with
 | zero=>intros; rfl
 | succ n IH =>
 intro s0 out3 i4
 have ih:(fun s0 out3 i4=>evLP qaL n (sub qdg [1,1,0,1,0,0]) K (qbw s0 out3 i4))=qgt (qcu K) n:=by
  funext s0 out3 i4
  exact IH s0 out3 i4
 show _=qbb (qcu K) (qgt (qcu K) n) n s0 out3 i4
 rw [← ih]
 unfold qbb
 rw [show qdq (qdr (qcu K) (fun s0 out3 i4=>evLP qaL n (sub qdg [1,1,0,1,0,0]) K (qbw s0 out3 i4)) n) n=(fun s0 out3 i4 k5=>evLP qaL n (sub qdg [1,1,0,1,0,0,1,0,0,1,0,0]) (qiD n K) (qlZ s0 out3 i4 k5)) from by
  funext s0 out3 i4 k5
  refine Eq.trans ?_ (qtL (qiD n K) n s0 out3 i4 k5).symm
  rw [show (qfV (qiD n K))=(qdr (qcu K) (fun s0 out3 i4=>evLP qaL n (sub qdg [1,1,0,1,0,0]) K (qbw s0 out3 i4)) n) from by
   funext s0 out3 i4
   exact qma K n s0 out3 i4]
  all_goals kernel_rfl]
 kernel_rfl
theorem qmb (n:Nat) (out3:List Int):(qiE n) (.exit 0) (frOf [(3,(.dat (.sl (.int .i64)) out3 (some (3,3))))])=qds n out3:=by
 kernel_rfl
theorem qHo (n:Nat) (s0:List UInt8) (o0:Lab):evFnP qaL n qdg qHn [.dat (.sl .byte) s0 o0]=qoT n s0:=by
 unfold qoT
 rw [show qgt (qds n) n=(fun s0 out3 i4=>evLP qaL n (sub qdg [1,1,0,1,0,0]) (qiE n) (qbw s0 out3 i4)) from by
  funext s0 out3 i4
  refine Eq.trans ?_ (qtM (qiE n) n s0 out3 i4).symm
  rw [show (qcu (qiE n))=(qds n) from by
   funext out3
   exact qmb n out3]
  all_goals kernel_rfl]
 kernel_rfl
theorem qtN:qe Gc Tryz.prog 134 s_z134:=by
 refine sQ (E:=qaL) (c:=qdg) rfl (fun w S hg=>qc) Tryz.func134 ?_
 intro avs r h
 unfold s_z134 at h
 split at h
 ·obtain ⟨hp,rfl⟩:=Prod.mk.inj h
  obtain ⟨n,hn⟩:=qzn _ hp
  exact ⟨n,_,(qHo n _ _).trans hn,.inl rfl⟩
 ·cases h
def qHp:EnvP:=eQ [] 31 (some [2]) nC (fun x=>if x=0 then some [] else none) nP
def qHq:Code:=cO Tryz.f135
def qKo:Array ResultVar:=Tryz.f135.results
theorem qHr (n:Nat) (n0:Int) (o0:Lab):evFnP qHp n qHq qKo [.dat (.int .i64) n0 o0]=qvD n n0:=by
 kernel_rfl
theorem qtO:qe Gc Tryz.prog 135 s_z135:=by
 refine sQ (E:=qHp) (c:=qHq) rfl (fun w S hg=>qc) Tryz.func135 ?_
 intro avs r h
 unfold s_z135 at h
 split at h <;> cases h
 obtain ⟨n,hn⟩:=qzl _
 exact ⟨n,_,(qHr n _ _).trans hn,.inl rfl⟩
def qiF:EnvP:=eQ [] 19 (some [2]) (fun x=>if x=3 then some [0,3,4] else none) (fun x=>if x=0 then some [3] else if x=1 then some [0,3,4] else none) nP
def qqB:Code:=cO Tryz.f136
def qHs:Array ResultVar:=Tryz.f136.results
noncomputable def qfW (K:Ex→Fr→Option AV):=fun n3=>K (.exit 0) (frOf [(3,(.dat (.int .i64) n3 none))])
def qiG (n:Nat):Ex→Fr→Option AV:=qm 0 (qiF.cutb 0) (kSeq (evCP qiF (evLP qiF n) (sub qqB [1,1,1])) (kFnP qiF qHs))
def qmc (l0:List Int) (n3:Int) (i4:Int):Fr:=frOf [(0,(.dat (.sl (.int .i64)) l0 none)),(3,(.dat (.int .i64) n3 none)),(4,(.dat (.int .i64) i4 none))]
theorem qtP (K:Ex→Fr→Option AV):∀ (n:Nat) (l0:List Int) (n3:Int) (i4:Int),evLP qiF n (sub qqB [1,1,0,1,0,0]) K (qmc l0 n3 i4)=qgu (qfW K) n l0 n3 i4:=by
 intro n
 induction n with
 | zero=>intros; rfl
 | succ n IH =>
 intro l0 n3 i4
 have ih:(fun l0 n3 i4=>evLP qiF n (sub qqB [1,1,0,1,0,0]) K (qmc l0 n3 i4))=qgu (qfW K) n:=by
  funext l0 n3 i4
  exact IH l0 n3 i4
 show _=qcc (qfW K) (qgu (qfW K) n) n l0 n3 i4
 rw [← ih]
 kernel_rfl
theorem qmd (n:Nat) (n3:Int):(qiG n) (.exit 0) (frOf [(3,(.dat (.int .i64) n3 none))])=qdt n n3:=by
 kernel_rfl
theorem qHt (n:Nat) (l0:List Int) (o0:Lab):evFnP qiF n qqB qHs [.dat (.sl (.int .i64)) l0 o0]=qoU n l0:=by
 unfold qoU
 rw [show qgu (qdt n) n=(fun l0 n3 i4=>evLP qiF n (sub qqB [1,1,0,1,0,0]) (qiG n) (qmc l0 n3 i4)) from by
  funext l0 n3 i4
  refine Eq.trans ?_ (qtP (qiG n) n l0 n3 i4).symm
  rw [show (qfW (qiG n))=(qdt n) from by
   funext n3
   exact qmd n n3]
  all_goals kernel_rfl]
 kernel_rfl
theorem qtQ:qe Gc Tryz.prog 136 s_z136:=by
 refine sQ (E:=qiF) (c:=qqB) rfl (fun w S hg=>qc) Tryz.func136 ?_
 intro avs r h
 unfold s_z136 at h
 split at h
 ·obtain ⟨hp,rfl⟩:=Prod.mk.inj h
  obtain ⟨n,hn⟩:=qzm _ hp
  exact ⟨n,_,(qHt n _ _).trans hn,.inl rfl⟩
 ·cases h
def E_z90:EnvP:=eQ [(134,s_z134),(135,s_z135),(136,s_z136)] 32 (some [2]) (fun x=>if x=2 then some [3] else if x=6 then some [3,4,5] else none) (fun x=>if x=0 then some [3] else if x=1 then some [3] else if x=2 then some [4] else if x=3 then some [3,4,5] else none) nP
def C_z90:Code:=cO Tryz.f90
def R_z90:Array ResultVar:=Tryz.f90.results
def qki (l3:List Int):Fr:=frOf [(3,(.dat (.sl (.int .i64)) l3 (some (3,3))))]
noncomputable def qkj (K:Ex→Fr→Option AV):=fun l3=>K (.exit 0) (qki l3)
noncomputable def qkk (K:Ex→Fr→Option AV):=fun out4=>K (.exit 2) (frOf [(4,(.dat (.sl .byte) out4 (some (4,5))))])
def qod (n:Nat):Ex→Fr→Option AV:=qm 2 (E_z90.cutb 2) (kSeq (evCP E_z90 (evLP E_z90 n) (sub C_z90 [1,1,1,1,1])) (kFnP E_z90 R_z90))
def qoe (n:Nat):Ex→Fr→Option AV:=qm 0 (E_z90.cutb 0) (kSeq (evCP E_z90 (evLP E_z90 n) (sub C_z90 [1,1,1])) (kFnP E_z90 R_z90))
def qtR (l3:List Int) (out4:List UInt8) (i5:Int):Fr:=frOf [(3,(.dat (.sl (.int .i64)) l3 (some (3,3)))),(4,(.dat (.sl .byte) out4 (some (4,5)))),(5,(.dat (.int .i64) i5 none))]
theorem qxT (K:Ex→Fr→Option AV):∀ (n:Nat) (l3:List Int),evLP E_z90 n (sub C_z90 [1,1,0,0,0]) K (qki l3)=qmA (qkj K) n l3:=by
 intro n
 induction n with
 | zero=>intros; rfl
 | succ n IH =>
 intro l3
 have ih:(fun l3=>evLP E_z90 n (sub C_z90 [1,1,0,0,0]) K (qki l3))=qmA (qkj K) n:=by
  funext l3
  exact IH l3
 show _=qiZ (qkj K) (qmA (qkj K) n) n l3
 rw [← ih]
 kernel_rfl
theorem qxU (K:Ex→Fr→Option AV):∀ (n:Nat) (l3:List Int) (out4:List UInt8) (i5:Int),evLP E_z90 n (sub C_z90 [1,1,1,1,0,1,0,0]) K (qtR l3 out4 i5)=qmB (qkk K) n l3 out4 i5:=by
 intro n
 induction n with
 | zero=>intros; rfl
 | succ n IH =>
 intro l3 out4 i5
 have ih:(fun l3 out4 i5=>evLP E_z90 n (sub C_z90 [1,1,1,1,0,1,0,0]) K (qtR l3 out4 i5))=qmB (qkk K) n:=by
  funext l3 out4 i5
  exact IH l3 out4 i5
 show _=qee (qkk K) (qmB (qkk K) n) n l3 out4 i5
 rw [← ih]
 kernel_rfl
theorem qqC (n:Nat) (out4:List UInt8):(qod n) (.exit 2) (frOf [(4,(.dat (.sl .byte) out4 (some (4,5))))])=qgv n out4:=by
 kernel_rfl
theorem qqD (n:Nat) (l3:List Int):(qoe n) (.exit 0) (qki l3)=qbc n l3:=by
 unfold qbc
 rw [show qmB (qgv n) n=(fun l3 out4 i5=>evLP E_z90 n (sub C_z90 [1,1,1,1,0,1,0,0]) (qod n) (qtR l3 out4 i5)) from by
  funext l3 out4 i5
  refine Eq.trans ?_ (qxU (qod n) n l3 out4 i5).symm
  rw [show (qkk (qod n))=(qgv n) from by
   funext out4
   exact qqC n out4]
  all_goals kernel_rfl]
 kernel_rfl
theorem qKp (n:Nat) (s0:List UInt8) (o0:Lab):evFnP E_z90 n C_z90 R_z90 [.dat (.sl .byte) s0 o0]=qyN n s0:=by
 unfold qyN
 rw [show qmA (qbc n) n=(fun l3=>evLP E_z90 n (sub C_z90 [1,1,0,0,0]) (qoe n) (qki l3)) from by
  funext l3
  refine Eq.trans ?_ (qxT (qoe n) n l3).symm
  rw [show (qkj (qoe n))=(qbc n) from by
   funext l3
   exact qqD n l3]
  all_goals kernel_rfl]
 kernel_rfl
theorem qxV:qe Gc Tryz.prog 90 s_z90:=by
 refine sQ (E:=E_z90) (c:=C_z90) rfl (fun w S hg=>(qb (qtN w S hg) (qb (qtO w S hg) (qb (qtQ w S hg) qc)))) Tryz.func90 ?_
 intro avs r h
 unfold s_z90 at h
 split at h
 ·obtain ⟨hp,rfl⟩:=Prod.mk.inj h
  obtain ⟨n,hn⟩:=qDp _ hp
  exact ⟨n,_,(qKp n _ _).trans hn,.inl rfl⟩
 ·cases h
end
end Go.Av
