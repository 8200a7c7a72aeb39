import Derived.Test.YtopepdfipgfakaaGreatDoorCuEvE
import Derived.Test.YtopepdfipgfakaaGreatDoorCuC
import Derived.Test.YtopepdfipgfakaaGreatDoorProg
import Derived.KernelRfl
namespace Go.Av
set_option linter.unusedSimpArgs false
noncomputable section
open Go.Proofs
set_option maxRecDepth 100000
set_option linter.unusedVariables false
def qKu:EnvP:=eQ [] 10 (some [2]) nC (fun x=>if x=0 then some [] else none) nP
def qKv:Code:=cO Tryz.f218
def qOf:Array ResultVar:=Tryz.f218.results
theorem qKw (n:Nat) (n0:Int) (o0:Lab):evFnP qKu n qKv qOf [.dat (.int .i64) n0 o0]=qxQ n n0:=by
 kernel_rfl
theorem qvT:qe Gc Tryz.prog 218 s_z218:=by
 refine sQ (E:=qKu) (c:=qKv) rfl (fun w S hg=>qc) Tryz.func218 ?_
 intro avs r h
 unfold s_z218 at h
 split at h <;> cases h
 obtain ⟨n,hn⟩:=qCl _
 exact ⟨n,_,(qKw n _ _).trans hn,.inl rfl⟩
def qKx:EnvP:=eQ [(199,s_z199)] 16 (some [2]) nC (fun x=>if x=0 then some [] else none) nP
def qKy:Code:=cO Tryz.f232
def qOg:Array ResultVar:=Tryz.f232.results
theorem qKz (n:Nat) (c0:Int) (o0:Lab):evFnP qKx n qKy qOg [.dat (.int .i32) c0 o0]=qxR n c0:=by
 kernel_rfl
theorem qvU:qe Gc Tryz.prog 232 s_z232:=by
 refine sQ (E:=qKx) (c:=qKy) rfl (fun w S hg=>(qb (qgN w S hg) qc)) Tryz.func232 ?_
 intro avs r h
 unfold s_z232 at h
 split at h <;> cases h
 obtain ⟨n,hn⟩:=qCX _
 exact ⟨n,_,(qKz n _ _).trans hn,.inl rfl⟩
def qKA:EnvP:=eQ [(38,s_z38),(218,s_z218),(232,s_z232)] 56 (some [4,5]) nC (fun x=>if x=0 then some [7] else if x=1 then some [1,7] else if x=2 then some [1,7] else if x=3 then some [1,7] else none) nP
def qKB:Code:=cO Tryz.f204
def qOh:Array ResultVar:=Tryz.f204.results
theorem qKC (n:Nat) (b0:List UInt8) (o0:Lab) (c1:Int) (o1:Lab):evFnP qKA n qKB qOh [.dat (.sl .byte) b0 o0,.dat (.int .i32) c1 o1]=qxS n b0 c1:=by
 kernel_rfl
theorem qvV:qe Gc Tryz.prog 204 s_z204:=by
 refine sQ (E:=qKA) (c:=qKB) rfl (fun w S hg=>(qb (qpD w S hg) (qb (qvT w S hg) (qb (qvU w S hg) qc)))) Tryz.func204 ?_
 intro avs r h
 unfold s_z204 at h
 split at h
 ·obtain ⟨hp,rfl⟩:=Prod.mk.inj h
  obtain ⟨n,hn⟩:=qCY _ _ hp
  exact ⟨n,_,(qKC n _ _ _ _).trans hn,.inl rfl⟩
 ·cases h
def qjZ:EnvP:=eQ [(203,s_z203),(204,s_z204)] 28 (some [2,3]) (fun x=>if x=5 then some [4,12,13,14] else none) (fun x=>if x=0 then some [4] else if x=1 then some [4,12,13,14] else none) nP
def qsK:Code:=cO Tryz.f163
def qKD:Array ResultVar:=Tryz.f163.results
noncomputable def qgO (K:Ex→Fr→Option AV):=fun out4=>K (.exit 0) (frOf [(4,(.dat (.sl .byte) out4 (some (4,5))))])
def qka (n:Nat):Ex→Fr→Option AV:=qo 0 (qjZ.cutb 0) (kSeq (evCP qjZ (evLP qjZ n) (sub qsK [1,1,1,1])) (kFnP qjZ qKD))
def qnI (out4:List UInt8) (s12:List Int) (s13:Int) (s14:Int):Fr:=frOf [(4,(.dat (.sl .byte) out4 (some (4,5)))),(12,(.dat (.sl (.int .i32)) s12 none)),(13,(.dat (.int .i64) s13 none)),(14,(.dat (.int .i64) s14 none))]
theorem qvW (K:Ex→Fr→Option AV):∀ (n:Nat) (out4:List UInt8) (s12:List Int) (s13:Int) (s14:Int),evLP qjZ n (sub qsK [1,1,1,0,1,0,0]) K (qnI out4 s12 s13 s14)=qht (qgO K) n out4 s12 s13 s14:=by
 intro n
 induction n with
 | zero=>intros; rfl
 | succ n IH =>
 intro out4 s12 s13 s14
 have ih:(fun out4 s12 s13 s14=>evLP qjZ n (sub qsK [1,1,1,0,1,0,0]) K (qnI out4 s12 s13 s14))=qht (qgO K) n:=by
  funext out4 s12 s13 s14
  exact IH out4 s12 s13 s14
 show _=qcz (qgO K) (qht (qgO K) n) n out4 s12 s13 s14
 rw [← ih]
 kernel_rfl
theorem qnJ (n:Nat) (out4:List UInt8):(qka n) (.exit 0) (frOf [(4,(.dat (.sl .byte) out4 (some (4,5))))])=qcA n out4:=by
 kernel_rfl
theorem qKE (n:Nat) (t0:List Int) (o0:Lab):evFnP qjZ n qsK qKD [.dat (.sl (.int .i32)) t0 o0]=qqP n t0:=by
 unfold qqP
 rw [show qht (qcA n) n=(fun out4 s12 s13 s14=>evLP qjZ n (sub qsK [1,1,1,0,1,0,0]) (qka n) (qnI out4 s12 s13 s14)) from by
  funext out4 s12 s13 s14
  refine Eq.trans ?_ (qvW (qka n) n out4 s12 s13 s14).symm
  rw [show (qgO (qka n))=(qcA n) from by
   funext out4
   exact qnJ n out4]
  all_goals kernel_rfl]
 kernel_rfl
theorem qvX:qe Gc Tryz.prog 163 s_z163:=by
 refine sQ (E:=qjZ) (c:=qsK) rfl (fun w S hg=>(qb (qvS w S hg) (qb (qvV w S hg) qc))) Tryz.func163 ?_
 intro avs r h
 unfold s_z163 at h
 split at h
 ·obtain ⟨hp,rfl⟩:=Prod.mk.inj h
  obtain ⟨n,hn⟩:=qDk _ hp
  exact ⟨n,_,(qKE n _ _).trans hn,.inl rfl⟩
 ·cases h
def qkb:EnvP:=eQ [(205,s_z205)] 28 (some [2,3]) (fun x=>if x=3 then some [4,9,10,11] else none) (fun x=>if x=0 then some [4] else if x=1 then some [4,9,10,11] else none) nP
def qsL:Code:=cO Tryz.f164
def qKF:Array ResultVar:=Tryz.f164.results
noncomputable def qkc (K:Ex→Fr→Option AV):=fun s2 s3=>K .ret (frOf [(2,(.dat (.sl .byte) s2 (some (2,5)))),(3,(.dat (.int .i64) s3 none))])
noncomputable def qgP (K:Ex→Fr→Option AV):=fun s4=>K (.exit 0) (frOf [(4,(.dat (.sl .byte) s4 (some (4,5))))])
def qkd (n:Nat):Ex→Fr→Option AV:=qo 0 (qkb.cutb 0) (kSeq (evCP qkb (evLP qkb n) (sub qsL [1,1,1])) (kFnP qkb qKF))
def qnK (s4:List UInt8) (s9:List Int) (s10:Int) (s11:Int):Fr:=frOf [(4,(.dat (.sl .byte) s4 (some (4,5)))),(9,(.dat (.sl (.int .i32)) s9 none)),(10,(.dat (.int .i64) s10 none)),(11,(.dat (.int .i64) s11 none))]
theorem qvY (K:Ex→Fr→Option AV):∀ (n:Nat) (s4:List UInt8) (s9:List Int) (s10:Int) (s11:Int),evLP qkb n (sub qsL [1,1,0,1,0,0]) K (qnK s4 s9 s10 s11)=qhu (qkc K) (qgP K) n s4 s9 s10 s11:=by
 intro n
 induction n with
 | zero=>intros; rfl
 | succ n IH =>
 intro s4 s9 s10 s11
 have ih:(fun s4 s9 s10 s11=>evLP qkb n (sub qsL [1,1,0,1,0,0]) K (qnK s4 s9 s10 s11))=qhu (qkc K) (qgP K) n:=by
  funext s4 s9 s10 s11
  exact IH s4 s9 s10 s11
 show _=qcB (qkc K) (qgP K) (qhu (qkc K) (qgP K) n) n s4 s9 s10 s11
 rw [← ih]
 kernel_rfl
theorem qnL (n:Nat) (s4:List UInt8):(qkd n) (.exit 0) (frOf [(4,(.dat (.sl .byte) s4 (some (4,5))))])=qcC n s4:=by
 kernel_rfl
theorem qKG (n:Nat) (t0:List Int) (o0:Lab):evFnP qkb n qsL qKF [.dat (.sl (.int .i32)) t0 o0]=qqQ n t0:=by
 unfold qqQ
 rw [show qhu qeT (qcC n) n=(fun s4 s9 s10 s11=>evLP qkb n (sub qsL [1,1,0,1,0,0]) (qkd n) (qnK s4 s9 s10 s11)) from by
  funext s4 s9 s10 s11
  refine Eq.trans ?_ (qvY (qkd n) n s4 s9 s10 s11).symm
  rw [show (qgP (qkd n))=(qcC n) from by
   funext s4
   exact qnL n s4]
  all_goals kernel_rfl]
 kernel_rfl
theorem qvZ:qe Gc Tryz.prog 164 s_z164:=by
 refine sQ (E:=qkb) (c:=qsL) rfl (fun w S hg=>(qb (qlL w S hg) qc)) Tryz.func164 ?_
 intro avs r h
 unfold s_z164 at h
 split at h
 ·obtain ⟨hp,rfl⟩:=Prod.mk.inj h
  obtain ⟨n,hn⟩:=qDi _ hp
  exact ⟨n,_,(qKG n _ _).trans hn,.inl rfl⟩
 ·cases h
def qke:EnvP:=eQ [(198,s_z198)] 17 (some [2]) (fun x=>if x=2 then some [5,6,7] else none) (fun x=>if x=0 then some [] else if x=1 then some [5,6,7] else none) nP
def qsM:Code:=cO Tryz.f206
def qKH:Array ResultVar:=Tryz.f206.results
noncomputable def qkf (K:Ex→Fr→Option AV):=fun s2=>K .ret (frOf [(2,(.dat (.int .i64) s2 none))])
def qkg (n:Nat):Ex→Fr→Option AV:=qo 0 (qke.cutb 0) (kSeq (evCP qke (evLP qke n) (sub qsM [1,1])) (kFnP qke qKH))
def qnM (s5:List Int) (s6:Int) (s7:Int):Fr:=frOf [(5,(.dat (.sl (.int .i32)) s5 none)),(6,(.dat (.int .i64) s6 none)),(7,(.dat (.int .i64) s7 none))]
theorem qwa (K:Ex→Fr→Option AV):∀ (n:Nat) (s5:List Int) (s6:Int) (s7:Int),evLP qke n (sub qsM [1,0,1,0,0]) K (qnM s5 s6 s7)=qhw (qkf K) (K (.exit 0) (frOf [])) n s5 s6 s7:=by
 intro n
 induction n with
 | zero=>intros; rfl
 | succ n IH =>
 intro s5 s6 s7
 have ih:(fun s5 s6 s7=>evLP qke n (sub qsM [1,0,1,0,0]) K (qnM s5 s6 s7))=qhw (qkf K) (K (.exit 0) (frOf [])) n:=by
  funext s5 s6 s7
  exact IH s5 s6 s7
 show _=qcD (qkf K) (K (.exit 0) (frOf [])) (qhw (qkf K) (K (.exit 0) (frOf [])) n) n s5 s6 s7
 rw [← ih]
 kernel_rfl
theorem qnN (n:Nat)  : (qkg n) (.exit 0) (frOf [])=qed n  := by
 kernel_rfl
theorem qKI (n:Nat) (t0:List Int) (o0:Lab):evFnP qke n qsM qKH [.dat (.sl (.int .i32)) t0 o0]=qqR n t0:=by
 unfold qqR
 rw [show qhw qhv (qed n) n=(fun s5 s6 s7=>evLP qke n (sub qsM [1,0,1,0,0]) (qkg n) (qnM s5 s6 s7)) from by
  funext s5 s6 s7
  refine Eq.trans ?_ (qwa (qkg n) n s5 s6 s7).symm
  rw [show ((qkg n) (.exit 0) (frOf []))=(qed n) from by
   exact qnN n ]
  all_goals kernel_rfl]
 kernel_rfl
theorem qwb:qe Gc Tryz.prog 206 s_z206:=by
 refine sQ (E:=qke) (c:=qsM) rfl (fun w S hg=>(qb (qlN w S hg) qc)) Tryz.func206 ?_
 intro avs r h
 unfold s_z206 at h
 split at h
 ·obtain ⟨hp,rfl⟩:=Prod.mk.inj h
  obtain ⟨n,hn⟩:=qCS _ hp
  exact ⟨n,_,(qKI n _ _).trans hn,.inl rfl⟩
 ·cases h
def qkh:EnvP:=eQ [(206,s_z206),(207,s_z207)] 32 (some [2,3]) (fun x=>if x=5 then some [4,15,16,17] else none) (fun x=>if x=0 then some [4] else if x=1 then some [4,15,16,17] else none) nP
def qsN:Code:=cO Tryz.f165
def qKJ:Array ResultVar:=Tryz.f165.results
noncomputable def qgQ (K:Ex→Fr→Option AV):=fun s4=>K (.exit 0) (frOf [(4,(.dat (.sl .byte) s4 (some (4,5))))])
def qki (n:Nat):Ex→Fr→Option AV:=qo 0 (qkh.cutb 0) (kSeq (evCP qkh (evLP qkh n) (sub qsN [1,1,1,1])) (kFnP qkh qKJ))
def qnO (s4:List UInt8) (s15:List Int) (s16:Int) (s17:Int):Fr:=frOf [(4,(.dat (.sl .byte) s4 (some (4,5)))),(15,(.dat (.sl (.int .i32)) s15 none)),(16,(.dat (.int .i64) s16 none)),(17,(.dat (.int .i64) s17 none))]
theorem qwc (K:Ex→Fr→Option AV):∀ (n:Nat) (s4:List UInt8) (s15:List Int) (s16:Int) (s17:Int),evLP qkh n (sub qsN [1,1,1,0,1,0,0]) K (qnO s4 s15 s16 s17)=qhx (qgQ K) n s4 s15 s16 s17:=by
 intro n
 induction n with
 | zero=>intros; rfl
 | succ n IH =>
 intro s4 s15 s16 s17
 have ih:(fun s4 s15 s16 s17=>evLP qkh n (sub qsN [1,1,1,0,1,0,0]) K (qnO s4 s15 s16 s17))=qhx (qgQ K) n:=by
  funext s4 s15 s16 s17
  exact IH s4 s15 s16 s17
 show _=qcE (qgQ K) (qhx (qgQ K) n) n s4 s15 s16 s17
 rw [← ih]
 kernel_rfl
theorem qnP (n:Nat) (s4:List UInt8):(qki n) (.exit 0) (frOf [(4,(.dat (.sl .byte) s4 (some (4,5))))])=qcF n s4:=by
 kernel_rfl
theorem qKK (n:Nat) (t0:List Int) (o0:Lab):evFnP qkh n qsN qKJ [.dat (.sl (.int .i32)) t0 o0]=qqS n t0:=by
 unfold qqS
 rw [show qhx (qcF n) n=(fun s4 s15 s16 s17=>evLP qkh n (sub qsN [1,1,1,0,1,0,0]) (qki n) (qnO s4 s15 s16 s17)) from by
  funext s4 s15 s16 s17
  refine Eq.trans ?_ (qwc (qki n) n s4 s15 s16 s17).symm
  rw [show (qgQ (qki n))=(qcF n) from by
   funext s4
   exact qnP n s4]
  all_goals kernel_rfl]
 kernel_rfl
theorem qwd:qe Gc Tryz.prog 165 s_z165:=by
 refine sQ (E:=qkh) (c:=qsN) rfl (fun w S hg=>(qb (qwb w S hg) (qb (qlM w S hg) qc))) Tryz.func165 ?_
 intro avs r h
 unfold s_z165 at h
 split at h
 ·obtain ⟨hp,rfl⟩:=Prod.mk.inj h
  obtain ⟨n,hn⟩:=qDj _ hp
  exact ⟨n,_,(qKK n _ _).trans hn,.inl rfl⟩
 ·cases h
def qkj:EnvP:=eQ [(196,s_z196)] 17 (some [2]) (fun x=>if x=2 then some [0,5,6] else none) (fun x=>if x=0 then some [] else if x=1 then some [0,5,6] else none) nP
def qsO:Code:=cO Tryz.f208
def qKL:Array ResultVar:=Tryz.f208.results
noncomputable def qkk (K:Ex→Fr→Option AV):=fun s2=>K .ret (frOf [(2,(.dat (.int .i64) s2 none))])
def qkl (n:Nat):Ex→Fr→Option AV:=qo 0 (qkj.cutb 0) (kSeq (evCP qkj (evLP qkj n) (sub qsO [1,1])) (kFnP qkj qKL))
def qnQ (t0:List Int) (s5:Int) (s6:Int):Fr:=frOf [(0,(.dat (.sl (.int .i32)) t0 none)),(5,(.dat (.int .i64) s5 none)),(6,(.dat (.int .i64) s6 none))]
theorem qwe (K:Ex→Fr→Option AV):∀ (n:Nat) (t0:List Int) (s5:Int) (s6:Int),evLP qkj n (sub qsO [1,0,1,0,0]) K (qnQ t0 s5 s6)=qhz (qkk K) (K (.exit 0) (frOf [])) n t0 s5 s6:=by
 intro n
 induction n with
 | zero=>intros; rfl
 | succ n IH =>
 intro t0 s5 s6
 have ih:(fun t0 s5 s6=>evLP qkj n (sub qsO [1,0,1,0,0]) K (qnQ t0 s5 s6))=qhz (qkk K) (K (.exit 0) (frOf [])) n:=by
  funext t0 s5 s6
  exact IH t0 s5 s6
 show _=qcG (qkk K) (K (.exit 0) (frOf [])) (qhz (qkk K) (K (.exit 0) (frOf [])) n) n t0 s5 s6
 rw [← ih]
 kernel_rfl
theorem qnR (n:Nat)  : (qkl n) (.exit 0) (frOf [])=qee n  := by
 kernel_rfl
theorem qKM (n:Nat) (t0:List Int) (o0:Lab):evFnP qkj n qsO qKL [.dat (.sl (.int .i32)) t0 o0]=qqT n t0:=by
 unfold qqT
 rw [show qhz qhy (qee n) n=(fun t0 s5 s6=>evLP qkj n (sub qsO [1,0,1,0,0]) (qkl n) (qnQ t0 s5 s6)) from by
  funext t0 s5 s6
  refine Eq.trans ?_ (qwe (qkl n) n t0 s5 s6).symm
  rw [show ((qkl n) (.exit 0) (frOf []))=(qee n) from by
   exact qnR n ]
  all_goals kernel_rfl]
 kernel_rfl
theorem qwf:qe Gc Tryz.prog 208 s_z208:=by
 refine sQ (E:=qkj) (c:=qsO) rfl (fun w S hg=>(qb (qlK w S hg) qc)) Tryz.func208 ?_
 intro avs r h
 unfold s_z208 at h
 split at h
 ·obtain ⟨hp,rfl⟩:=Prod.mk.inj h
  obtain ⟨n,hn⟩:=qCT _ hp
  exact ⟨n,_,(qKM n _ _).trans hn,.inl rfl⟩
 ·cases h
def qkm:EnvP:=eQ [(208,s_z208)] 27 (some [2,3]) (fun x=>if x=5 then some [4,13,14,15] else none) (fun x=>if x=0 then some [4] else if x=1 then some [4,13,14,15] else none) (fun x=>if x=12 then some (.psl 5 (.leaf .byte)) else none)
def qsP:Code:=cO Tryz.f166
def qKN:Array ResultVar:=Tryz.f166.results
noncomputable def qgR (K:Ex→Fr→Option AV):=fun s4=>K (.exit 0) (frOf [(4,(.pv (.psl 5 (.leaf .byte)) s4 none))])
def qkn (n:Nat):Ex→Fr→Option AV:=qo 0 (qkm.cutb 0) (kSeq (evCP qkm (evLP qkm n) (sub qsP [1,1,1,1])) (kFnP qkm qKN))
def qnS (s4:List UInt8) (s13:List Int) (s14:Int) (s15:Int):Fr:=frOf [(4,(.pv (.psl 5 (.leaf .byte)) s4 none)),(13,(.dat (.sl (.int .i32)) s13 none)),(14,(.dat (.int .i64) s14 none)),(15,(.dat (.int .i64) s15 none))]
theorem qwg (K:Ex→Fr→Option AV):∀ (n:Nat) (s4:List UInt8) (s13:List Int) (s14:Int) (s15:Int),evLP qkm n (sub qsP [1,1,1,0,1,0,0]) K (qnS s4 s13 s14 s15)=qef (qgR K) n s4 s13 s14 s15:=by
 intro n
 induction n with
 | zero=>intros; rfl
 | succ n IH =>
 intro s4 s13 s14 s15
 have ih:(fun s4 s13 s14 s15=>evLP qkm n (sub qsP [1,1,1,0,1,0,0]) K (qnS s4 s13 s14 s15))=qef (qgR K) n:=by
  funext s4 s13 s14 s15
  exact IH s4 s13 s14 s15
 show _=qcH (qgR K) (qef (qgR K) n) n s4 s13 s14 s15
 rw [← ih]
 kernel_rfl
theorem qnT (n:Nat) (s4:List UInt8):(qkn n) (.exit 0) (frOf [(4,(.pv (.psl 5 (.leaf .byte)) s4 none))])=qcI n s4:=by
 kernel_rfl
theorem qKO (n:Nat) (t0:List Int) (o0:Lab):evFnP qkm n qsP qKN [.dat (.sl (.int .i32)) t0 o0]=qqU n t0:=by
 unfold qqU
 rw [show qef (qcI n) n=(fun s4 s13 s14 s15=>evLP qkm n (sub qsP [1,1,1,0,1,0,0]) (qkn n) (qnS s4 s13 s14 s15)) from by
  funext s4 s13 s14 s15
  refine Eq.trans ?_ (qwg (qkn n) n s4 s13 s14 s15).symm
  rw [show (qgR (qkn n))=(qcI n) from by
   funext s4
   exact qnT n s4]
  all_goals kernel_rfl]
 kernel_rfl
theorem qwh:qe Gc Tryz.prog 166 s_z166:=by
 refine sQ (E:=qkm) (c:=qsP) rfl (fun w S hg=>(qb (qwf w S hg) qc)) Tryz.func166 ?_
 intro avs r h
 unfold s_z166 at h
 split at h
 ·obtain ⟨hp,rfl⟩:=Prod.mk.inj h
  obtain ⟨n,hn⟩:=qDe _ hp
  exact ⟨n,_,(qKO n _ _).trans hn,.inl rfl⟩
 ·cases h
def qKP:EnvP:=eQ [(161,s_z161),(162,s_z162),(163,s_z163),(164,s_z164),(165,s_z165),(166,s_z166)] 38 (some [1000004,5]) nC (fun x=>if x=0 then some [0,1] else if x=1 then some [1] else none) nP
def qKQ:Code:=cO Tryz.f120
def qOi:Array ResultVar:=Tryz.f120.results
theorem qKR (n:Nat) (charset0:Int) (o0:Lab) (t1:List Int) (o1:Lab):evFnP qKP n qKQ qOi [.dat (.int .i64) charset0 o0,.dat (.sl (.int .i32)) t1 o1]=qxT n charset0 t1:=by
 kernel_rfl
theorem qlP:qe Gc Tryz.prog 120 s_z120:=by
 refine sQ (E:=qKP) (c:=qKQ) rfl (fun w S hg=>(qb (qlJ w S hg) (qb (qvN w S hg) (qb (qvX w S hg) (qb (qvZ w S hg) (qb (qwd w S hg) (qb (qwh w S hg) qc))))))) Tryz.func120 ?_
 intro avs r h
 unfold s_z120 at h
 split at h
 ·obtain ⟨hp,rfl⟩:=Prod.mk.inj h
  obtain ⟨n,hn⟩:=qDl _ _ hp
  exact ⟨n,_,(qKR n _ _ _ _).trans hn,.inl rfl⟩
 ·cases h
def qKS:EnvP:=eQ [] 46 (some [2]) nC (fun x=>if x=0 then some [3] else none) nP
def qKT:Code:=cO Tryz.f214
def qOj:Array ResultVar:=Tryz.f214.results
theorem qKU (n:Nat) (c0:UInt8) (o0:Lab):evFnP qKS n qKT qOj [.dat .byte c0 o0]=qxU n c0:=by
 kernel_rfl
theorem qwi:qe Gc Tryz.prog 214 s_z214:=by
 refine sQ (E:=qKS) (c:=qKT) rfl (fun w S hg=>qc) Tryz.func214 ?_
 intro avs r h
 unfold s_z214 at h
 split at h <;> cases h
 obtain ⟨n,hn⟩:=qBU _
 exact ⟨n,_,(qKU n _ _).trans hn,.inl rfl⟩
def qKV:EnvP:=eQ [(241,s_z241)] 8 (some [4]) nC nC nP
def qKW:Code:=cO Tryz.f229
def qOk:Array ResultVar:=Tryz.f229.results
theorem qKX (n:Nat) (s0:List UInt8) (o0:Lab) (c1:UInt8) (o1:Lab):evFnP qKV n qKW qOk [.dat .str s0 o0,.dat .byte c1 o1]=qEu n s0 c1:=by
 kernel_rfl
theorem qwj:qe Gc Tryz.prog 229 s_z229:=by
 refine sQ (E:=qKV) (c:=qKW) rfl (fun w S hg=>(qb (quQ w S hg) qc)) Tryz.func229 ?_
 intro avs r h
 unfold s_z229 at h
 split at h <;> cases h
 obtain ⟨n,hn⟩:=qBV _ _
 exact ⟨n,_,(qKX n _ _ _ _).trans hn,.inl rfl⟩
def qKY:EnvP:=eQ [(229,s_z229)] 8 (some [4]) nC nC nP
def qKZ:Code:=cO Tryz.f192
def qOl:Array ResultVar:=Tryz.f192.results
theorem qLa (n:Nat) (s0:List UInt8) (o0:Lab) (c1:UInt8) (o1:Lab):evFnP qKY n qKZ qOl [.dat .str s0 o0,.dat .byte c1 o1]=qEv n s0 c1:=by
 kernel_rfl
theorem qwk:qe Gc Tryz.prog 192 s_z192:=by
 refine sQ (E:=qKY) (c:=qKZ) rfl (fun w S hg=>(qb (qwj w S hg) qc)) Tryz.func192 ?_
 intro avs r h
 unfold s_z192 at h
 split at h <;> cases h
 obtain ⟨n,hn⟩:=qBW _ _
 exact ⟨n,_,(qLa n _ _ _ _).trans hn,.inl rfl⟩
end
end Go.Av
