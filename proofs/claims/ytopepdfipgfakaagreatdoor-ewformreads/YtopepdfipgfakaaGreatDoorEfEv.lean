import Derived.Test.YtopepdfipgfakaaGreatDoorEfEvH
import Derived.Test.YtopepdfipgfakaaGreatDoorEfLayX
import Derived.Test.YtopepdfipgfakaaGreatDoorProg
import Derived.KernelRfl
namespace Go.Av
noncomputable section
open Go.Proofs
set_option maxRecDepth 100000
def qGi:EnvP:=eQ [(228,s_z228)] 16 (some [4]) nC nC nP
def qGj:Code:=cO Tryz.f191
def qJM:Array ResultVar:=Tryz.f191.results
theorem qGk (n:Nat) (s0:LU) (o0:Lab) (suffix1:LU) (o1:Lab):evFnP qGi n qGj qJM [.dat (.sl .byte) s0 o0,.dat (.sl .byte) suffix1 o1]=qwL n s0 suffix1:=by
 kernel_rfl
theorem qsy:qe G Tryz.prog 191 s_z191:=by
 refine sQ (E:=qGi) (c:=qGj) rfl (fun w S hg=>(qa (quQ w S hg) qd)) Tryz.func191 ?_
 intro avs r h
 unfold s_z191 at h
 split at h
 ·obtain ⟨hp,rfl⟩:=Prod.mk.inj h
  obtain ⟨n,hn⟩:=qzO _ _ hp
  exact ⟨n,_,(qGk n _ _ _ _).trans hn,.inl rfl⟩
 ·cases h
def qbi:EnvP:=eQ [(191,s_z191)] 10 (some [2]) (fun x=>if x=2 then some [0,3] else none) (fun x=>if x=0 then some [0] else if x=1 then some [0,3] else none) nP
def qjy:Code:=cO Tryz.f149
def qsz:Array ResultVar:=Tryz.f149.results
theorem qsA (K:Ex→Fr→OA):∀ (n:Nat) (s0:LU) (s3:Int),evLP qbi n (sub qjy [1,0,1,0,0]) K (frOf [(0,(.dat (.sl .byte) s0 none)),(3,(.dat (.int .i64) s3 none))])=qiF (fun s0=>K (.exit 0) (frOf [(0,(.dat (.sl .byte) s0 none))])) n s0 s3:=by
 intro n
 induction n with
 | zero=>intros; rfl
 | succ n IH =>
 intro s0 s3
 have ih:(fun s0 s3=>evLP qbi n (sub qjy [1,0,1,0,0]) K (frOf [(0,(.dat (.sl .byte) s0 none)),(3,(.dat (.int .i64) s3 none))]))=qiF (fun s0=>K (.exit 0) (frOf [(0,(.dat (.sl .byte) s0 none))])) n:=by
  funext s0 s3
  exact IH s0 s3
 show _=qpD (fun s0=>K (.exit 0) (frOf [(0,(.dat (.sl .byte) s0 none))])) (qiF (fun s0=>K (.exit 0) (frOf [(0,(.dat (.sl .byte) s0 none))])) n) n s0 s3
 rw [← ih]
 kernel_rfl
theorem qmx (n:Nat) (s0:LU):(qb 0 (qbi.cutb 0) (kSeq (evCP qbi (evLP qbi n) (sub qjy [1,1])) (kFnP qbi qsz))) (.exit 0) (frOf [(0,(.dat (.sl .byte) s0 none))])=qgz n s0:=by
 kernel_rfl
theorem qGl (n:Nat) (s0:LU) (o0:Lab):evFnP qbi n qjy qsz [.dat (.sl .byte) s0 o0]=qpE n s0:=by
 unfold qpE
 rw [show qiF (qgz n) n=(fun s0 s3=>evLP qbi n (sub qjy [1,0,1,0,0]) (qb 0 (qbi.cutb 0) (kSeq (evCP qbi (evLP qbi n) (sub qjy [1,1])) (kFnP qbi qsz))) (frOf [(0,(.dat (.sl .byte) s0 none)),(3,(.dat (.int .i64) s3 none))])) from by
  funext s0 s3
  refine Eq.trans ?_ (qsA (qb 0 (qbi.cutb 0) (kSeq (evCP qbi (evLP qbi n) (sub qjy [1,1])) (kFnP qbi qsz))) n s0 s3).symm
  rw [show (fun s0=>(qb 0 (qbi.cutb 0) (kSeq (evCP qbi (evLP qbi n) (sub qjy [1,1])) (kFnP qbi qsz))) (.exit 0) (frOf [(0,(.dat (.sl .byte) s0 none))]))=(qgz n) from by
   funext s0
   exact qmx n s0]
  all_goals kernel_rfl]
 kernel_rfl
theorem qsB:qe G Tryz.prog 149 s_z149:=by
 refine sQ (E:=qbi) (c:=qjy) rfl (fun w S hg=>(qa (qsy w S hg) qd)) Tryz.func149 ?_
 intro avs r h
 unfold s_z149 at h
 split at h
 ·obtain ⟨hp,rfl⟩:=Prod.mk.inj h
  obtain ⟨n,hn⟩:=qzP _ hp
  exact ⟨n,_,(qGl n _ _).trans hn,.inl rfl⟩
 ·cases h
def qbj:EnvP:=eQ [(149,s_z149),(150,s_z150)] 57 (some [2,3]) (fun x=>if x=4 then some [0,4,5,6,12,13,14] else none) (fun x=>if x=0 then some [0,4,5] else if x=1 then some [0,4,5,6,12,13,14] else if x=2 then some [4] else none) nP
def qjz:Code:=cO Tryz.f108
def qsC:Array ResultVar:=Tryz.f108.results
theorem qsD (K:Ex→Fr→OA):∀ (n:Nat) (s0:LU) (out4:LU) (held5:Int) (many6:Int) (s12:LU) (s13:Int) (s14:Int),evLP qbj n (sub qjz [1,1,1,0,1,0,0]) K (frOf [(0,(.dat (.sl .byte) s0 none)),(4,(.dat (.sl .byte) out4 (some (4,5)))),(5,(.dat (.int .i64) held5 none)),(6,(.dat (.int .i64) many6 none)),(12,(.dat (.sl .byte) s12 none)),(13,(.dat (.int .i64) s13 none)),(14,(.dat (.int .i64) s14 none))])=qdu (fun s2 s3=>K .ret (frOf [(2,(.dat (.sl .byte) s2 (some (2,5)))),(3,(.dat (.int .i64) s3 none))])) (fun s0 out4 held5=>K (.exit 0) (frOf [(0,(.dat (.sl .byte) s0 none)),(4,(.dat (.sl .byte) out4 (some (4,5)))),(5,(.dat (.int .i64) held5 none))])) n s0 out4 held5 many6 s12 s13 s14:=by
 intro n
 induction n with
 | zero=>intros; rfl
 | succ n IH =>
 intro s0 out4 held5 many6 s12 s13 s14
 have ih:(fun s0 out4 held5 many6 s12 s13 s14=>evLP qbj n (sub qjz [1,1,1,0,1,0,0]) K (frOf [(0,(.dat (.sl .byte) s0 none)),(4,(.dat (.sl .byte) out4 (some (4,5)))),(5,(.dat (.int .i64) held5 none)),(6,(.dat (.int .i64) many6 none)),(12,(.dat (.sl .byte) s12 none)),(13,(.dat (.int .i64) s13 none)),(14,(.dat (.int .i64) s14 none))]))=qdu (fun s2 s3=>K .ret (frOf [(2,(.dat (.sl .byte) s2 (some (2,5)))),(3,(.dat (.int .i64) s3 none))])) (fun s0 out4 held5=>K (.exit 0) (frOf [(0,(.dat (.sl .byte) s0 none)),(4,(.dat (.sl .byte) out4 (some (4,5)))),(5,(.dat (.int .i64) held5 none))])) n:=by
  funext s0 out4 held5 many6 s12 s13 s14
  exact IH s0 out4 held5 many6 s12 s13 s14
 show _=qdf (fun s2 s3=>K .ret (frOf [(2,(.dat (.sl .byte) s2 (some (2,5)))),(3,(.dat (.int .i64) s3 none))])) (fun s0 out4 held5=>K (.exit 0) (frOf [(0,(.dat (.sl .byte) s0 none)),(4,(.dat (.sl .byte) out4 (some (4,5)))),(5,(.dat (.int .i64) held5 none))])) (qdu (fun s2 s3=>K .ret (frOf [(2,(.dat (.sl .byte) s2 (some (2,5)))),(3,(.dat (.int .i64) s3 none))])) (fun s0 out4 held5=>K (.exit 0) (frOf [(0,(.dat (.sl .byte) s0 none)),(4,(.dat (.sl .byte) out4 (some (4,5)))),(5,(.dat (.int .i64) held5 none))])) n) n s0 out4 held5 many6 s12 s13 s14
 rw [← ih]
 kernel_rfl
theorem qmy (n:Nat) (s0:LU) (out4:LU) (held5:Int):(qb 0 (qbj.cutb 0) (kSeq (evCP qbj (evLP qbj n) (sub qjz [1,1,1,1])) (kFnP qbj qsC))) (.exit 0) (frOf [(0,(.dat (.sl .byte) s0 none)),(4,(.dat (.sl .byte) out4 (some (4,5)))),(5,(.dat (.int .i64) held5 none))])=qaF n s0 out4 held5:=by
 kernel_rfl
theorem qGm (n:Nat) (s0:LU) (o0:Lab):evFnP qbj n qjz qsC [.dat (.sl .byte) s0 o0]=qpF n s0:=by
 unfold qpF
 rw [show qdu qaj (qaF n) n=(fun s0 out4 held5 many6 s12 s13 s14=>evLP qbj n (sub qjz [1,1,1,0,1,0,0]) (qb 0 (qbj.cutb 0) (kSeq (evCP qbj (evLP qbj n) (sub qjz [1,1,1,1])) (kFnP qbj qsC))) (frOf [(0,(.dat (.sl .byte) s0 none)),(4,(.dat (.sl .byte) out4 (some (4,5)))),(5,(.dat (.int .i64) held5 none)),(6,(.dat (.int .i64) many6 none)),(12,(.dat (.sl .byte) s12 none)),(13,(.dat (.int .i64) s13 none)),(14,(.dat (.int .i64) s14 none))])) from by
  funext s0 out4 held5 many6 s12 s13 s14
  refine Eq.trans ?_ (qsD (qb 0 (qbj.cutb 0) (kSeq (evCP qbj (evLP qbj n) (sub qjz [1,1,1,1])) (kFnP qbj qsC))) n s0 out4 held5 many6 s12 s13 s14).symm
  rw [show (fun s0 out4 held5=>(qb 0 (qbj.cutb 0) (kSeq (evCP qbj (evLP qbj n) (sub qjz [1,1,1,1])) (kFnP qbj qsC))) (.exit 0) (frOf [(0,(.dat (.sl .byte) s0 none)),(4,(.dat (.sl .byte) out4 (some (4,5)))),(5,(.dat (.int .i64) held5 none))]))=(qaF n) from by
   funext s0 out4 held5
   exact qmy n s0 out4 held5]
  all_goals kernel_rfl]
 kernel_rfl
theorem qsE:qe G Tryz.prog 108 s_z108:=by
 refine sQ (E:=qbj) (c:=qjz) rfl (fun w S hg=>(qa (qsB w S hg) (qa (qle w S hg) qd))) Tryz.func108 ?_
 intro avs r h
 unfold s_z108 at h
 split at h
 ·obtain ⟨hp,rfl⟩:=Prod.mk.inj h
  obtain ⟨n,hn⟩:=qzN _ hp
  exact ⟨n,_,(qGm n _ _).trans hn,.inl rfl⟩
 ·cases h
def E_z59:EnvP:=eQ [(108,s_z108)] 12 (some [2]) nC nC nP
def C_z59:Code:=cO Tryz.f59
def R_z59:Array ResultVar:=Tryz.f59.results
theorem qJN (n:Nat) (s0:LU) (o0:Lab):evFnP E_z59 n C_z59 R_z59 [.dat (.sl .byte) s0 o0]=qEL n s0:=by
 kernel_rfl
theorem qxV:qe G Tryz.prog 59 s_z59:=by
 refine sQ (E:=E_z59) (c:=C_z59) rfl (fun w S hg=>(qa (qsE w S hg) qd)) Tryz.func59 ?_
 intro avs r h
 unfold s_z59 at h
 split at h
 ·obtain ⟨hp,rfl⟩:=Prod.mk.inj h
  obtain ⟨n,hn⟩:=qDN _ hp
  exact ⟨n,_,(qJN n _ _).trans hn,.inl rfl⟩
 ·cases h
def qGn:EnvP:=eQ [(144,s_z144)] 11 (some [2]) nC nC nP
def qGo:Code:=cO Tryz.f110
def qJO:Array ResultVar:=Tryz.f110.results
theorem qGp (n:Nat) (s0:LU) (o0:Lab):evFnP qGn n qGo qJO [.dat (.sl .byte) s0 o0]=qwN n s0:=by
 kernel_rfl
theorem qsF:qe G Tryz.prog 110 s_z110:=by
 refine sQ (E:=qGn) (c:=qGo) rfl (fun w S hg=>(qa (qlf w S hg) qd)) Tryz.func110 ?_
 intro avs r h
 unfold s_z110 at h
 split at h
 ·obtain ⟨hp,rfl⟩:=Prod.mk.inj h
  obtain ⟨n,hn⟩:=qzT _ hp
  exact ⟨n,_,(qGp n _ _).trans hn,.inl rfl⟩
 ·cases h
def E_z60:EnvP:=eQ [(80,s_z80),(109,s_z109),(110,s_z110)] 16 (some [2]) nC nC nP
def C_z60:Code:=cO Tryz.f60
def R_z60:Array ResultVar:=Tryz.f60.results
theorem qJP (n:Nat) (s0:LU) (o0:Lab):evFnP E_z60 n C_z60 R_z60 [.dat (.sl .byte) s0 o0]=qEM n s0:=by
 kernel_rfl
theorem qxW:qe G Tryz.prog 60 s_z60:=by
 refine sQ (E:=E_z60) (c:=C_z60) rfl (fun w S hg=>(qa (qor w S hg) (qa (qkV w S hg) (qa (qsF w S hg) qd)))) Tryz.func60 ?_
 intro avs r h
 unfold s_z60 at h
 split at h
 ·obtain ⟨hp,rfl⟩:=Prod.mk.inj h
  obtain ⟨n,hn⟩:=qDQ _ hp
  exact ⟨n,_,(qJP n _ _).trans hn,.inl rfl⟩
 ·cases h
def E_z24:EnvP:=eQ [(11,s_z11),(58,s_z58),(59,s_z59),(60,s_z60)] 36 (some [2]) nC nC nP
def C_z24:Code:=cO Tryz.f24
def R_z24:Array ResultVar:=Tryz.f24.results
theorem qJQ (n:Nat) (s0:LU) (o0:Lab):evFnP E_z24 n C_z24 R_z24 [.dat (.sl .byte) s0 o0]=qEN n s0:=by
 kernel_rfl
theorem qxX:qe G Tryz.prog 24 s_z24:=by
 refine sQ (E:=E_z24) (c:=C_z24) rfl (fun w S hg=>(qa (qgk w S hg) (qa (qox w S hg) (qa (qxV w S hg) (qa (qxW w S hg) qd))))) Tryz.func24 ?_
 intro avs r h
 unfold s_z24 at h
 split at h
 ·obtain ⟨hp,rfl⟩:=Prod.mk.inj h
  obtain ⟨n,hn⟩:=qDD _ hp
  exact ⟨n,_,(qJQ n _ _).trans hn,.inl rfl⟩
 ·cases h
def E_z61:EnvP:=eQ [(101,s_z101),(102,s_z102)] 51 (some [1000002,3]) (fun x=>if x=3 then some [0,4,5] else none) (fun x=>if x=0 then some [0,4] else if x=1 then some [0,4,5] else none) nP
def C_z61:Code:=cO Tryz.f61
def R_z61:Array ResultVar:=Tryz.f61.results
theorem qxY (K:Ex→Fr→OA):∀ (n:Nat) (s0:LU) (end4:Int) (k5:Int),evLP E_z61 n (sub C_z61 [1,1,0,1,0,0]) K (frOf [(0,(.dat (.sl .byte) s0 none)),(4,(.dat (.int .i64) end4 none)),(5,(.dat (.int .i64) k5 none))])=qid (fun s0 end4=>K (.exit 0) (frOf [(0,(.dat (.sl .byte) s0 none)),(4,(.dat (.int .i64) end4 none))])) n s0 end4 k5:=by
 intro n
 induction n with
 | zero=>intros; rfl
 | succ n IH =>
 intro s0 end4 k5
 have ih:(fun s0 end4 k5=>evLP E_z61 n (sub C_z61 [1,1,0,1,0,0]) K (frOf [(0,(.dat (.sl .byte) s0 none)),(4,(.dat (.int .i64) end4 none)),(5,(.dat (.int .i64) k5 none))]))=qid (fun s0 end4=>K (.exit 0) (frOf [(0,(.dat (.sl .byte) s0 none)),(4,(.dat (.int .i64) end4 none))])) n:=by
  funext s0 end4 k5
  exact IH s0 end4 k5
 show _=qfB (fun s0 end4=>K (.exit 0) (frOf [(0,(.dat (.sl .byte) s0 none)),(4,(.dat (.int .i64) end4 none))])) (qid (fun s0 end4=>K (.exit 0) (frOf [(0,(.dat (.sl .byte) s0 none)),(4,(.dat (.int .i64) end4 none))])) n) n s0 end4 k5
 rw [← ih]
 kernel_rfl
theorem qqp (n:Nat) (s0:LU) (end4:Int):(qb 0 (E_z61.cutb 0) (kSeq (evCP E_z61 (evLP E_z61 n) (sub C_z61 [1,1,1])) (kFnP E_z61 R_z61))) (.exit 0) (frOf [(0,(.dat (.sl .byte) s0 none)),(4,(.dat (.int .i64) end4 none))])=qaU n s0 end4:=by
 kernel_rfl
theorem qJR (n:Nat) (s0:LU) (o0:Lab):evFnP E_z61 n C_z61 R_z61 [.dat (.sl .byte) s0 o0]=qEO n s0:=by
 unfold qEO
 rw [show qid (qaU n) n=(fun s0 end4 k5=>evLP E_z61 n (sub C_z61 [1,1,0,1,0,0]) (qb 0 (E_z61.cutb 0) (kSeq (evCP E_z61 (evLP E_z61 n) (sub C_z61 [1,1,1])) (kFnP E_z61 R_z61))) (frOf [(0,(.dat (.sl .byte) s0 none)),(4,(.dat (.int .i64) end4 none)),(5,(.dat (.int .i64) k5 none))])) from by
  funext s0 end4 k5
  refine Eq.trans ?_ (qxY (qb 0 (E_z61.cutb 0) (kSeq (evCP E_z61 (evLP E_z61 n) (sub C_z61 [1,1,1])) (kFnP E_z61 R_z61))) n s0 end4 k5).symm
  rw [show (fun s0 end4=>(qb 0 (E_z61.cutb 0) (kSeq (evCP E_z61 (evLP E_z61 n) (sub C_z61 [1,1,1])) (kFnP E_z61 R_z61))) (.exit 0) (frOf [(0,(.dat (.sl .byte) s0 none)),(4,(.dat (.int .i64) end4 none))]))=(qaU n) from by
   funext s0 end4
   exact qqp n s0 end4]
  all_goals kernel_rfl]
 kernel_rfl
theorem qxZ:qe G Tryz.prog 61 s_z61:=by
 refine sQ (E:=E_z61) (c:=C_z61) rfl (fun w S hg=>(qa (qli w S hg) (qa (qlj w S hg) qd))) Tryz.func61 ?_
 intro avs r h
 unfold s_z61 at h
 split at h
 ·obtain ⟨hp,rfl⟩:=Prod.mk.inj h
  obtain ⟨n,hn⟩:=qDz _ hp
  exact ⟨n,_,(qJR n _ _).trans hn,.inl rfl⟩
 ·cases h
def E_z62:EnvP:=eQ [(56,s_z56),(82,s_z82)] 32 (some [2]) (fun x=>if x=2 then some [0,3] else none) (fun x=>if x=0 then some [0] else if x=1 then some [0,3] else none) nP
def C_z62:Code:=cO Tryz.f62
def R_z62:Array ResultVar:=Tryz.f62.results
theorem qya (K:Ex→Fr→OA):∀ (n:Nat) (s0:LU) (i3:Int),evLP E_z62 n (sub C_z62 [1,0,1,0,0]) K (frOf [(0,(.dat (.sl .byte) s0 none)),(3,(.dat (.int .i64) i3 none))])=qnC (fun s2=>K .ret (frOf [(2,(.dat (.int .i64) s2 none))])) (fun s0=>K (.exit 0) (frOf [(0,(.dat (.sl .byte) s0 none))])) n s0 i3:=by
 intro n
 induction n with
 | zero=>intros; rfl
 | succ n IH =>
 intro s0 i3
 have ih:(fun s0 i3=>evLP E_z62 n (sub C_z62 [1,0,1,0,0]) K (frOf [(0,(.dat (.sl .byte) s0 none)),(3,(.dat (.int .i64) i3 none))]))=qnC (fun s2=>K .ret (frOf [(2,(.dat (.int .i64) s2 none))])) (fun s0=>K (.exit 0) (frOf [(0,(.dat (.sl .byte) s0 none))])) n:=by
  funext s0 i3
  exact IH s0 i3
 show _=qfC (fun s2=>K .ret (frOf [(2,(.dat (.int .i64) s2 none))])) (fun s0=>K (.exit 0) (frOf [(0,(.dat (.sl .byte) s0 none))])) (qnC (fun s2=>K .ret (frOf [(2,(.dat (.int .i64) s2 none))])) (fun s0=>K (.exit 0) (frOf [(0,(.dat (.sl .byte) s0 none))])) n) n s0 i3
 rw [← ih]
 kernel_rfl
theorem qqq (n:Nat) (s0:LU):(qb 0 (E_z62.cutb 0) (kSeq (evCP E_z62 (evLP E_z62 n) (sub C_z62 [1,1])) (kFnP E_z62 R_z62))) (.exit 0) (frOf [(0,(.dat (.sl .byte) s0 none))])=qdN n s0:=by
 kernel_rfl
theorem qJS (n:Nat) (s0:LU) (o0:Lab):evFnP E_z62 n C_z62 R_z62 [.dat (.sl .byte) s0 o0]=qEP n s0:=by
 unfold qEP
 rw [show qnC qfQ (qdN n) n=(fun s0 i3=>evLP E_z62 n (sub C_z62 [1,0,1,0,0]) (qb 0 (E_z62.cutb 0) (kSeq (evCP E_z62 (evLP E_z62 n) (sub C_z62 [1,1])) (kFnP E_z62 R_z62))) (frOf [(0,(.dat (.sl .byte) s0 none)),(3,(.dat (.int .i64) i3 none))])) from by
  funext s0 i3
  refine Eq.trans ?_ (qya (qb 0 (E_z62.cutb 0) (kSeq (evCP E_z62 (evLP E_z62 n) (sub C_z62 [1,1])) (kFnP E_z62 R_z62))) n s0 i3).symm
  rw [show (fun s0=>(qb 0 (E_z62.cutb 0) (kSeq (evCP E_z62 (evLP E_z62 n) (sub C_z62 [1,1])) (kFnP E_z62 R_z62))) (.exit 0) (frOf [(0,(.dat (.sl .byte) s0 none))]))=(qdN n) from by
   funext s0
   exact qqq n s0]
  all_goals kernel_rfl]
 kernel_rfl
theorem qyb:qe G Tryz.prog 62 s_z62:=by
 refine sQ (E:=E_z62) (c:=C_z62) rfl (fun w S hg=>(qa (qoD w S hg) (qa (qjM w S hg) qd))) Tryz.func62 ?_
 intro avs r h
 unfold s_z62 at h
 split at h
 ·obtain ⟨hp,rfl⟩:=Prod.mk.inj h
  obtain ⟨n,hn⟩:=qDx _ hp
  exact ⟨n,_,(qJS n _ _).trans hn,.inl rfl⟩
 ·cases h
def E_z25:EnvP:=eQ [(12,s_z12),(57,s_z57),(61,s_z61),(62,s_z62)] 39 (some [2]) nC nC nP
def C_z25:Code:=cO Tryz.f25
def R_z25:Array ResultVar:=Tryz.f25.results
theorem qJT (n:Nat) (s0:LU) (o0:Lab):evFnP E_z25 n C_z25 R_z25 [.dat (.sl .byte) s0 o0]=qEQ n s0:=by
 kernel_rfl
theorem qyc:qe G Tryz.prog 25 s_z25:=by
 refine sQ (E:=E_z25) (c:=C_z25) rfl (fun w S hg=>(qa (qjN w S hg) (qa (qoB w S hg) (qa (qxZ w S hg) (qa (qyb w S hg) qd))))) Tryz.func25 ?_
 intro avs r h
 unfold s_z25 at h
 split at h
 ·obtain ⟨hp,rfl⟩:=Prod.mk.inj h
  obtain ⟨n,hn⟩:=qDG _ hp
  exact ⟨n,_,(qJT n _ _).trans hn,.inl rfl⟩
 ·cases h
def E_z5:EnvP:=eQ [(10,s_z10),(19,s_z19),(20,s_z20),(21,s_z21),(22,s_z22),(23,s_z23),(24,s_z24),(25,s_z25)] 53 (some [2]) nC nC nP
def C_z5:Code:=cO Tryz.f5
def R_z5:Array ResultVar:=Tryz.f5.results
theorem z5_ev (n:Nat) (s0:LU) (o0:Lab):evFnP E_z5 n C_z5 R_z5 [.dat (.sl .byte) s0 o0]=z5_sh n s0:=by
 kernel_rfl
theorem qDc:qe G Tryz.prog 5 s_z5:=by
 refine sQ (E:=E_z5) (c:=C_z5) rfl (fun w S hg=>(qa (qyH w S hg) (qa (qoz w S hg) (qa (qyY w S hg) (qa (qza w S hg) (qa (qzb w S hg) (qa (qoC w S hg) (qa (qxX w S hg) (qa (qyc w S hg) qd))))))))) Tryz.func5 ?_
 intro avs r h
 unfold s_z5 at h
 split at h <;> cases h
 obtain ⟨n,hn⟩:=qJj _
 exact ⟨n,_,(z5_ev n _ _).trans hn,.inl rfl⟩
end
end Go.Av
