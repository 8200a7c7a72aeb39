import Derived.Test.YtopepdfipgfakaaGreatDoorEfEvF
import Derived.Test.YtopepdfipgfakaaGreatDoorEfLayX
import Derived.Test.YtopepdfipgfakaaGreatDoorProg
import Derived.KernelRfl
namespace Go.Av
noncomputable section
open Go.Proofs
set_option maxRecDepth 100000
def qbw:EnvP:=eQ [(147,s_z147)] 24 (some [2]) (fun x=>if x=3 then some [0,3,4] else none) (fun x=>if x=0 then some [0,3] else if x=1 then some [0,3,4] else none) nP
def qjQ:Code:=cO Tryz.f105
def qum:Array ResultVar:=Tryz.f105.results
theorem qun (K:Ex→Fr→OA):∀ (n:Nat) (s0:LU) (end3:Int) (i4:Int),evLP qbw n (sub qjQ [1,1,0,1,0,0]) K (frOf [(0,(.dat (.sl .byte) s0 none)),(3,(.dat (.int .i64) end3 none)),(4,(.dat (.int .i64) i4 none))])=qhG (fun s0 end3=>K (.exit 0) (frOf [(0,(.dat (.sl .byte) s0 none)),(3,(.dat (.int .i64) end3 none))])) n s0 end3 i4:=by
 intro n
 induction n with
 | zero=>intros; rfl
 | succ n IH =>
 intro s0 end3 i4
 have ih:(fun s0 end3 i4=>evLP qbw n (sub qjQ [1,1,0,1,0,0]) K (frOf [(0,(.dat (.sl .byte) s0 none)),(3,(.dat (.int .i64) end3 none)),(4,(.dat (.int .i64) i4 none))]))=qhG (fun s0 end3=>K (.exit 0) (frOf [(0,(.dat (.sl .byte) s0 none)),(3,(.dat (.int .i64) end3 none))])) n:=by
  funext s0 end3 i4
  exact IH s0 end3 i4
 show _=qcV (fun s0 end3=>K (.exit 0) (frOf [(0,(.dat (.sl .byte) s0 none)),(3,(.dat (.int .i64) end3 none))])) (qhG (fun s0 end3=>K (.exit 0) (frOf [(0,(.dat (.sl .byte) s0 none)),(3,(.dat (.int .i64) end3 none))])) n) n s0 end3 i4
 rw [← ih]
 kernel_rfl
theorem qmQ (n:Nat) (s0:LU) (end3:Int):(qb 0 (qbw.cutb 0) (kSeq (evCP qbw (evLP qbw n) (sub qjQ [1,1,1])) (kFnP qbw qum))) (.exit 0) (frOf [(0,(.dat (.sl .byte) s0 none)),(3,(.dat (.int .i64) end3 none))])=qcc n s0 end3:=by
 kernel_rfl
theorem qIG (n:Nat) (s0:LU) (o0:Lab):evFnP qbw n qjQ qum [.dat (.sl .byte) s0 o0]=qpv n s0:=by
 unfold qpv
 rw [show qhG (qcc n) n=(fun s0 end3 i4=>evLP qbw n (sub qjQ [1,1,0,1,0,0]) (qb 0 (qbw.cutb 0) (kSeq (evCP qbw (evLP qbw n) (sub qjQ [1,1,1])) (kFnP qbw qum))) (frOf [(0,(.dat (.sl .byte) s0 none)),(3,(.dat (.int .i64) end3 none)),(4,(.dat (.int .i64) i4 none))])) from by
  funext s0 end3 i4
  refine Eq.trans ?_ (qun (qb 0 (qbw.cutb 0) (kSeq (evCP qbw (evLP qbw n) (sub qjQ [1,1,1])) (kFnP qbw qum))) n s0 end3 i4).symm
  rw [show (fun s0 end3=>(qb 0 (qbw.cutb 0) (kSeq (evCP qbw (evLP qbw n) (sub qjQ [1,1,1])) (kFnP qbw qum))) (.exit 0) (frOf [(0,(.dat (.sl .byte) s0 none)),(3,(.dat (.int .i64) end3 none))]))=(qcc n) from by
   funext s0 end3
   exact qmQ n s0 end3]
  all_goals kernel_rfl]
 kernel_rfl
theorem qup:qe G Tryz.prog 105 s_z105:=by
 refine sQ (E:=qbw) (c:=qjQ) rfl (fun w S hg=>(qa (qul w S hg) qd)) Tryz.func105 ?_
 intro avs r h
 unfold s_z105 at h
 split at h
 ·obtain ⟨hp,rfl⟩:=Prod.mk.inj h
  obtain ⟨n,hn⟩:=qzI _ hp
  exact ⟨n,_,(qIG n _ _).trans hn,.inl rfl⟩
 ·cases h
def E_z57:EnvP:=eQ [(92,s_z92),(104,s_z104),(105,s_z105)] 31 (some [2,3]) (fun x=>if x=3 then some [4,5] else if x=7 then some [4,5,6,7] else none) (fun x=>if x=0 then some [] else if x=1 then some [4,5] else if x=2 then some [4,5] else if x=3 then some [4,5,6,7] else none) nP
def C_z57:Code:=cO Tryz.f57
def R_z57:Array ResultVar:=Tryz.f57.results
theorem qyO (K:Ex→Fr→OA):∀ (n:Nat) (b4:LU) (n5:Int) (l6:List LU) (i7:Int),evLP E_z57 n (sub C_z57 [1,1,0,1,0,0,1,0,0,1,1,0,0]) K (frOf [(4,(.dat .str b4 none)),(5,(.dat (.int .i64) n5 none)),(6,(.dat (.sl .str) l6 (some (6,9)))),(7,(.dat (.int .i64) i7 none))])=qnu (fun s2 s3=>K .ret (frOf [(2,(.dat (.int .i64) s2 none)),(3,(.dat (.int .i64) s3 none))])) (fun b4 n5=>K (.exit 2) (frOf [(4,(.dat .str b4 none)),(5,(.dat (.int .i64) n5 none))])) n b4 n5 l6 i7:=by
 intro n
 induction n with
 | zero=>intros; rfl
 | succ n IH =>
 intro b4 n5 l6 i7
 have ih:(fun b4 n5 l6 i7=>evLP E_z57 n (sub C_z57 [1,1,0,1,0,0,1,0,0,1,1,0,0]) K (frOf [(4,(.dat .str b4 none)),(5,(.dat (.int .i64) n5 none)),(6,(.dat (.sl .str) l6 (some (6,9)))),(7,(.dat (.int .i64) i7 none))]))=qnu (fun s2 s3=>K .ret (frOf [(2,(.dat (.int .i64) s2 none)),(3,(.dat (.int .i64) s3 none))])) (fun b4 n5=>K (.exit 2) (frOf [(4,(.dat .str b4 none)),(5,(.dat (.int .i64) n5 none))])) n:=by
  funext b4 n5 l6 i7
  exact IH b4 n5 l6 i7
 show _=qfv (fun s2 s3=>K .ret (frOf [(2,(.dat (.int .i64) s2 none)),(3,(.dat (.int .i64) s3 none))])) (fun b4 n5=>K (.exit 2) (frOf [(4,(.dat .str b4 none)),(5,(.dat (.int .i64) n5 none))])) (qnu (fun s2 s3=>K .ret (frOf [(2,(.dat (.int .i64) s2 none)),(3,(.dat (.int .i64) s3 none))])) (fun b4 n5=>K (.exit 2) (frOf [(4,(.dat .str b4 none)),(5,(.dat (.int .i64) n5 none))])) n) n b4 n5 l6 i7
 rw [← ih]
 kernel_rfl
theorem qqE (K:Ex→Fr→OA) (n:Nat) (b4:LU) (n5:Int):(qb 2 (E_z57.cutb 2) (qb 1 (E_z57.cutb 1) (kSeq (evCP E_z57 (evLP E_z57 n) (sub C_z57 [1,1,0,1,0,0,1,1])) (kSeq (fun K fr=>evLP E_z57 n (sub C_z57 [1,1,0,1,0,0]) K (cutFP (E_z57.cuts 3) fr)) K)))) (.exit 2) (frOf [(4,(.dat .str b4 none)),(5,(.dat (.int .i64) n5 none))])=qhH (fun s2 s3=>K .ret (frOf [(2,(.dat (.int .i64) s2 none)),(3,(.dat (.int .i64) s3 none))])) (K (.exit 0) (frOf [])) (fun b4 n5=>evLP E_z57 n (sub C_z57 [1,1,0,1,0,0]) K (frOf [(4,(.dat .str b4 none)),(5,(.dat (.int .i64) n5 none))])) n b4 n5:=by
 kernel_rfl
theorem qyP (K:Ex→Fr→OA):∀ (n:Nat) (b4:LU) (n5:Int),evLP E_z57 n (sub C_z57 [1,1,0,1,0,0]) K (frOf [(4,(.dat .str b4 none)),(5,(.dat (.int .i64) n5 none))])=qhJ (fun s2 s3=>K .ret (frOf [(2,(.dat (.int .i64) s2 none)),(3,(.dat (.int .i64) s3 none))])) (K (.exit 0) (frOf [])) n b4 n5:=by
 intro n
 induction n with
 | zero=>intros; rfl
 | succ n IH =>
 intro b4 n5
 have ih:(fun b4 n5=>evLP E_z57 n (sub C_z57 [1,1,0,1,0,0]) K (frOf [(4,(.dat .str b4 none)),(5,(.dat (.int .i64) n5 none))]))=qhJ (fun s2 s3=>K .ret (frOf [(2,(.dat (.int .i64) s2 none)),(3,(.dat (.int .i64) s3 none))])) (K (.exit 0) (frOf [])) n:=by
  funext b4 n5
  exact IH b4 n5
 show _=qhI (fun s2 s3=>K .ret (frOf [(2,(.dat (.int .i64) s2 none)),(3,(.dat (.int .i64) s3 none))])) (K (.exit 0) (frOf [])) (qhJ (fun s2 s3=>K .ret (frOf [(2,(.dat (.int .i64) s2 none)),(3,(.dat (.int .i64) s3 none))])) (K (.exit 0) (frOf [])) n) n b4 n5
 rw [← ih]
 unfold qhI
 rw [show qnu (fun s2 s3=>K .ret (frOf [(2,(.dat (.int .i64) s2 none)),(3,(.dat (.int .i64) s3 none))])) (qhH (fun s2 s3=>K .ret (frOf [(2,(.dat (.int .i64) s2 none)),(3,(.dat (.int .i64) s3 none))])) (K (.exit 0) (frOf [])) (fun b4 n5=>evLP E_z57 n (sub C_z57 [1,1,0,1,0,0]) K (frOf [(4,(.dat .str b4 none)),(5,(.dat (.int .i64) n5 none))])) n) n=(fun b4 n5 l6 i7=>evLP E_z57 n (sub C_z57 [1,1,0,1,0,0,1,0,0,1,1,0,0]) (qb 2 (E_z57.cutb 2) (qb 1 (E_z57.cutb 1) (kSeq (evCP E_z57 (evLP E_z57 n) (sub C_z57 [1,1,0,1,0,0,1,1])) (kSeq (fun K fr=>evLP E_z57 n (sub C_z57 [1,1,0,1,0,0]) K (cutFP (E_z57.cuts 3) fr)) K)))) (frOf [(4,(.dat .str b4 none)),(5,(.dat (.int .i64) n5 none)),(6,(.dat (.sl .str) l6 (some (6,9)))),(7,(.dat (.int .i64) i7 none))])) from by
  funext b4 n5 l6 i7
  refine Eq.trans ?_ (qyO (qb 2 (E_z57.cutb 2) (qb 1 (E_z57.cutb 1) (kSeq (evCP E_z57 (evLP E_z57 n) (sub C_z57 [1,1,0,1,0,0,1,1])) (kSeq (fun K fr=>evLP E_z57 n (sub C_z57 [1,1,0,1,0,0]) K (cutFP (E_z57.cuts 3) fr)) K)))) n b4 n5 l6 i7).symm
  rw [show (fun b4 n5=>(qb 2 (E_z57.cutb 2) (qb 1 (E_z57.cutb 1) (kSeq (evCP E_z57 (evLP E_z57 n) (sub C_z57 [1,1,0,1,0,0,1,1])) (kSeq (fun K fr=>evLP E_z57 n (sub C_z57 [1,1,0,1,0,0]) K (cutFP (E_z57.cuts 3) fr)) K)))) (.exit 2) (frOf [(4,(.dat .str b4 none)),(5,(.dat (.int .i64) n5 none))]))=(qhH (fun s2 s3=>K .ret (frOf [(2,(.dat (.int .i64) s2 none)),(3,(.dat (.int .i64) s3 none))])) (K (.exit 0) (frOf [])) (fun b4 n5=>evLP E_z57 n (sub C_z57 [1,1,0,1,0,0]) K (frOf [(4,(.dat .str b4 none)),(5,(.dat (.int .i64) n5 none))])) n) from by
   funext b4 n5
   exact qqE K n b4 n5]
  all_goals kernel_rfl]
 kernel_rfl
theorem qqF (n:Nat)  : (qb 0 (E_z57.cutb 0) (kSeq (evCP E_z57 (evLP E_z57 n) (sub C_z57 [1,1,1])) (kFnP E_z57 R_z57))) (.exit 0) (frOf [])=qcd n  := by
 kernel_rfl
theorem qLx (n:Nat) (s0:LU) (o0:Lab):evFnP E_z57 n C_z57 R_z57 [.dat (.sl .byte) s0 o0]=qAw n s0:=by
 unfold qAw
 rw [show qhJ qal (qcd n) n=(fun b4 n5=>evLP E_z57 n (sub C_z57 [1,1,0,1,0,0]) (qb 0 (E_z57.cutb 0) (kSeq (evCP E_z57 (evLP E_z57 n) (sub C_z57 [1,1,1])) (kFnP E_z57 R_z57))) (frOf [(4,(.dat .str b4 none)),(5,(.dat (.int .i64) n5 none))])) from by
  funext b4 n5
  refine Eq.trans ?_ (qyP (qb 0 (E_z57.cutb 0) (kSeq (evCP E_z57 (evLP E_z57 n) (sub C_z57 [1,1,1])) (kFnP E_z57 R_z57))) n b4 n5).symm
  rw [show ((qb 0 (E_z57.cutb 0) (kSeq (evCP E_z57 (evLP E_z57 n) (sub C_z57 [1,1,1])) (kFnP E_z57 R_z57))) (.exit 0) (frOf []))=(qcd n) from by
   exact qqF n ]
  all_goals kernel_rfl]
 kernel_rfl
theorem qoB:qe G Tryz.prog 57 s_z57:=by
 refine sQ (E:=E_z57) (c:=C_z57) rfl (fun w S hg=>(qa (qyN w S hg) (qa (qui w S hg) (qa (qup w S hg) qd)))) Tryz.func57 ?_
 intro avs r h
 unfold s_z57 at h
 split at h
 ·obtain ⟨hp,rfl⟩:=Prod.mk.inj h
  obtain ⟨n,hn⟩:=qDA _ hp
  exact ⟨n,_,(qLx n _ _).trans hn,.inl rfl⟩
 ·cases h
def E_z23:EnvP:=eQ [(12,s_z12),(57,s_z57)] 23 (some [2]) nC nC nP
def C_z23:Code:=cO Tryz.f23
def R_z23:Array ResultVar:=Tryz.f23.results
theorem qLy (n:Nat) (s0:LU) (o0:Lab):evFnP E_z23 n C_z23 R_z23 [.dat (.sl .byte) s0 o0]=qED n s0:=by
 kernel_rfl
theorem qoC:qe G Tryz.prog 23 s_z23:=by
 refine sQ (E:=E_z23) (c:=C_z23) rfl (fun w S hg=>(qa (qjN w S hg) (qa (qoB w S hg) qd))) Tryz.func23 ?_
 intro avs r h
 unfold s_z23 at h
 split at h
 ·obtain ⟨hp,rfl⟩:=Prod.mk.inj h
  obtain ⟨n,hn⟩:=qDE _ hp
  exact ⟨n,_,(qLy n _ _).trans hn,.inl rfl⟩
 ·cases h
def qIH:EnvP:=eQ [] 23 (some [2]) nC nC nP
def qII:Code:=cO Tryz.f153
def qLz:Array ResultVar:=Tryz.f153.results
theorem qIJ (n:Nat) (c0:UInt8) (o0:Lab):evFnP qIH n qII qLz [.dat .byte c0 o0]=qwz n c0:=by
 kernel_rfl
theorem qlg:qe G Tryz.prog 153 s_z153:=by
 refine sQ (E:=qIH) (c:=qII) rfl (fun w S hg=>qd) Tryz.func153 ?_
 intro avs r h
 unfold s_z153 at h
 split at h <;> cases h
 obtain ⟨n,hn⟩:=qAe _
 exact ⟨n,_,(qIJ n _ _).trans hn,.inl rfl⟩
def qIK:EnvP:=eQ [] 12 (some [2,3]) nC nC nP
def qIL:Code:=cO Tryz.f193
def qLA:Array ResultVar:=Tryz.f193.results
theorem qIM (n:Nat) (c0:UInt8) (o0:Lab):evFnP qIK n qIL qLA [.dat .byte c0 o0]=qwA n c0:=by
 kernel_rfl
theorem quq:qe G Tryz.prog 193 s_z193:=by
 refine sQ (E:=qIK) (c:=qIL) rfl (fun w S hg=>qd) Tryz.func193 ?_
 intro avs r h
 unfold s_z193 at h
 split at h <;> cases h
 obtain ⟨n,hn⟩:=qAf _
 exact ⟨n,_,(qIM n _ _).trans hn,.inl rfl⟩
def qbx:EnvP:=eQ [(153,s_z153),(193,s_z193)] 55 (some [2]) (fun x=>if x=4 then some [0,3] else none) (fun x=>if x=0 then some [3] else if x=1 then some [0,3] else none) nP
def qjR:Code:=cO Tryz.f152
def qur:Array ResultVar:=Tryz.f152.results
theorem qus (K:Ex→Fr→OA):∀ (n:Nat) (s0:LU) (n3:Int),evLP qbx n (sub qjR [1,1,1,0,0,0]) K (frOf [(0,(.dat (.sl .byte) s0 none)),(3,(.dat (.int .i64) n3 none))])=qfP (fun s2=>K .ret (frOf [(2,(.dat (.int .i64) s2 none))])) (fun n3=>K (.exit 0) (frOf [(3,(.dat (.int .i64) n3 none))])) n s0 n3:=by
 intro n
 induction n with
 | zero=>intros; rfl
 | succ n IH =>
 intro s0 n3
 have ih:(fun s0 n3=>evLP qbx n (sub qjR [1,1,1,0,0,0]) K (frOf [(0,(.dat (.sl .byte) s0 none)),(3,(.dat (.int .i64) n3 none))]))=qfP (fun s2=>K .ret (frOf [(2,(.dat (.int .i64) s2 none))])) (fun n3=>K (.exit 0) (frOf [(3,(.dat (.int .i64) n3 none))])) n:=by
  funext s0 n3
  exact IH s0 n3
 show _=qcW (fun s2=>K .ret (frOf [(2,(.dat (.int .i64) s2 none))])) (fun n3=>K (.exit 0) (frOf [(3,(.dat (.int .i64) n3 none))])) (qfP (fun s2=>K .ret (frOf [(2,(.dat (.int .i64) s2 none))])) (fun n3=>K (.exit 0) (frOf [(3,(.dat (.int .i64) n3 none))])) n) n s0 n3
 rw [← ih]
 kernel_rfl
theorem qmR (n:Nat) (n3:Int):(qb 0 (qbx.cutb 0) (kSeq (evCP qbx (evLP qbx n) (sub qjR [1,1,1,1])) (kFnP qbx qur))) (.exit 0) (frOf [(3,(.dat (.int .i64) n3 none))])=qcX n n3:=by
 kernel_rfl
theorem qIN (n:Nat) (s0:LU) (o0:Lab):evFnP qbx n qjR qur [.dat (.sl .byte) s0 o0]=qpx n s0:=by
 unfold qpx
 rw [show qfP qbE (qcX n) n=(fun s0 n3=>evLP qbx n (sub qjR [1,1,1,0,0,0]) (qb 0 (qbx.cutb 0) (kSeq (evCP qbx (evLP qbx n) (sub qjR [1,1,1,1])) (kFnP qbx qur))) (frOf [(0,(.dat (.sl .byte) s0 none)),(3,(.dat (.int .i64) n3 none))])) from by
  funext s0 n3
  refine Eq.trans ?_ (qus (qb 0 (qbx.cutb 0) (kSeq (evCP qbx (evLP qbx n) (sub qjR [1,1,1,1])) (kFnP qbx qur))) n s0 n3).symm
  rw [show (fun n3=>(qb 0 (qbx.cutb 0) (kSeq (evCP qbx (evLP qbx n) (sub qjR [1,1,1,1])) (kFnP qbx qur))) (.exit 0) (frOf [(3,(.dat (.int .i64) n3 none))]))=(qcX n) from by
   funext n3
   exact qmR n n3]
  all_goals kernel_rfl]
 kernel_rfl
theorem qut:qe G Tryz.prog 152 s_z152:=by
 refine sQ (E:=qbx) (c:=qjR) rfl (fun w S hg=>(qa (qlg w S hg) (qa (quq w S hg) qd))) Tryz.func152 ?_
 intro avs r h
 unfold s_z152 at h
 split at h
 ·obtain ⟨hp,rfl⟩:=Prod.mk.inj h
  obtain ⟨n,hn⟩:=qAh _ hp
  exact ⟨n,_,(qIN n _ _).trans hn,.inl rfl⟩
 ·cases h
def qag:EnvP:=eQ [(152,s_z152),(153,s_z153)] 58 (some [2,3,4]) (fun x=>if x=8 then some [0,5,7,8] else none) (fun x=>if x=0 then some [5,7] else if x=1 then some [0,5,7,8] else none) nP
def qfd:Code:=cO Tryz.f111
def quu:Array ResultVar:=Tryz.f111.results
theorem quv (K:Ex→Fr→OA):∀ (n:Nat) (s0:LU) (n5:Int) (c7:Int) (i8:Int),evLP qag n (sub qfd [1,1,1,0,1,0,1,1,0,1,0,0]) K (frOf [(0,(.dat (.sl .byte) s0 none)),(5,(.dat (.int .i64) n5 none)),(7,(.dat (.int .i64) c7 none)),(8,(.dat (.int .i64) i8 none))])=qhK (fun n5 c7=>K (.exit 0) (frOf [(5,(.dat (.int .i64) n5 none)),(7,(.dat (.int .i64) c7 none))])) n s0 n5 c7 i8:=by
 intro n
 induction n with
 | zero=>intros; rfl
 | succ n IH =>
 intro s0 n5 c7 i8
 have ih:(fun s0 n5 c7 i8=>evLP qag n (sub qfd [1,1,1,0,1,0,1,1,0,1,0,0]) K (frOf [(0,(.dat (.sl .byte) s0 none)),(5,(.dat (.int .i64) n5 none)),(7,(.dat (.int .i64) c7 none)),(8,(.dat (.int .i64) i8 none))]))=qhK (fun n5 c7=>K (.exit 0) (frOf [(5,(.dat (.int .i64) n5 none)),(7,(.dat (.int .i64) c7 none))])) n:=by
  funext s0 n5 c7 i8
  exact IH s0 n5 c7 i8
 show _=qcY (fun n5 c7=>K (.exit 0) (frOf [(5,(.dat (.int .i64) n5 none)),(7,(.dat (.int .i64) c7 none))])) (qhK (fun n5 c7=>K (.exit 0) (frOf [(5,(.dat (.int .i64) n5 none)),(7,(.dat (.int .i64) c7 none))])) n) n s0 n5 c7 i8
 rw [← ih]
 kernel_rfl
theorem qmS (n:Nat) (n5:Int) (c7:Int):(qb 0 (qag.cutb 0) (kSeq (evCP qag (evLP qag n) (sub qfd [1,1,1,0,1,0,1,1,1])) (kSeq (evCP qag (evLP qag n) (sub qfd [1,1,1,1])) (kFnP qag quu)))) (.exit 0) (frOf [(5,(.dat (.int .i64) n5 none)),(7,(.dat (.int .i64) c7 none))])=qeA n n5 c7:=by
 kernel_rfl
theorem qIO (n:Nat) (s0:LU) (o0:Lab):evFnP qag n qfd quu [.dat (.sl .byte) s0 o0]=qpy n s0:=by
 unfold qpy
 rw [show qhK (qeA n) n=(fun s0 n5 c7 i8=>evLP qag n (sub qfd [1,1,1,0,1,0,1,1,0,1,0,0]) (qb 0 (qag.cutb 0) (kSeq (evCP qag (evLP qag n) (sub qfd [1,1,1,0,1,0,1,1,1])) (kSeq (evCP qag (evLP qag n) (sub qfd [1,1,1,1])) (kFnP qag quu)))) (frOf [(0,(.dat (.sl .byte) s0 none)),(5,(.dat (.int .i64) n5 none)),(7,(.dat (.int .i64) c7 none)),(8,(.dat (.int .i64) i8 none))])) from by
  funext s0 n5 c7 i8
  refine Eq.trans ?_ (quv (qb 0 (qag.cutb 0) (kSeq (evCP qag (evLP qag n) (sub qfd [1,1,1,0,1,0,1,1,1])) (kSeq (evCP qag (evLP qag n) (sub qfd [1,1,1,1])) (kFnP qag quu)))) n s0 n5 c7 i8).symm
  rw [show (fun n5 c7=>(qb 0 (qag.cutb 0) (kSeq (evCP qag (evLP qag n) (sub qfd [1,1,1,0,1,0,1,1,1])) (kSeq (evCP qag (evLP qag n) (sub qfd [1,1,1,1])) (kFnP qag quu)))) (.exit 0) (frOf [(5,(.dat (.int .i64) n5 none)),(7,(.dat (.int .i64) c7 none))]))=(qeA n) from by
   funext n5 c7
   exact qmS n n5 c7]
  all_goals kernel_rfl]
 kernel_rfl
theorem quw:qe G Tryz.prog 111 s_z111:=by
 refine sQ (E:=qag) (c:=qfd) rfl (fun w S hg=>(qa (qut w S hg) (qa (qlg w S hg) qd))) Tryz.func111 ?_
 intro avs r h
 unfold s_z111 at h
 split at h
 ·obtain ⟨hp,rfl⟩:=Prod.mk.inj h
  obtain ⟨n,hn⟩:=qAi _ hp
  exact ⟨n,_,(qIO n _ _).trans hn,.inl rfl⟩
 ·cases h
def E_z63:EnvP:=eQ [(111,s_z111)] 42 (some [2,3,4]) (fun x=>if x=4 then some [0,5,6,7,8] else none) (fun x=>if x=0 then some [5,6,7] else if x=1 then some [0,5,6,7,8] else none) nP
def C_z63:Code:=cO Tryz.f63
def R_z63:Array ResultVar:=Tryz.f63.results
theorem qyQ (K:Ex→Fr→OA):∀ (n:Nat) (s0:LU) (out5:LI) (broken6:Int) (first7:Int) (at8:Int),evLP E_z63 n (sub C_z63 [1,1,1,0,1,0,0]) K (frOf [(0,(.dat (.sl .byte) s0 none)),(5,(.dat (.sl (.int .i32)) out5 (some (5,21)))),(6,(.dat (.int .i64) broken6 none)),(7,(.dat (.int .i64) first7 none)),(8,(.dat (.int .i64) at8 none))])=qlG (fun out5 broken6 first7=>K (.exit 0) (frOf [(5,(.dat (.sl (.int .i32)) out5 (some (5,21)))),(6,(.dat (.int .i64) broken6 none)),(7,(.dat (.int .i64) first7 none))])) n s0 out5 broken6 first7 at8:=by
 intro n
 induction n with
 | zero=>intros; rfl
 | succ n IH =>
 intro s0 out5 broken6 first7 at8
 have ih:(fun s0 out5 broken6 first7 at8=>evLP E_z63 n (sub C_z63 [1,1,1,0,1,0,0]) K (frOf [(0,(.dat (.sl .byte) s0 none)),(5,(.dat (.sl (.int .i32)) out5 (some (5,21)))),(6,(.dat (.int .i64) broken6 none)),(7,(.dat (.int .i64) first7 none)),(8,(.dat (.int .i64) at8 none))]))=qlG (fun out5 broken6 first7=>K (.exit 0) (frOf [(5,(.dat (.sl (.int .i32)) out5 (some (5,21)))),(6,(.dat (.int .i64) broken6 none)),(7,(.dat (.int .i64) first7 none))])) n:=by
  funext s0 out5 broken6 first7 at8
  exact IH s0 out5 broken6 first7 at8
 show _=qkh (fun out5 broken6 first7=>K (.exit 0) (frOf [(5,(.dat (.sl (.int .i32)) out5 (some (5,21)))),(6,(.dat (.int .i64) broken6 none)),(7,(.dat (.int .i64) first7 none))])) (qlG (fun out5 broken6 first7=>K (.exit 0) (frOf [(5,(.dat (.sl (.int .i32)) out5 (some (5,21)))),(6,(.dat (.int .i64) broken6 none)),(7,(.dat (.int .i64) first7 none))])) n) n s0 out5 broken6 first7 at8
 rw [← ih]
 kernel_rfl
theorem qqG (n:Nat) (out5:LI) (broken6:Int) (first7:Int):(qb 0 (E_z63.cutb 0) (kSeq (evCP E_z63 (evLP E_z63 n) (sub C_z63 [1,1,1,1])) (kFnP E_z63 R_z63))) (.exit 0) (frOf [(5,(.dat (.sl (.int .i32)) out5 (some (5,21)))),(6,(.dat (.int .i64) broken6 none)),(7,(.dat (.int .i64) first7 none))])=qfx n out5 broken6 first7:=by
 kernel_rfl
theorem qLB (n:Nat) (s0:LU) (o0:Lab):evFnP E_z63 n C_z63 R_z63 [.dat (.sl .byte) s0 o0]=qEE n s0:=by
 unfold qEE
 rw [show qlG (qfx n) n=(fun s0 out5 broken6 first7 at8=>evLP E_z63 n (sub C_z63 [1,1,1,0,1,0,0]) (qb 0 (E_z63.cutb 0) (kSeq (evCP E_z63 (evLP E_z63 n) (sub C_z63 [1,1,1,1])) (kFnP E_z63 R_z63))) (frOf [(0,(.dat (.sl .byte) s0 none)),(5,(.dat (.sl (.int .i32)) out5 (some (5,21)))),(6,(.dat (.int .i64) broken6 none)),(7,(.dat (.int .i64) first7 none)),(8,(.dat (.int .i64) at8 none))])) from by
  funext s0 out5 broken6 first7 at8
  refine Eq.trans ?_ (qyQ (qb 0 (E_z63.cutb 0) (kSeq (evCP E_z63 (evLP E_z63 n) (sub C_z63 [1,1,1,1])) (kFnP E_z63 R_z63))) n s0 out5 broken6 first7 at8).symm
  rw [show (fun out5 broken6 first7=>(qb 0 (E_z63.cutb 0) (kSeq (evCP E_z63 (evLP E_z63 n) (sub C_z63 [1,1,1,1])) (kFnP E_z63 R_z63))) (.exit 0) (frOf [(5,(.dat (.sl (.int .i32)) out5 (some (5,21)))),(6,(.dat (.int .i64) broken6 none)),(7,(.dat (.int .i64) first7 none))]))=(qfx n) from by
   funext out5 broken6 first7
   exact qqG n out5 broken6 first7]
  all_goals kernel_rfl]
 kernel_rfl
theorem qyR:qe G Tryz.prog 63 s_z63:=by
 refine sQ (E:=E_z63) (c:=C_z63) rfl (fun w S hg=>(qa (quw w S hg) qd)) Tryz.func63 ?_
 intro avs r h
 unfold s_z63 at h
 split at h
 ·obtain ⟨hp,rfl⟩:=Prod.mk.inj h
  obtain ⟨n,hn⟩:=qDZ _ hp
  exact ⟨n,_,(qLB n _ _).trans hn,.inl rfl⟩
 ·cases h
def E_z64:EnvP:=eQ [] 22 (some [2]) nC (fun x=>if x=0 then some [0] else none) nP
def C_z64:Code:=cO Tryz.f64
def R_z64:Array ResultVar:=Tryz.f64.results
theorem qLC (n:Nat) (x0:UInt8) (o0:Lab):evFnP E_z64 n C_z64 R_z64 [.dat .byte x0 o0]=qEF n x0:=by
 kernel_rfl
theorem qyS:qe G Tryz.prog 64 s_z64:=by
 refine sQ (E:=E_z64) (c:=C_z64) rfl (fun w S hg=>qd) Tryz.func64 ?_
 intro avs r h
 unfold s_z64 at h
 split at h <;> cases h
 obtain ⟨n,hn⟩:=qFl _
 exact ⟨n,_,(qLC n _ _).trans hn,.inl rfl⟩
def E_z65:EnvP:=eQ [] 18 (some [2]) nC nC nP
def C_z65:Code:=cO Tryz.f65
def R_z65:Array ResultVar:=Tryz.f65.results
theorem qLD (n:Nat) (x0:UInt8) (o0:Lab):evFnP E_z65 n C_z65 R_z65 [.dat .byte x0 o0]=qEG n x0:=by
 kernel_rfl
theorem qyT:qe G Tryz.prog 65 s_z65:=by
 refine sQ (E:=E_z65) (c:=C_z65) rfl (fun w S hg=>qd) Tryz.func65 ?_
 intro avs r h
 unfold s_z65 at h
 split at h <;> cases h
 obtain ⟨n,hn⟩:=qFm _
 exact ⟨n,_,(qLD n _ _).trans hn,.inl rfl⟩
def E_z26:EnvP:=eQ [(63,s_z63),(64,s_z64),(65,s_z65)] 69 (some [1000004]) (fun x=>if x=6 then some [0,1,8,9] else none) (fun x=>if x=0 then some [8] else if x=1 then some [0,1,8,9] else if x=2 then some [0,1,8,9] else none) nP
def C_z26:Code:=cO Tryz.f26
def R_z26:Array ResultVar:=Tryz.f26.results
theorem qyU (K:Ex→Fr→OA):∀ (n:Nat) (charset0:Int) (s1:LU) (out8:LI) (i9:Int),evLP E_z26 n (sub C_z26 [1,1,1,0,1,0,0]) K (frOf [(0,(.dat (.int .i64) charset0 none)),(1,(.dat (.sl .byte) s1 none)),(8,(.dat (.sl (.int .i32)) out8 (some (8,21)))),(9,(.dat (.int .i64) i9 none))])=qnv (fun out8=>K (.exit 0) (frOf [(8,(.dat (.sl (.int .i32)) out8 (some (8,21))))])) n charset0 s1 out8 i9:=by
 intro n
 induction n with
 | zero=>intros; rfl
 | succ n IH =>
 intro charset0 s1 out8 i9
 have ih:(fun charset0 s1 out8 i9=>evLP E_z26 n (sub C_z26 [1,1,1,0,1,0,0]) K (frOf [(0,(.dat (.int .i64) charset0 none)),(1,(.dat (.sl .byte) s1 none)),(8,(.dat (.sl (.int .i32)) out8 (some (8,21)))),(9,(.dat (.int .i64) i9 none))]))=qnv (fun out8=>K (.exit 0) (frOf [(8,(.dat (.sl (.int .i32)) out8 (some (8,21))))])) n:=by
  funext charset0 s1 out8 i9
  exact IH charset0 s1 out8 i9
 show _=qfy (fun out8=>K (.exit 0) (frOf [(8,(.dat (.sl (.int .i32)) out8 (some (8,21))))])) (qnv (fun out8=>K (.exit 0) (frOf [(8,(.dat (.sl (.int .i32)) out8 (some (8,21))))])) n) n charset0 s1 out8 i9
 rw [← ih]
 kernel_rfl
theorem qqH (n:Nat) (out8:LI):(qb 0 (E_z26.cutb 0) (kSeq (evCP E_z26 (evLP E_z26 n) (sub C_z26 [1,1,1,1])) (kFnP E_z26 R_z26))) (.exit 0) (frOf [(8,(.dat (.sl (.int .i32)) out8 (some (8,21))))])=qfz n out8:=by
 kernel_rfl
theorem qLE (n:Nat) (charset0:Int) (o0:Lab) (s1:LU) (o1:Lab):evFnP E_z26 n C_z26 R_z26 [.dat (.int .i64) charset0 o0,.dat (.sl .byte) s1 o1]=qAx n charset0 s1:=by
 unfold qAx
 rw [show qnv (qfz n) n=(fun charset0 s1 out8 i9=>evLP E_z26 n (sub C_z26 [1,1,1,0,1,0,0]) (qb 0 (E_z26.cutb 0) (kSeq (evCP E_z26 (evLP E_z26 n) (sub C_z26 [1,1,1,1])) (kFnP E_z26 R_z26))) (frOf [(0,(.dat (.int .i64) charset0 none)),(1,(.dat (.sl .byte) s1 none)),(8,(.dat (.sl (.int .i32)) out8 (some (8,21)))),(9,(.dat (.int .i64) i9 none))])) from by
  funext charset0 s1 out8 i9
  refine Eq.trans ?_ (qyU (qb 0 (E_z26.cutb 0) (kSeq (evCP E_z26 (evLP E_z26 n) (sub C_z26 [1,1,1,1])) (kFnP E_z26 R_z26))) n charset0 s1 out8 i9).symm
  rw [show (fun out8=>(qb 0 (E_z26.cutb 0) (kSeq (evCP E_z26 (evLP E_z26 n) (sub C_z26 [1,1,1,1])) (kFnP E_z26 R_z26))) (.exit 0) (frOf [(8,(.dat (.sl (.int .i32)) out8 (some (8,21))))]))=(qfz n) from by
   funext out8
   exact qqH n out8]
  all_goals kernel_rfl]
 kernel_rfl
theorem qyV:qe G Tryz.prog 26 s_z26:=by
 refine sQ (E:=E_z26) (c:=C_z26) rfl (fun w S hg=>(qa (qyR w S hg) (qa (qyS w S hg) (qa (qyT w S hg) qd)))) Tryz.func26 ?_
 intro avs r h
 unfold s_z26 at h
 split at h
 ·obtain ⟨hp,rfl⟩:=Prod.mk.inj h
  obtain ⟨n,hn⟩:=qEa _ _ hp
  exact ⟨n,_,(qLE n _ _ _ _).trans hn,.inl rfl⟩
 ·cases h
def qIP:EnvP:=eQ [] 31 (some [2]) nC (fun x=>if x=0 then some [] else none) nP
def qIQ:Code:=cO Tryz.f135
def qLF:Array ResultVar:=Tryz.f135.results
theorem qIR (n:Nat) (n0:Int) (o0:Lab):evFnP qIP n qIQ qLF [.dat (.int .i64) n0 o0]=qwB n n0:=by
 kernel_rfl
theorem qux:qe G Tryz.prog 135 s_z135:=by
 refine sQ (E:=qIP) (c:=qIQ) rfl (fun w S hg=>qd) Tryz.func135 ?_
 intro avs r h
 unfold s_z135 at h
 split at h <;> cases h
 obtain ⟨n,hn⟩:=qBm _
 exact ⟨n,_,(qIR n _ _).trans hn,.inl rfl⟩
def qby:EnvP:=eQ [(135,s_z135)] 14 (some [2,3]) (fun x=>if x=2 then some [0,4] else none) (fun x=>if x=0 then some [] else if x=1 then some [0,4] else none) nP
def qjS:Code:=cO Tryz.f145
def quy:Array ResultVar:=Tryz.f145.results
theorem quz (K:Ex→Fr→OA):∀ (n:Nat) (c0:UInt8) (n4:Int),evLP qby n (sub qjS [1,0,1,0,0]) K (frOf [(0,(.dat .byte c0 none)),(4,(.dat (.int .i64) n4 none))])=qhL (fun s2 s3=>K .ret (frOf [(2,(.dat (.int .i64) s2 none)),(3,(.dat .bool s3 none))])) (K (.exit 0) (frOf [])) n c0 n4:=by
 intro n
 induction n with
 | zero=>intros; rfl
 | succ n IH =>
 intro c0 n4
 have ih:(fun c0 n4=>evLP qby n (sub qjS [1,0,1,0,0]) K (frOf [(0,(.dat .byte c0 none)),(4,(.dat (.int .i64) n4 none))]))=qhL (fun s2 s3=>K .ret (frOf [(2,(.dat (.int .i64) s2 none)),(3,(.dat .bool s3 none))])) (K (.exit 0) (frOf [])) n:=by
  funext c0 n4
  exact IH c0 n4
 show _=qcZ (fun s2 s3=>K .ret (frOf [(2,(.dat (.int .i64) s2 none)),(3,(.dat .bool s3 none))])) (K (.exit 0) (frOf [])) (qhL (fun s2 s3=>K .ret (frOf [(2,(.dat (.int .i64) s2 none)),(3,(.dat .bool s3 none))])) (K (.exit 0) (frOf [])) n) n c0 n4
 rw [← ih]
 kernel_rfl
theorem qmT (n:Nat)  : (qb 0 (qby.cutb 0) (kSeq (evCP qby (evLP qby n) (sub qjS [1,1])) (kFnP qby quy))) (.exit 0) (frOf [])=qeB n  := by
 kernel_rfl
theorem qIS (n:Nat) (c0:UInt8) (o0:Lab):evFnP qby n qjS quy [.dat .byte c0 o0]=qpA n c0:=by
 unfold qpA
 rw [show qhL qdK (qeB n) n=(fun c0 n4=>evLP qby n (sub qjS [1,0,1,0,0]) (qb 0 (qby.cutb 0) (kSeq (evCP qby (evLP qby n) (sub qjS [1,1])) (kFnP qby quy))) (frOf [(0,(.dat .byte c0 none)),(4,(.dat (.int .i64) n4 none))])) from by
  funext c0 n4
  refine Eq.trans ?_ (quz (qb 0 (qby.cutb 0) (kSeq (evCP qby (evLP qby n) (sub qjS [1,1])) (kFnP qby quy))) n c0 n4).symm
  rw [show ((qb 0 (qby.cutb 0) (kSeq (evCP qby (evLP qby n) (sub qjS [1,1])) (kFnP qby quy))) (.exit 0) (frOf []))=(qeB n) from by
   exact qmT n ]
  all_goals kernel_rfl]
 kernel_rfl
theorem qlh:qe G Tryz.prog 145 s_z145:=by
 refine sQ (E:=qby) (c:=qjS) rfl (fun w S hg=>(qa (qux w S hg) qd)) Tryz.func145 ?_
 intro avs r h
 unfold s_z145 at h
 split at h <;> cases h
 obtain ⟨n,hn⟩:=qzC _
 exact ⟨n,_,(qIS n _ _).trans hn,.inl rfl⟩
end
end Go.Av
