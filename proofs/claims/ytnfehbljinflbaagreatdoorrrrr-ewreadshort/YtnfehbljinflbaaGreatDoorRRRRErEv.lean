import Derived.Test.YtnfehbljinflbaaGreatDoorRRRRErEvI
import Derived.Test.YtnfehbljinflbaaGreatDoorRRRREtN
import Derived.Test.YtnfehbljinflbaaGreatDoorRRRRProg
import Derived.KernelRfl
namespace Go.Av
set_option linter.unusedSimpArgs false
noncomputable section
open Go.Proofs
set_option maxRecDepth 100000
set_option linter.unusedVariables false
def E_z56:EnvP:=eQ [] 9 (some [2]) nC nC nP
def C_z56:Code:=cO Tryz.f56
def R_z56:Array ResultVar:=Tryz.f56.results
theorem qIR (n:Nat) (c0:Int) (o0:Lab):evFnP E_z56 n C_z56 R_z56 [di c0 o0]=qDZ n c0:=by
 kernel_rfl
theorem qyE:qg G Tryz.prog 56 s_z56:=by
 refine sQ (E:=E_z56) (c:=C_z56) rfl (fun w S hg=>qc) Tryz.func56 ?_;intro avs r h;unfold s_z56 at h;split at h <;> cases h
 obtain ⟨n,hn⟩:=qDq _;exact ⟨n,_,(qIR n _ _).trans hn,.inl rfl⟩
def E_z34:EnvP:=eQ [(56,s_z56)] 14 (some [2]) nC nC nP
def C_z34:Code:=cO Tryz.f34
def R_z34:Array ResultVar:=Tryz.f34.results
theorem qIS (n:Nat) (c0:Int) (o0:Lab):evFnP E_z34 n C_z34 R_z34 [di c0 o0]=qEa n c0:=by
 kernel_rfl
theorem qyF:qg G Tryz.prog 34 s_z34:=by
 refine sQ (E:=E_z34) (c:=C_z34) rfl (fun w S hg=>(qb (qyE w S hg) qc)) Tryz.func34 ?_;intro avs r h;unfold s_z34 at h;split at h <;> cases h
 obtain ⟨n,hn⟩:=qDr _;exact ⟨n,_,(qIS n _ _).trans hn,.inl rfl⟩
def E_z18:EnvP:=eQ [(34,s_z34)] 17 (some [2]) (fun x=>if x=2 then some [0,3] else none) (fun x=>if x=0 then some [] else if x=1 then some [0,3] else none) nP
def C_z18:Code:=cO Tryz.f18
def R_z18:Array ResultVar:=Tryz.f18.results
noncomputable def qpI (K:Ex→Fr→Option AV):=fun s2=>K .ret (frOf [(2,dc s2)])
def qpJ (n:Nat):Ex→Fr→Option AV:=qo 0 (E_z18.cutb 0) (kSeq (evCP E_z18 (evLP E_z18 n) (sub C_z18 [1,1])) (kFnP E_z18 R_z18))
def qtX (t0:List Int) (i3:Int):Fr:=frOf [(0,(.dat (.sl (.int .i32)) t0 none)),(3,dc i3)]
theorem qyG (K:Ex→Fr→Option AV):∀ (n:Nat) (t0:List Int) (i3:Int),evLP E_z18 n (sub C_z18 [1,0,1,0,0]) K (qtX t0 i3)=qoB (qpI K) (K (.exit 0) (frOf [])) n t0 i3:=by
 intro n;induction n with
 | zero=>intros; rfl
 | succ n IH =>
 intro t0 i3;have ih:(fun t0 i3=>evLP E_z18 n (sub C_z18 [1,0,1,0,0]) K (qtX t0 i3))=qoB (qpI K) (K (.exit 0) (frOf [])) n:=by
  funext t0 i3;exact IH t0 i3
 show _=qft (qpI K) (K (.exit 0) (frOf [])) (qoB (qpI K) (K (.exit 0) (frOf [])) n) n t0 i3;rw [← ih];kernel_rfl
theorem qry (n:Nat)  : (qpJ n) (.exit 0) (frOf [])=qic n  := by
 kernel_rfl
theorem qIT (n:Nat) (t0:List Int) (o0:Lab):evFnP E_z18 n C_z18 R_z18 [.dat (.sl (.int .i32)) t0 o0]=qzU n t0:=by
 unfold qzU;rw [show qoB qib (qic n) n=(fun t0 i3=>evLP E_z18 n (sub C_z18 [1,0,1,0,0]) (qpJ n) (qtX t0 i3)) from by
  funext t0 i3;refine Eq.trans ?_ (qyG (qpJ n) n t0 i3).symm;rw [show ((qpJ n) (.exit 0) (frOf []))=(qic n) from by
   exact qry n ]
  all_goals kernel_rfl]
 kernel_rfl
theorem qyH:qg G Tryz.prog 18 s_z18:=by
 refine sQ (E:=E_z18) (c:=C_z18) rfl (fun w S hg=>(qb (qyF w S hg) qc)) Tryz.func18 ?_;intro avs r h;unfold s_z18 at h;split at h
 ·obtain ⟨hp,rfl⟩:=yj h;obtain ⟨n,hn⟩:=qDs _ hp;exact ⟨n,_,(qIT n _ _).trans hn,.inl rfl⟩
 ·cases h
def E_z5:EnvP:=eQ [(7,s_z7),(8,s_z8),(9,s_z9),(15,s_z15),(16,s_z16),(17,s_z17),(18,s_z18)] 50 (some [2]) (fun x=>if x=6 then some [0,3,4,14,15,16] else none) (fun x=>if x=0 then some [0,3,4] else if x=1 then some [0,3,4,14,15,16] else none) nP
def C_z5:Code:=cO Tryz.f5
def R_z5:Array ResultVar:=Tryz.f5.results
noncomputable def qtY (K:Ex→Fr→Option AV):=fun s0 t3 all4=>K (.exit 0) (frOf [(0,da s0),(3,(.dat (.sl (.int .i32)) t3 none)),(4,(.dat (.sl (.int .i32)) all4 (some (4,21))))])
def qyI (n:Nat):Ex→Fr→Option AV:=qo 0 (E_z5.cutb 0) (kSeq (evCP E_z5 (evLP E_z5 n) (sub C_z5 [1,1,1,1,1])) (kFnP E_z5 R_z5))
def qCU (s0:List UInt8) (t3:List Int) (all4:List Int) (s14:List (List Int)) (s15:Int) (s16:Int):Fr:=frOf [(0,da s0),(3,(.dat (.sl (.int .i32)) t3 none)),(4,(.dat (.sl (.int .i32)) all4 (some (4,21)))),(14,(.dat (.sl (.sl (.int .i32))) s14 none)),(15,dc s15),(16,dc s16)]
theorem qCV (K:Ex→Fr→Option AV):∀ (n:Nat) (s0:List UInt8) (t3:List Int) (all4:List Int) (s14:List (List Int)) (s15:Int) (s16:Int),evLP E_z5 n (sub C_z5 [1,1,1,1,0,1,0,0]) K (qCU s0 t3 all4 s14 s15 s16)=z5_l6 (qtY K) n s0 t3 all4 s14 s15 s16:=by
 intro n;induction n with
 | zero=>intros; rfl
 | succ n IH =>
 intro s0 t3 all4 s14 s15 s16;have ih:(fun s0 t3 all4 s14 s15 s16=>evLP E_z5 n (sub C_z5 [1,1,1,1,0,1,0,0]) K (qCU s0 t3 all4 s14 s15 s16))=z5_l6 (qtY K) n:=by
  funext s0 t3 all4 s14 s15 s16;exact IH s0 t3 all4 s14 s15 s16
 show _=qiT (qtY K) (z5_l6 (qtY K) n) n s0 t3 all4 s14 s15 s16;rw [← ih];kernel_rfl
theorem qtZ (n:Nat) (s0:List UInt8) (t3:List Int) (all4:List Int):(qyI n) (.exit 0) (frOf [(0,da s0),(3,(.dat (.sl (.int .i32)) t3 none)),(4,(.dat (.sl (.int .i32)) all4 (some (4,21))))])=qmy n s0 t3 all4:=by
 kernel_rfl
theorem z5_ev (n:Nat) (s0:List UInt8) (o0:Lab):evFnP E_z5 n C_z5 R_z5 [db s0 o0]=z5_sh n s0:=by
 unfold z5_sh;rw [show z5_l6 (qmy n) n=(fun s0 t3 all4 s14 s15 s16=>evLP E_z5 n (sub C_z5 [1,1,1,1,0,1,0,0]) (qyI n) (qCU s0 t3 all4 s14 s15 s16)) from by
  funext s0 t3 all4 s14 s15 s16;refine Eq.trans ?_ (qCV (qyI n) n s0 t3 all4 s14 s15 s16).symm;rw [show (qtY (qyI n))=(qmy n) from by
   funext s0 t3 all4;exact qtZ n s0 t3 all4]
  all_goals kernel_rfl]
 kernel_rfl
theorem qCW:qg G Tryz.prog 5 s_z5:=by
 refine sQ (E:=E_z5) (c:=C_z5) rfl (fun w S hg=>(qb (qDa w S hg) (qb (quj w S hg) (qb (qvz w S hg) (qb (qqb w S hg) (qb (qqd w S hg) (qb (qqe w S hg) (qb (qyH w S hg) qc)))))))) Tryz.func5 ?_;intro avs r h;unfold s_z5 at h;split at h <;> cases h
 obtain ⟨n,hn⟩:=qIo _;exact ⟨n,_,(z5_ev n _ _).trans hn,.inl rfl⟩
end
end Go.Av
