import Derived.Test.YtabdohophompiaaGreatDoorPxEvA
import Derived.Test.YtabdohophompiaaGreatDoorPxN
import Derived.Test.YtabdohophompiaaGreatDoorProg
import Derived.KernelRfl
namespace Go.Av
set_option linter.unusedSimpArgs false
noncomputable section
open Go.Proofs
set_option maxRecDepth 100000
set_option linter.unusedVariables false
def E_z72:EnvP:=eQ [(105,s_z105),(106,s_z106),(107,s_z107),(108,s_z108)] 30 (some [4]) nC (fun x=>if x=0 then some [] else none) nP
def C_z72:Code:=cO Tryz.f72
def R_z72:Array ResultVar:=Tryz.f72.results
theorem qFv (n:Nat) (charset0:Int) (o0:Lab) (c1:Int) (o1:Lab):evFnP E_z72 n C_z72 R_z72 [de charset0 o0,di c1 o1]=qAH n charset0 c1:=by
 kernel_rfl
theorem qmT:qh G Tryz.prog 72 s_z72:=by
 refine sQ (E:=E_z72) (c:=C_z72) rfl (fun w S hg=>(qb (qjR w S hg) (qb (qrg w S hg) (qb (qjU w S hg) (qb (qgv w S hg) qc))))) Tryz.func72 ?_;intro avs r h;unfold s_z72 at h;split at h <;> cases h
 obtain ⟨n,hn⟩:=qBD _ _;exact ⟨n,_,(qFv n _ _ _ _).trans hn,.inl rfl⟩
def E_z42:EnvP:=eQ [(72,s_z72)] 19 (some [2]) (fun x=>if x=3 then some [0,3,5] else none) (fun x=>if x=0 then some [3] else if x=1 then some [0,3,5] else none) nP
def C_z42:Code:=cO Tryz.f42
def R_z42:Array ResultVar:=Tryz.f42.results
noncomputable def qjV (K:Ex→Fr→Option AV):=fun s3=>K (.exit 0) (frOf [(3,dc s3)])
def qmU (n:Nat):Ex→Fr→Option AV:=qz 0 (E_z42.cutb 0) (kSeq (evCP E_z42 (evLP E_z42 n) (sub C_z42 [1,1,1])) (kFnP E_z42 R_z42))
def qrk (c0:Int) (s3:Int) (s5:Int):Fr:=frOf [(0,(di c0 none)),(3,dc s3),(5,dc s5)]
theorem qve (K:Ex→Fr→Option AV):∀ (n:Nat) (c0:Int) (s3:Int) (s5:Int),evLP E_z42 n (sub C_z42 [1,1,0,1,0,0]) K (qrk c0 s3 s5)=qiW (qjV K) n c0 s3 s5:=by
 intro n;induction n with
 | zero=>intros; rfl
 | succ n IH =>
 intro c0 s3 s5;have ih:(fun c0 s3 s5=>evLP E_z42 n (sub C_z42 [1,1,0,1,0,0]) K (qrk c0 s3 s5))=qiW (qjV K) n:=by
  funext c0 s3 s5;exact IH c0 s3 s5
 show _=qep (qjV K) (qiW (qjV K) n) n c0 s3 s5;rw [← ih];kernel_rfl
theorem qoR (n:Nat) (s3:Int):(qmU n) (.exit 0) (frOf [(3,dc s3)])=qcT n s3:=by
 kernel_rfl
theorem qFw (n:Nat) (c0:Int) (o0:Lab):evFnP E_z42 n C_z42 R_z42 [di c0 o0]=qwP n c0:=by
 unfold qwP;rw [show qiW (qcT n) n=(fun c0 s3 s5=>evLP E_z42 n (sub C_z42 [1,1,0,1,0,0]) (qmU n) (qrk c0 s3 s5)) from by
  funext c0 s3 s5;refine Eq.trans ?_ (qve (qmU n) n c0 s3 s5).symm;rw [show (qjV (qmU n))=(qcT n) from by
   funext s3;exact qoR n s3]
  all_goals kernel_rfl]
 kernel_rfl
theorem qvf:qh G Tryz.prog 42 s_z42:=by
 refine sQ (E:=E_z42) (c:=C_z42) rfl (fun w S hg=>(qb (qmT w S hg) qc)) Tryz.func42 ?_;intro avs r h;unfold s_z42 at h;split at h <;> cases h
 obtain ⟨n,hn⟩:=qBO _;exact ⟨n,_,(qFw n _ _).trans hn,.inl rfl⟩
def E_z73:EnvP:=eQ [(110,s_z110)] 8 (some [2]) nC nC nP
def C_z73:Code:=cO Tryz.f73
def R_z73:Array ResultVar:=Tryz.f73.results
theorem qFx (n:Nat) (x0:Int) (o0:Lab):evFnP E_z73 n C_z73 R_z73 [.dat (.int .u64) x0 o0]=qAI n x0:=by
 kernel_rfl
theorem qvg:qh G Tryz.prog 73 s_z73:=by
 refine sQ (E:=E_z73) (c:=C_z73) rfl (fun w S hg=>(qb (qrc w S hg) qc)) Tryz.func73 ?_;intro avs r h;unfold s_z73 at h;split at h
 ·obtain ⟨hp,rfl⟩:=yj h;obtain ⟨n,hn⟩:=qBK _ hp;exact ⟨n,_,(qFx n _ _).trans hn,.inl rfl⟩
 ·cases h
def E_z43:EnvP:=eQ [(73,s_z73)] 8 (some [2]) nC nC nP
def C_z43:Code:=cO Tryz.f43
def R_z43:Array ResultVar:=Tryz.f43.results
theorem qFy (n:Nat) (sets0:Int) (o0:Lab):evFnP E_z43 n C_z43 R_z43 [de sets0 o0]=qAJ n sets0:=by
 kernel_rfl
theorem qvh:qh G Tryz.prog 43 s_z43:=by
 refine sQ (E:=E_z43) (c:=C_z43) rfl (fun w S hg=>(qb (qvg w S hg) qc)) Tryz.func43 ?_;intro avs r h;unfold s_z43 at h;split at h
 ·obtain ⟨hp,rfl⟩:=yj h;obtain ⟨n,hn⟩:=qBL _ hp;exact ⟨n,_,(qFy n _ _).trans hn,.inl rfl⟩
 ·cases h
def E_z22:EnvP:=eQ [(42,s_z42),(43,s_z43)] 22 (some [2,3]) (fun x=>if x=3 then some [4,7,8,9] else none) (fun x=>if x=0 then some [4] else if x=1 then some [4,7,8,9] else none) nP
def C_z22:Code:=cO Tryz.f22
def R_z22:Array ResultVar:=Tryz.f22.results
noncomputable def qjW (K:Ex→Fr→Option AV):=fun all4=>K (.exit 0) (frOf [(4,dc all4)])
def qmV (n:Nat):Ex→Fr→Option AV:=qz 0 (E_z22.cutb 0) (kSeq (evCP E_z22 (evLP E_z22 n) (sub C_z22 [1,1,1])) (kFnP E_z22 R_z22))
def qrl (all4:Int) (s7:List Int) (s8:Int) (s9:Int):Fr:=frOf [(4,dc all4),(7,(.dat (.sl (.int .i32)) s7 none)),(8,dc s8),(9,dc s9)]
theorem qvi (K:Ex→Fr→Option AV):∀ (n:Nat) (all4:Int) (s7:List Int) (s8:Int) (s9:Int),evLP E_z22 n (sub C_z22 [1,1,0,1,0,0]) K (qrl all4 s7 s8 s9)=qlG (qjW K) n all4 s7 s8 s9:=by
 intro n;induction n with
 | zero=>intros; rfl
 | succ n IH =>
 intro all4 s7 s8 s9;have ih:(fun all4 s7 s8 s9=>evLP E_z22 n (sub C_z22 [1,1,0,1,0,0]) K (qrl all4 s7 s8 s9))=qlG (qjW K) n:=by
  funext all4 s7 s8 s9;exact IH all4 s7 s8 s9
 show _=qeq (qjW K) (qlG (qjW K) n) n all4 s7 s8 s9;rw [← ih];kernel_rfl
theorem qoS (n:Nat) (all4:Int):(qmV n) (.exit 0) (frOf [(4,dc all4)])=qcU n all4:=by
 kernel_rfl
theorem qFz (n:Nat) (t0:List Int) (o0:Lab):evFnP E_z22 n C_z22 R_z22 [.dat (.sl (.int .i32)) t0 o0]=qwQ n t0:=by
 unfold qwQ;rw [show qlG (qcU n) n=(fun all4 s7 s8 s9=>evLP E_z22 n (sub C_z22 [1,1,0,1,0,0]) (qmV n) (qrl all4 s7 s8 s9)) from by
  funext all4 s7 s8 s9;refine Eq.trans ?_ (qvi (qmV n) n all4 s7 s8 s9).symm;rw [show (qjW (qmV n))=(qcU n) from by
   funext all4;exact qoS n all4]
  all_goals kernel_rfl]
 kernel_rfl
theorem qvj:qh G Tryz.prog 22 s_z22:=by
 refine sQ (E:=E_z22) (c:=C_z22) rfl (fun w S hg=>(qb (qvf w S hg) (qb (qvh w S hg) qc))) Tryz.func22 ?_;intro avs r h;unfold s_z22 at h;split at h
 ·obtain ⟨hp,rfl⟩:=yj h;obtain ⟨n,hn⟩:=qBP _ hp;exact ⟨n,_,(qFz n _ _).trans hn,.inl rfl⟩
 ·cases h
def E_z92:EnvP:=eQ [(105,s_z105)] 17 (some [2]) (fun x=>if x=2 then some [0,5,6] else none) (fun x=>if x=0 then some [] else if x=1 then some [0,5,6] else none) nP
def C_z92:Code:=cO Tryz.f92
def R_z92:Array ResultVar:=Tryz.f92.results
noncomputable def qmW (K:Ex→Fr→Option AV):=fun s2=>K .ret (frOf [(2,dc s2)])
def qmX (n:Nat):Ex→Fr→Option AV:=qz 0 (E_z92.cutb 0) (kSeq (evCP E_z92 (evLP E_z92 n) (sub C_z92 [1,1])) (kFnP E_z92 R_z92))
def qrm (t0:List Int) (s5:Int) (s6:Int):Fr:=frOf [(0,(.dat (.sl (.int .i32)) t0 none)),(5,dc s5),(6,dc s6)]
theorem qvk (K:Ex→Fr→Option AV):∀ (n:Nat) (t0:List Int) (s5:Int) (s6:Int),evLP E_z92 n (sub C_z92 [1,0,1,0,0]) K (qrm t0 s5 s6)=qlH (qmW K) (K (.exit 0) (frOf [])) n t0 s5 s6:=by
 intro n;induction n with
 | zero=>intros; rfl
 | succ n IH =>
 intro t0 s5 s6;have ih:(fun t0 s5 s6=>evLP E_z92 n (sub C_z92 [1,0,1,0,0]) K (qrm t0 s5 s6))=qlH (qmW K) (K (.exit 0) (frOf [])) n:=by
  funext t0 s5 s6;exact IH t0 s5 s6
 show _=qer (qmW K) (K (.exit 0) (frOf [])) (qlH (qmW K) (K (.exit 0) (frOf [])) n) n t0 s5 s6;rw [← ih];kernel_rfl
theorem qoT (n:Nat)  : (qmX n) (.exit 0) (frOf [])=qgE n  := by
 kernel_rfl
theorem qFA (n:Nat) (t0:List Int) (o0:Lab):evFnP E_z92 n C_z92 R_z92 [.dat (.sl (.int .i32)) t0 o0]=qwR n t0:=by
 unfold qwR;rw [show qlH qkA (qgE n) n=(fun t0 s5 s6=>evLP E_z92 n (sub C_z92 [1,0,1,0,0]) (qmX n) (qrm t0 s5 s6)) from by
  funext t0 s5 s6;refine Eq.trans ?_ (qvk (qmX n) n t0 s5 s6).symm;rw [show ((qmX n) (.exit 0) (frOf []))=(qgE n) from by
   exact qoT n ]
  all_goals kernel_rfl]
 kernel_rfl
theorem qvl:qh G Tryz.prog 92 s_z92:=by
 refine sQ (E:=E_z92) (c:=C_z92) rfl (fun w S hg=>(qb (qjR w S hg) qc)) Tryz.func92 ?_;intro avs r h;unfold s_z92 at h;split at h
 ·obtain ⟨hp,rfl⟩:=yj h;obtain ⟨n,hn⟩:=qBz _ hp;exact ⟨n,_,(qFA n _ _).trans hn,.inl rfl⟩
 ·cases h
def E_z52:EnvP:=eQ [(92,s_z92)] 27 (some [2,3]) (fun x=>if x=5 then some [4,13,14,15] else none) (fun x=>if x=0 then some [4] else if x=1 then some [4,13,14,15] else none) (fun x=>if x=12 then some (.psl 5 (.leaf .byte)) else none)
def C_z52:Code:=cO Tryz.f52
def R_z52:Array ResultVar:=Tryz.f52.results
noncomputable def qjX (K:Ex→Fr→Option AV):=fun s4=>K (.exit 0) (frOf [(4,(.pv (.psl 5 (.leaf .byte)) s4 none))])
def qmY (n:Nat):Ex→Fr→Option AV:=qz 0 (E_z52.cutb 0) (kSeq (evCP E_z52 (evLP E_z52 n) (sub C_z52 [1,1,1,1])) (kFnP E_z52 R_z52))
def qrn (s4:List UInt8) (s13:List Int) (s14:Int) (s15:Int):Fr:=frOf [(4,(.pv (.psl 5 (.leaf .byte)) s4 none)),(13,(.dat (.sl (.int .i32)) s13 none)),(14,dc s14),(15,dc s15)]
theorem qvm (K:Ex→Fr→Option AV):∀ (n:Nat) (s4:List UInt8) (s13:List Int) (s14:Int) (s15:Int),evLP E_z52 n (sub C_z52 [1,1,1,0,1,0,0]) K (qrn s4 s13 s14 s15)=qiX (qjX K) n s4 s13 s14 s15:=by
 intro n;induction n with
 | zero=>intros; rfl
 | succ n IH =>
 intro s4 s13 s14 s15;have ih:(fun s4 s13 s14 s15=>evLP E_z52 n (sub C_z52 [1,1,1,0,1,0,0]) K (qrn s4 s13 s14 s15))=qiX (qjX K) n:=by
  funext s4 s13 s14 s15;exact IH s4 s13 s14 s15
 show _=qes (qjX K) (qiX (qjX K) n) n s4 s13 s14 s15;rw [← ih];kernel_rfl
theorem qoU (n:Nat) (s4:List UInt8):(qmY n) (.exit 0) (frOf [(4,(.pv (.psl 5 (.leaf .byte)) s4 none))])=qet n s4:=by
 kernel_rfl
theorem qFB (n:Nat) (t0:List Int) (o0:Lab):evFnP E_z52 n C_z52 R_z52 [.dat (.sl (.int .i32)) t0 o0]=qwS n t0:=by
 unfold qwS;rw [show qiX (qet n) n=(fun s4 s13 s14 s15=>evLP E_z52 n (sub C_z52 [1,1,1,0,1,0,0]) (qmY n) (qrn s4 s13 s14 s15)) from by
  funext s4 s13 s14 s15;refine Eq.trans ?_ (qvm (qmY n) n s4 s13 s14 s15).symm;rw [show (qjX (qmY n))=(qet n) from by
   funext s4;exact qoU n s4]
  all_goals kernel_rfl]
 kernel_rfl
theorem qmZ:qh G Tryz.prog 52 s_z52:=by
 refine sQ (E:=E_z52) (c:=C_z52) rfl (fun w S hg=>(qb (qvl w S hg) qc)) Tryz.func52 ?_;intro avs r h;unfold s_z52 at h;split at h
 ·obtain ⟨hp,rfl⟩:=yj h;obtain ⟨n,hn⟩:=qBC _ hp;exact ⟨n,_,(qFB n _ _).trans hn,.inl rfl⟩
 ·cases h
def E_z74:EnvP:=eQ [] 13 (some [2]) nC (fun x=>if x=0 then some [] else none) nP
def C_z74:Code:=cO Tryz.f74
def R_z74:Array ResultVar:=Tryz.f74.results
theorem qFC (n:Nat) (charset0:Int) (o0:Lab):evFnP E_z74 n C_z74 R_z74 [de charset0 o0]=qAK n charset0:=by
 kernel_rfl
theorem qna:qh G Tryz.prog 74 s_z74:=by
 refine sQ (E:=E_z74) (c:=C_z74) rfl (fun w S hg=>qc) Tryz.func74 ?_;intro avs r h;unfold s_z74 at h;split at h <;> cases h
 obtain ⟨n,hn⟩:=qBE _;exact ⟨n,_,(qFC n _ _).trans hn,.inl rfl⟩
def qit:EnvP:=eQ [(72,s_z72)] 20 (some [4]) (fun x=>if x=2 then some [0,7,8,9] else none) (fun x=>if x=0 then some [] else if x=1 then some [0,7,8,9] else none) nP
def qoV:Code:=cO Tryz.f111
def qDe:Array ResultVar:=Tryz.f111.results
noncomputable def qiu (K:Ex→Fr→Option AV):=fun s4=>K .ret (frOf [(4,dc s4)])
def qiv (n:Nat):Ex→Fr→Option AV:=qz 0 (qit.cutb 0) (kSeq (evCP qit (evLP qit n) (sub qoV [1,1])) (kFnP qit qDe))
def qlo (charset0:Int) (s7:List Int) (s8:Int) (s9:Int):Fr:=frOf [(0,dc charset0),(7,(.dat (.sl (.int .i32)) s7 none)),(8,dc s8),(9,dc s9)]
theorem qro (K:Ex→Fr→Option AV):∀ (n:Nat) (charset0:Int) (s7:List Int) (s8:Int) (s9:Int),evLP qit n (sub qoV [1,0,1,0,0]) K (qlo charset0 s7 s8 s9)=qgG (qiu K) (K (.exit 0) (frOf [])) n charset0 s7 s8 s9:=by
 intro n;induction n with
 | zero=>intros; rfl
 | succ n IH =>
 intro charset0 s7 s8 s9;have ih:(fun charset0 s7 s8 s9=>evLP qit n (sub qoV [1,0,1,0,0]) K (qlo charset0 s7 s8 s9))=qgG (qiu K) (K (.exit 0) (frOf [])) n:=by
  funext charset0 s7 s8 s9;exact IH charset0 s7 s8 s9
 show _=qct (qiu K) (K (.exit 0) (frOf [])) (qgG (qiu K) (K (.exit 0) (frOf [])) n) n charset0 s7 s8 s9;rw [← ih];kernel_rfl
theorem qlp (n:Nat)  : (qiv n) (.exit 0) (frOf [])=qdE n  := by
 kernel_rfl
theorem qDf (n:Nat) (charset0:Int) (o0:Lab) (t1:List Int) (o1:Lab):evFnP qit n qoV qDe [de charset0 o0,.dat (.sl (.int .i32)) t1 o1]=qnV n charset0 t1:=by
 unfold qnV;rw [show qgG qgF (qdE n) n=(fun charset0 s7 s8 s9=>evLP qit n (sub qoV [1,0,1,0,0]) (qiv n) (qlo charset0 s7 s8 s9)) from by
  funext charset0 s7 s8 s9;refine Eq.trans ?_ (qro (qiv n) n charset0 s7 s8 s9).symm;rw [show ((qiv n) (.exit 0) (frOf []))=(qdE n) from by
   exact qlp n ]
  all_goals kernel_rfl]
 kernel_rfl
theorem qrp:qh G Tryz.prog 111 s_z111:=by
 refine sQ (E:=qit) (c:=qoV) rfl (fun w S hg=>(qb (qmT w S hg) qc)) Tryz.func111 ?_;intro avs r h;unfold s_z111 at h;split at h
 ·obtain ⟨hp,rfl⟩:=yj h;obtain ⟨n,hn⟩:=qxB _ _ hp;exact ⟨n,_,(qDf n _ _ _ _).trans hn,.inl rfl⟩
 ·cases h
def E_z75:EnvP:=eQ [(74,s_z74),(111,s_z111)] 14 (some [4]) nC nC nP
def C_z75:Code:=cO Tryz.f75
def R_z75:Array ResultVar:=Tryz.f75.results
theorem qFD (n:Nat) (charset0:Int) (o0:Lab) (t1:List Int) (o1:Lab):evFnP E_z75 n C_z75 R_z75 [de charset0 o0,.dat (.sl (.int .i32)) t1 o1]=qAL n charset0 t1:=by
 kernel_rfl
theorem qvn:qh G Tryz.prog 75 s_z75:=by
 refine sQ (E:=E_z75) (c:=C_z75) rfl (fun w S hg=>(qb (qna w S hg) (qb (qrp w S hg) qc))) Tryz.func75 ?_;intro avs r h;unfold s_z75 at h;split at h
 ·obtain ⟨hp,rfl⟩:=yj h;obtain ⟨n,hn⟩:=qBF _ _ hp;exact ⟨n,_,(qFD n _ _ _ _).trans hn,.inl rfl⟩
 ·cases h
end
end Go.Av
