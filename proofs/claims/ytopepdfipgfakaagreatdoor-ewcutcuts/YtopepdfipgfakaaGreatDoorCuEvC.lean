import Derived.Test.YtopepdfipgfakaaGreatDoorCuEvB
import Derived.Test.YtopepdfipgfakaaGreatDoorCuC
import Derived.Test.YtopepdfipgfakaaGreatDoorProg
import Derived.KernelRfl
namespace Go.Av
set_option linter.unusedSimpArgs false
noncomputable section
open Go.Proofs
set_option maxRecDepth 100000
set_option linter.unusedVariables false
def qin:EnvP:=eQ [(198,s_z198)] 17 (some [2]) (fun x=>if x=2 then some [5,6,7] else none) (fun x=>if x=0 then some [] else if x=1 then some [5,6,7] else none) nP
def qqo:Code:=cO Tryz.f206
def qFU:Array ResultVar:=Tryz.f206.results
noncomputable def qio (K:Ex→Fr→Option AV):=fun s2=>K .ret (frOf [(2,(.dat (.int .i64) s2 none))])
def qip (n:Nat):Ex→Fr→Option AV:=qm 0 (qin.cutb 0) (kSeq (evCP qin (evLP qin n) (sub qqo [1,1])) (kFnP qin qFU))
def qlK (s5:List Int) (s6:Int) (s7:Int):Fr:=frOf [(5,(.dat (.sl (.int .i32)) s5 none)),(6,(.dat (.int .i64) s6 none)),(7,(.dat (.int .i64) s7 none))]
theorem qsW (K:Ex→Fr→Option AV):∀ (n:Nat) (s5:List Int) (s6:Int) (s7:Int),evLP qin n (sub qqo [1,0,1,0,0]) K (qlK s5 s6 s7)=qgi (qio K) (K (.exit 0) (frOf [])) n s5 s6 s7:=by
 intro n
 induction n with
 | zero=>intros; rfl
 | succ n IH =>
 intro s5 s6 s7
 have ih:(fun s5 s6 s7=>evLP qin n (sub qqo [1,0,1,0,0]) K (qlK s5 s6 s7))=qgi (qio K) (K (.exit 0) (frOf [])) n:=by
  funext s5 s6 s7
  exact IH s5 s6 s7
 show _=qbT (qio K) (K (.exit 0) (frOf [])) (qgi (qio K) (K (.exit 0) (frOf [])) n) n s5 s6 s7
 rw [← ih]
 kernel_rfl
theorem qlL (n:Nat)  : (qip n) (.exit 0) (frOf [])=qdk n  := by
 kernel_rfl
theorem qFV (n:Nat) (t0:List Int) (o0:Lab):evFnP qin n qqo qFU [.dat (.sl (.int .i32)) t0 o0]=qoJ n t0:=by
 unfold qoJ
 rw [show qgi qgh (qdk n) n=(fun s5 s6 s7=>evLP qin n (sub qqo [1,0,1,0,0]) (qip n) (qlK s5 s6 s7)) from by
  funext s5 s6 s7
  refine Eq.trans ?_ (qsW (qip n) n s5 s6 s7).symm
  rw [show ((qip n) (.exit 0) (frOf []))=(qdk n) from by
   exact qlL n ]
  all_goals kernel_rfl]
 kernel_rfl
theorem qsX:qe Gc Tryz.prog 206 s_z206:=by
 refine sQ (E:=qin) (c:=qqo) rfl (fun w S hg=>(qb (qka w S hg) qc)) Tryz.func206 ?_
 intro avs r h
 unfold s_z206 at h
 split at h
 ·obtain ⟨hp,rfl⟩:=Prod.mk.inj h
  obtain ⟨n,hn⟩:=qzy _ hp
  exact ⟨n,_,(qFV n _ _).trans hn,.inl rfl⟩
 ·cases h
def qiq:EnvP:=eQ [(206,s_z206),(207,s_z207)] 32 (some [2,3]) (fun x=>if x=5 then some [4,15,16,17] else none) (fun x=>if x=0 then some [4] else if x=1 then some [4,15,16,17] else none) nP
def qqp:Code:=cO Tryz.f165
def qFW:Array ResultVar:=Tryz.f165.results
noncomputable def qfP (K:Ex→Fr→Option AV):=fun s4=>K (.exit 0) (frOf [(4,(.dat (.sl .byte) s4 (some (4,5))))])
def qir (n:Nat):Ex→Fr→Option AV:=qm 0 (qiq.cutb 0) (kSeq (evCP qiq (evLP qiq n) (sub qqp [1,1,1,1])) (kFnP qiq qFW))
def qlM (s4:List UInt8) (s15:List Int) (s16:Int) (s17:Int):Fr:=frOf [(4,(.dat (.sl .byte) s4 (some (4,5)))),(15,(.dat (.sl (.int .i32)) s15 none)),(16,(.dat (.int .i64) s16 none)),(17,(.dat (.int .i64) s17 none))]
theorem qsY (K:Ex→Fr→Option AV):∀ (n:Nat) (s4:List UInt8) (s15:List Int) (s16:Int) (s17:Int),evLP qiq n (sub qqp [1,1,1,0,1,0,0]) K (qlM s4 s15 s16 s17)=qgj (qfP K) n s4 s15 s16 s17:=by
 intro n
 induction n with
 | zero=>intros; rfl
 | succ n IH =>
 intro s4 s15 s16 s17
 have ih:(fun s4 s15 s16 s17=>evLP qiq n (sub qqp [1,1,1,0,1,0,0]) K (qlM s4 s15 s16 s17))=qgj (qfP K) n:=by
  funext s4 s15 s16 s17
  exact IH s4 s15 s16 s17
 show _=qbU (qfP K) (qgj (qfP K) n) n s4 s15 s16 s17
 rw [← ih]
 kernel_rfl
theorem qlN (n:Nat) (s4:List UInt8):(qir n) (.exit 0) (frOf [(4,(.dat (.sl .byte) s4 (some (4,5))))])=qbV n s4:=by
 kernel_rfl
theorem qFX (n:Nat) (t0:List Int) (o0:Lab):evFnP qiq n qqp qFW [.dat (.sl (.int .i32)) t0 o0]=qoK n t0:=by
 unfold qoK
 rw [show qgj (qbV n) n=(fun s4 s15 s16 s17=>evLP qiq n (sub qqp [1,1,1,0,1,0,0]) (qir n) (qlM s4 s15 s16 s17)) from by
  funext s4 s15 s16 s17
  refine Eq.trans ?_ (qsY (qir n) n s4 s15 s16 s17).symm
  rw [show (qfP (qir n))=(qbV n) from by
   funext s4
   exact qlN n s4]
  all_goals kernel_rfl]
 kernel_rfl
theorem qsZ:qe Gc Tryz.prog 165 s_z165:=by
 refine sQ (E:=qiq) (c:=qqp) rfl (fun w S hg=>(qb (qsX w S hg) (qb (qjZ w S hg) qc))) Tryz.func165 ?_
 intro avs r h
 unfold s_z165 at h
 split at h
 ·obtain ⟨hp,rfl⟩:=Prod.mk.inj h
  obtain ⟨n,hn⟩:=qzV _ hp
  exact ⟨n,_,(qFX n _ _).trans hn,.inl rfl⟩
 ·cases h
def qis:EnvP:=eQ [(196,s_z196)] 17 (some [2]) (fun x=>if x=2 then some [0,5,6] else none) (fun x=>if x=0 then some [] else if x=1 then some [0,5,6] else none) nP
def qqq:Code:=cO Tryz.f208
def qFY:Array ResultVar:=Tryz.f208.results
noncomputable def qit (K:Ex→Fr→Option AV):=fun s2=>K .ret (frOf [(2,(.dat (.int .i64) s2 none))])
def qiu (n:Nat):Ex→Fr→Option AV:=qm 0 (qis.cutb 0) (kSeq (evCP qis (evLP qis n) (sub qqq [1,1])) (kFnP qis qFY))
def qlO (t0:List Int) (s5:Int) (s6:Int):Fr:=frOf [(0,(.dat (.sl (.int .i32)) t0 none)),(5,(.dat (.int .i64) s5 none)),(6,(.dat (.int .i64) s6 none))]
theorem qta (K:Ex→Fr→Option AV):∀ (n:Nat) (t0:List Int) (s5:Int) (s6:Int),evLP qis n (sub qqq [1,0,1,0,0]) K (qlO t0 s5 s6)=qgl (qit K) (K (.exit 0) (frOf [])) n t0 s5 s6:=by
 intro n
 induction n with
 | zero=>intros; rfl
 | succ n IH =>
 intro t0 s5 s6
 have ih:(fun t0 s5 s6=>evLP qis n (sub qqq [1,0,1,0,0]) K (qlO t0 s5 s6))=qgl (qit K) (K (.exit 0) (frOf [])) n:=by
  funext t0 s5 s6
  exact IH t0 s5 s6
 show _=qbW (qit K) (K (.exit 0) (frOf [])) (qgl (qit K) (K (.exit 0) (frOf [])) n) n t0 s5 s6
 rw [← ih]
 kernel_rfl
theorem qlP (n:Nat)  : (qiu n) (.exit 0) (frOf [])=qdl n  := by
 kernel_rfl
theorem qFZ (n:Nat) (t0:List Int) (o0:Lab):evFnP qis n qqq qFY [.dat (.sl (.int .i32)) t0 o0]=qoL n t0:=by
 unfold qoL
 rw [show qgl qgk (qdl n) n=(fun t0 s5 s6=>evLP qis n (sub qqq [1,0,1,0,0]) (qiu n) (qlO t0 s5 s6)) from by
  funext t0 s5 s6
  refine Eq.trans ?_ (qta (qiu n) n t0 s5 s6).symm
  rw [show ((qiu n) (.exit 0) (frOf []))=(qdl n) from by
   exact qlP n ]
  all_goals kernel_rfl]
 kernel_rfl
theorem qtb:qe Gc Tryz.prog 208 s_z208:=by
 refine sQ (E:=qis) (c:=qqq) rfl (fun w S hg=>(qb (qjX w S hg) qc)) Tryz.func208 ?_
 intro avs r h
 unfold s_z208 at h
 split at h
 ·obtain ⟨hp,rfl⟩:=Prod.mk.inj h
  obtain ⟨n,hn⟩:=qzz _ hp
  exact ⟨n,_,(qFZ n _ _).trans hn,.inl rfl⟩
 ·cases h
def qiv:EnvP:=eQ [(208,s_z208)] 27 (some [2,3]) (fun x=>if x=5 then some [4,13,14,15] else none) (fun x=>if x=0 then some [4] else if x=1 then some [4,13,14,15] else none) (fun x=>if x=12 then some (.psl 5 (.leaf .byte)) else none)
def qqr:Code:=cO Tryz.f166
def qGa:Array ResultVar:=Tryz.f166.results
noncomputable def qfQ (K:Ex→Fr→Option AV):=fun s4=>K (.exit 0) (frOf [(4,(.pv (.psl 5 (.leaf .byte)) s4 none))])
def qiw (n:Nat):Ex→Fr→Option AV:=qm 0 (qiv.cutb 0) (kSeq (evCP qiv (evLP qiv n) (sub qqr [1,1,1,1])) (kFnP qiv qGa))
def qlQ (s4:List UInt8) (s13:List Int) (s14:Int) (s15:Int):Fr:=frOf [(4,(.pv (.psl 5 (.leaf .byte)) s4 none)),(13,(.dat (.sl (.int .i32)) s13 none)),(14,(.dat (.int .i64) s14 none)),(15,(.dat (.int .i64) s15 none))]
theorem qtc (K:Ex→Fr→Option AV):∀ (n:Nat) (s4:List UInt8) (s13:List Int) (s14:Int) (s15:Int),evLP qiv n (sub qqr [1,1,1,0,1,0,0]) K (qlQ s4 s13 s14 s15)=qdm (qfQ K) n s4 s13 s14 s15:=by
 intro n
 induction n with
 | zero=>intros; rfl
 | succ n IH =>
 intro s4 s13 s14 s15
 have ih:(fun s4 s13 s14 s15=>evLP qiv n (sub qqr [1,1,1,0,1,0,0]) K (qlQ s4 s13 s14 s15))=qdm (qfQ K) n:=by
  funext s4 s13 s14 s15
  exact IH s4 s13 s14 s15
 show _=qbX (qfQ K) (qdm (qfQ K) n) n s4 s13 s14 s15
 rw [← ih]
 kernel_rfl
theorem qlR (n:Nat) (s4:List UInt8):(qiw n) (.exit 0) (frOf [(4,(.pv (.psl 5 (.leaf .byte)) s4 none))])=qbY n s4:=by
 kernel_rfl
theorem qGb (n:Nat) (t0:List Int) (o0:Lab):evFnP qiv n qqr qGa [.dat (.sl (.int .i32)) t0 o0]=qoM n t0:=by
 unfold qoM
 rw [show qdm (qbY n) n=(fun s4 s13 s14 s15=>evLP qiv n (sub qqr [1,1,1,0,1,0,0]) (qiw n) (qlQ s4 s13 s14 s15)) from by
  funext s4 s13 s14 s15
  refine Eq.trans ?_ (qtc (qiw n) n s4 s13 s14 s15).symm
  rw [show (qfQ (qiw n))=(qbY n) from by
   funext s4
   exact qlR n s4]
  all_goals kernel_rfl]
 kernel_rfl
theorem qtd:qe Gc Tryz.prog 166 s_z166:=by
 refine sQ (E:=qiv) (c:=qqr) rfl (fun w S hg=>(qb (qtb w S hg) qc)) Tryz.func166 ?_
 intro avs r h
 unfold s_z166 at h
 split at h
 ·obtain ⟨hp,rfl⟩:=Prod.mk.inj h
  obtain ⟨n,hn⟩:=qzL _ hp
  exact ⟨n,_,(qGb n _ _).trans hn,.inl rfl⟩
 ·cases h
def qGc:EnvP:=eQ [(161,s_z161),(162,s_z162),(163,s_z163),(164,s_z164),(165,s_z165),(166,s_z166)] 38 (some [1000004,5]) nC (fun x=>if x=0 then some [0,1] else if x=1 then some [1] else none) nP
def qGd:Code:=cO Tryz.f120
def qJB:Array ResultVar:=Tryz.f120.results
theorem qGe (n:Nat) (charset0:Int) (o0:Lab) (t1:List Int) (o1:Lab):evFnP qGc n qGd qJB [.dat (.int .i64) charset0 o0,.dat (.sl (.int .i32)) t1 o1]=quU n charset0 t1:=by
 kernel_rfl
theorem qkc:qe Gc Tryz.prog 120 s_z120:=by
 refine sQ (E:=qGc) (c:=qGd) rfl (fun w S hg=>(qb (qjW w S hg) (qb (qsJ w S hg) (qb (qsT w S hg) (qb (qsV w S hg) (qb (qsZ w S hg) (qb (qtd w S hg) qc))))))) Tryz.func120 ?_
 intro avs r h
 unfold s_z120 at h
 split at h
 ·obtain ⟨hp,rfl⟩:=Prod.mk.inj h
  obtain ⟨n,hn⟩:=qzX _ _ hp
  exact ⟨n,_,(qGe n _ _ _ _).trans hn,.inl rfl⟩
 ·cases h
def qGf:EnvP:=eQ [] 46 (some [2]) nC (fun x=>if x=0 then some [3] else none) nP
def qGg:Code:=cO Tryz.f214
def qJC:Array ResultVar:=Tryz.f214.results
theorem qGh (n:Nat) (c0:UInt8) (o0:Lab):evFnP qGf n qGg qJC [.dat .byte c0 o0]=quV n c0:=by
 kernel_rfl
theorem qte:qe Gc Tryz.prog 214 s_z214:=by
 refine sQ (E:=qGf) (c:=qGg) rfl (fun w S hg=>qc) Tryz.func214 ?_
 intro avs r h
 unfold s_z214 at h
 split at h <;> cases h
 obtain ⟨n,hn⟩:=qyV _
 exact ⟨n,_,(qGh n _ _).trans hn,.inl rfl⟩
def qGi:EnvP:=eQ [(241,s_z241)] 8 (some [4]) nC nC nP
def qGj:Code:=cO Tryz.f229
def qJD:Array ResultVar:=Tryz.f229.results
theorem qGk (n:Nat) (s0:List UInt8) (o0:Lab) (c1:UInt8) (o1:Lab):evFnP qGi n qGj qJD [.dat .str s0 o0,.dat .byte c1 o1]=qAS n s0 c1:=by
 kernel_rfl
theorem qtf:qe Gc Tryz.prog 229 s_z229:=by
 refine sQ (E:=qGi) (c:=qGj) rfl (fun w S hg=>(qb (qsw w S hg) qc)) Tryz.func229 ?_
 intro avs r h
 unfold s_z229 at h
 split at h <;> cases h
 obtain ⟨n,hn⟩:=qyW _ _
 exact ⟨n,_,(qGk n _ _ _ _).trans hn,.inl rfl⟩
def qGl:EnvP:=eQ [(229,s_z229)] 8 (some [4]) nC nC nP
def qGm:Code:=cO Tryz.f192
def qJE:Array ResultVar:=Tryz.f192.results
theorem qGn (n:Nat) (s0:List UInt8) (o0:Lab) (c1:UInt8) (o1:Lab):evFnP qGl n qGm qJE [.dat .str s0 o0,.dat .byte c1 o1]=qAT n s0 c1:=by
 kernel_rfl
theorem qtg:qe Gc Tryz.prog 192 s_z192:=by
 refine sQ (E:=qGl) (c:=qGm) rfl (fun w S hg=>(qb (qtf w S hg) qc)) Tryz.func192 ?_
 intro avs r h
 unfold s_z192 at h
 split at h <;> cases h
 obtain ⟨n,hn⟩:=qyX _ _
 exact ⟨n,_,(qGn n _ _ _ _).trans hn,.inl rfl⟩
def qGo:EnvP:=eQ [(192,s_z192)] 9 (some [4]) nC nC nP
def qGp:Code:=cO Tryz.f215
def qJF:Array ResultVar:=Tryz.f215.results
theorem qGq (n:Nat) (s0:List UInt8) (o0:Lab) (c1:UInt8) (o1:Lab):evFnP qGo n qGp qJF [.dat .str s0 o0,.dat .byte c1 o1]=qAU n s0 c1:=by
 kernel_rfl
theorem qth:qe Gc Tryz.prog 215 s_z215:=by
 refine sQ (E:=qGo) (c:=qGp) rfl (fun w S hg=>(qb (qtg w S hg) qc)) Tryz.func215 ?_
 intro avs r h
 unfold s_z215 at h
 split at h <;> cases h
 obtain ⟨n,hn⟩:=qyY _ _
 exact ⟨n,_,(qGq n _ _ _ _).trans hn,.inl rfl⟩
def qGr:EnvP:=eQ [(214,s_z214),(215,s_z215)] 35 (some [2]) nC nC nP
def qGs:Code:=cO Tryz.f180
def qJG:Array ResultVar:=Tryz.f180.results
theorem qGt (n:Nat) (c0:UInt8) (o0:Lab):evFnP qGr n qGs qJG [.dat .byte c0 o0]=quZ n c0:=by
 kernel_rfl
theorem qti:qe Gc Tryz.prog 180 s_z180:=by
 refine sQ (E:=qGr) (c:=qGs) rfl (fun w S hg=>(qb (qte w S hg) (qb (qth w S hg) qc))) Tryz.func180 ?_
 intro avs r h
 unfold s_z180 at h
 split at h <;> cases h
 obtain ⟨n,hn⟩:=qyZ _
 exact ⟨n,_,(qGt n _ _).trans hn,.inl rfl⟩
def qGu:EnvP:=eQ [(180,s_z180)] 10 (some [4]) nC nC nP
def qGv:Code:=cO Tryz.f129
def qJH:Array ResultVar:=Tryz.f129.results
theorem qGw (n:Nat) (c0:UInt8) (o0:Lab) (kinds1:Int) (o1:Lab):evFnP qGu n qGv qJH [.dat .byte c0 o0,.dat (.int .i64) kinds1 o1]=qAV n c0 kinds1:=by
 kernel_rfl
theorem qtj:qe Gc Tryz.prog 129 s_z129:=by
 refine sQ (E:=qGu) (c:=qGv) rfl (fun w S hg=>(qb (qti w S hg) qc)) Tryz.func129 ?_
 intro avs r h
 unfold s_z129 at h
 split at h <;> cases h
 obtain ⟨n,hn⟩:=qza _ _
 exact ⟨n,_,(qGw n _ _ _ _).trans hn,.inl rfl⟩
def E_z84:EnvP:=eQ [(129,s_z129)] 9 (some [2]) nC nC nP
def C_z84:Code:=cO Tryz.f84
def R_z84:Array ResultVar:=Tryz.f84.results
theorem qJI (n:Nat) (c0:UInt8) (o0:Lab):evFnP E_z84 n C_z84 R_z84 [.dat .byte c0 o0]=qCA n c0:=by
 kernel_rfl
theorem qnL:qe Gc Tryz.prog 84 s_z84:=by
 refine sQ (E:=E_z84) (c:=C_z84) rfl (fun w S hg=>(qb (qtj w S hg) qc)) Tryz.func84 ?_
 intro avs r h
 unfold s_z84 at h
 split at h <;> cases h
 obtain ⟨n,hn⟩:=qDk _
 exact ⟨n,_,(qJI n _ _).trans hn,.inl rfl⟩
def E_z83:EnvP:=eQ [(84,s_z84)] 18 (some [2]) (fun x=>if x=3 then some [3,6,7,8] else none) (fun x=>if x=0 then some [3] else if x=1 then some [3,6,7,8] else none) nP
def C_z83:Code:=cO Tryz.f83
def R_z83:Array ResultVar:=Tryz.f83.results
noncomputable def qkd (K:Ex→Fr→Option AV):=fun n3=>K (.exit 0) (frOf [(3,(.dat (.int .i64) n3 none))])
def qnM (n:Nat):Ex→Fr→Option AV:=qm 0 (E_z83.cutb 0) (kSeq (evCP E_z83 (evLP E_z83 n) (sub C_z83 [1,1,1])) (kFnP E_z83 R_z83))
def qtk (n3:Int) (s6:List UInt8) (s7:Int) (s8:Int):Fr:=frOf [(3,(.dat (.int .i64) n3 none)),(6,(.dat (.sl .byte) s6 none)),(7,(.dat (.int .i64) s7 none)),(8,(.dat (.int .i64) s8 none))]
theorem qxu (K:Ex→Fr→Option AV):∀ (n:Nat) (n3:Int) (s6:List UInt8) (s7:Int) (s8:Int),evLP E_z83 n (sub C_z83 [1,1,0,1,0,0]) K (qtk n3 s6 s7 s8)=qmt (qkd K) n n3 s6 s7 s8:=by
 intro n
 induction n with
 | zero=>intros; rfl
 | succ n IH =>
 intro n3 s6 s7 s8
 have ih:(fun n3 s6 s7 s8=>evLP E_z83 n (sub C_z83 [1,1,0,1,0,0]) K (qtk n3 s6 s7 s8))=qmt (qkd K) n:=by
  funext n3 s6 s7 s8
  exact IH n3 s6 s7 s8
 show _=qdY (qkd K) (qmt (qkd K) n) n n3 s6 s7 s8
 rw [← ih]
 kernel_rfl
theorem qqs (n:Nat) (n3:Int):(qnM n) (.exit 0) (frOf [(3,(.dat (.int .i64) n3 none))])=qgm n n3:=by
 kernel_rfl
theorem qJJ (n:Nat) (s0:List UInt8) (o0:Lab):evFnP E_z83 n C_z83 R_z83 [.dat (.sl .byte) s0 o0]=qyI n s0:=by
 unfold qyI
 rw [show qmt (qgm n) n=(fun n3 s6 s7 s8=>evLP E_z83 n (sub C_z83 [1,1,0,1,0,0]) (qnM n) (qtk n3 s6 s7 s8)) from by
  funext n3 s6 s7 s8
  refine Eq.trans ?_ (qxu (qnM n) n n3 s6 s7 s8).symm
  rw [show (qkd (qnM n))=(qgm n) from by
   funext n3
   exact qqs n n3]
  all_goals kernel_rfl]
 kernel_rfl
theorem qnN:qe Gc Tryz.prog 83 s_z83:=by
 refine sQ (E:=E_z83) (c:=C_z83) rfl (fun w S hg=>(qb (qnL w S hg) qc)) Tryz.func83 ?_
 intro avs r h
 unfold s_z83 at h
 split at h
 ·obtain ⟨hp,rfl⟩:=Prod.mk.inj h
  obtain ⟨n,hn⟩:=qDl _ hp
  exact ⟨n,_,(qJJ n _ _).trans hn,.inl rfl⟩
 ·cases h
end
end Go.Av
