import Derived.Test.YtmageajchmoomaaGreatDoorCtEvD
import Derived.Test.YtmageajchmoomaaGreatDoorCtD
import Derived.Test.YtmageajchmoomaaGreatDoorAvE
import Derived.Test.YtmageajchmoomaaGreatDoorProg
import Derived.KernelRfl
namespace Go.Av
set_option linter.unusedSimpArgs false
set_option linter.unusedVariables false
section
noncomputable section
open Go.Proofs
set_option maxRecDepth 100000
set_option linter.unusedVariables false
def E_z12:EnvP:=eQ [(22,s_z22),(23,s_z23),(24,s_z24),(25,s_z25)] 46 (some [2,3]) nC nC nP
def C_z12:Code:=cO Tryz.f12
def R_z12:Array ResultVar:=Tryz.f12.results
def s_z12:Sp:=byE E_z12 C_z12 R_z12
theorem qht:gG 12 s_z12:=by
 refine qc G_stays (E:=E_z12) (fn:=Tryz.f12) (c:=C_z12) (qa rfl qt) (fun w S hg=>⟨⟨(qd (qbz w S hg) (qd (qma w S hg) (qd (qfa w S hg) (qd (qmw w S hg) qh)))),fun f sp h=>qg f sp h w S⟩,qj w S hg,(fun _ _ h=>by cases h),(fun f sp h=>ql f sp h),(fun f it h=>qm f it h),(fun t kt vt h=>qi t kt vt h)⟩) follows Tryz.func12 (by kernel_rfl) (by kernel_rfl) (by kernel_rfl) fun _ _ h=>qe h
def E_z41:EnvP:=eQ [(42,s_z42)] 8 (some [3,9]) nC nC nP
def C_z41:Code:=cO Tryz.f41
def R_z41:Array ResultVar:=Tryz.f41.results
def s_z41:Sp:=byM E_z41 C_z41 R_z41
theorem qlH:qfC G Tryz.prog 41 s_z41:=by
 refine qaa G_stays (E:=E_z41) (fn:=Tryz.f41) (c:=C_z41) (qa rfl qt) (fun w S hg=>⟨⟨(qd (qhx w S hg) qh),fun f sp h=>qg f sp h w S⟩,qj w S hg,(fun _ _ h=>by cases h),(fun f sp h=>ql f sp h),(fun f it h=>qm f it h),(fun t kt vt h=>qi t kt vt h)⟩) follows Tryz.func41 (by kernel_rfl) (by kernel_rfl) (by kernel_rfl) fun _ _ h=>qbI h
def E_z40:EnvP:=⟨⟨tiOf tis,fnsOf [],cnsOf [],[],19,(fun x=>if x=2 then some [0,1,7,8,20] else none),(fun x=>if x=0 then some [20] else if x=1 then some [0,1,7,8,20] else none),some [4,20]⟩,fun _=>none,fun _=>none,fun _=>[],(fun x=>if x=41 then some s_z41 else none),fun _=>none,fun _=>none,fun _=>none⟩
def C_z40:Code:=cO Tryz.f40
def R_z40:Array ResultVar:=Tryz.f40.results
def s_z40:Sp:=byM E_z40 C_z40 R_z40
theorem qlI:qfC G Tryz.prog 40 s_z40:=by
 refine qaa G_stays (E:=E_z40) (fn:=Tryz.f40) (c:=C_z40) (qa rfl qt) (fun w S hg=>⟨⟨qh,fun f sp h=>qg f sp h w S⟩,qj w S hg,(fun f sp h=>(qbJ (qlH w S hg) qdt) f sp h),(fun _ _ h=>by cases h),(fun _ _ h=>by cases h),(fun t kt vt h=>qi t kt vt h)⟩) follows Tryz.func40 (by kernel_rfl) (by kernel_rfl) (by kernel_rfl) fun _ _ h=>qbI h
def E_z27:EnvP:=⟨⟨tiOf tis,fnsOf [(43,s_z43)],cnsOf [],[],18,(fun _=>none),(fun _=>none),some [1000004,5]⟩,(fun x=>if x=3 then some (.leaf (.sl .byte)) else none),fun _=>none,fun _=>[],(fun x=>if x=40 then some s_z40 else none),fun _=>none,fun _=>none,fun _=>none⟩
def C_z27:Code:=cO Tryz.f27
def R_z27:Array ResultVar:=Tryz.f27.results
def s_z27:Sp:=byE E_z27 C_z27 R_z27
theorem qhu:gG 27 s_z27:=by
 refine qc G_stays (E:=E_z27) (fn:=Tryz.f27) (c:=C_z27) (qa rfl qt) (fun w S hg=>⟨⟨(qd (qlQ w S hg) qh),fun f sp h=>qg f sp h w S⟩,qj w S hg,(fun f sp h=>(qbJ (qlI w S hg) qdt) f sp h),(fun f sp h=>ql f sp h),(fun f it h=>qm f it h),(fun t kt vt h=>qi t kt vt h)⟩) follows Tryz.func27 (by kernel_rfl) (by kernel_rfl) (by kernel_rfl) fun _ _ h=>qe h
def E_z28:EnvP:=eQ [] 37 (some [2,3]) (fun x=>if x=4 then some [4,5,8,9,10] else none) (fun x=>if x=0 then some [4,5] else if x=1 then some [4,5,8,9,10] else none) nP
def C_z28:Code:=cO Tryz.f28
def R_z28:Array ResultVar:=Tryz.f28.results
def s_z28:Sp:=byE E_z28 C_z28 R_z28
theorem qhv:gG 28 s_z28:=by
 refine qc G_stays (E:=E_z28) (fn:=Tryz.f28) (c:=C_z28) (qa rfl qt) (fun w S hg=>⟨⟨qh,fun f sp h=>qg f sp h w S⟩,qj w S hg,(fun _ _ h=>by cases h),(fun f sp h=>ql f sp h),(fun f it h=>qm f it h),(fun t kt vt h=>qi t kt vt h)⟩) follows Tryz.func28 (by kernel_rfl) (by kernel_rfl) (by kernel_rfl) fun _ _ h=>qe h
def E_z14:EnvP:=eQ [(27,s_z27),(28,s_z28)] 43 (some [1000002,3]) nC nC nP
def C_z14:Code:=cO Tryz.f14
def R_z14:Array ResultVar:=Tryz.f14.results
def s_z14:Sp:=byE E_z14 C_z14 R_z14
theorem qlJ:gG 14 s_z14:=by
 refine qc G_stays (E:=E_z14) (fn:=Tryz.f14) (c:=C_z14) (qa rfl qt) (fun w S hg=>⟨⟨(qd (qhu w S hg) (qd (qhv w S hg) qh)),fun f sp h=>qg f sp h w S⟩,qj w S hg,(fun _ _ h=>by cases h),(fun f sp h=>ql f sp h),(fun f it h=>qm f it h),(fun t kt vt h=>qi t kt vt h)⟩) follows Tryz.func14 (by kernel_rfl) (by kernel_rfl) (by kernel_rfl) fun _ _ h=>qe h
def E_z15:EnvP:=eQ [(12,s_z12)] 18 (some [2]) nC nC nP
def C_z15:Code:=cO Tryz.f15
def R_z15:Array ResultVar:=Tryz.f15.results
def s_z15:Sp:=byE E_z15 C_z15 R_z15
theorem qlK:gG 15 s_z15:=by
 refine qc G_stays (E:=E_z15) (fn:=Tryz.f15) (c:=C_z15) (qa rfl qt) (fun w S hg=>⟨⟨(qd (qht w S hg) qh),fun f sp h=>qg f sp h w S⟩,qj w S hg,(fun _ _ h=>by cases h),(fun f sp h=>ql f sp h),(fun f it h=>qm f it h),(fun t kt vt h=>qi t kt vt h)⟩) follows Tryz.func15 (by kernel_rfl) (by kernel_rfl) (by kernel_rfl) fun _ _ h=>qe h
def E_z16:EnvP:=eQ [(27,s_z27),(28,s_z28),(29,s_z29)] 32 (some [2]) nC nC nP
def C_z16:Code:=cO Tryz.f16
def R_z16:Array ResultVar:=Tryz.f16.results
def s_z16:Sp:=byE E_z16 C_z16 R_z16
theorem qlL:gG 16 s_z16:=by
 refine qc G_stays (E:=E_z16) (fn:=Tryz.f16) (c:=C_z16) (qa rfl qt) (fun w S hg=>⟨⟨(qd (qhu w S hg) (qd (qhv w S hg) (qd (qhA w S hg) qh))),fun f sp h=>qg f sp h w S⟩,qj w S hg,(fun _ _ h=>by cases h),(fun f sp h=>ql f sp h),(fun f it h=>qm f it h),(fun t kt vt h=>qi t kt vt h)⟩) follows Tryz.func16 (by kernel_rfl) (by kernel_rfl) (by kernel_rfl) fun _ _ h=>qe h
def E_z6:EnvP:=eQ [(9,s_z9),(12,s_z12),(14,s_z14),(15,s_z15),(16,s_z16)] 49 (some [0]) nC nC nP
def C_z6:Code:=cO Tryz.f6
def R_z6:Array ResultVar:=Tryz.f6.results
theorem z6_ev:evFnP E_z6 300 C_z6 R_z6 []=some (dc true):=by
 kernel_rfl
theorem qnK:gG 6 s_z6:=sQ (E:=E_z6) (c:=C_z6) rfl (fC qjO (fC qht (fC qlJ (fC qlK (fC qlL fN))))) Tryz.func6 fun avs r h=>by
 unfold s_z6 at h;split at h
 ·simp only [yb,true_and] at h;subst h;exact ⟨300,_,z6_ev,.inl rfl⟩
 ·cases h
def E_z7:EnvP:=eQ [] 26 (some [4]) (fun x=>if x=4 then some [0,1,5] else none) (fun x=>if x=0 then some [] else if x=1 then some [0,1,5] else none) nP
def C_z7:Code:=cO Tryz.f7
def R_z7:Array ResultVar:=Tryz.f7.results
noncomputable def qnL (K:KT):=fun s4=>K .ret (frOf [(4,dc s4)])
def qrr (n:Nat):KT:=qbd 0 (E_z7.cutb 0) (kSeq (evCP E_z7 (evLP E_z7 n) (sub C_z7 [1,1,1])) (kFnP E_z7 R_z7))
def qrs (a0:List UInt8) (b1:List UInt8) (i5:Int):Fr:=frOf [(0,(da a0 none)),(1,(da b1 none)),(5,db i5)]
theorem qnM (K:KT) (n:Nat):(fun a0 b1 i5=>evLP E_z7 n (sub C_z7 [1,1,0,1,0,0]) K (qrs a0 b1 i5))=z7_l4 (qnL K) (K (.exit 0) (frOf [])) n:=by
 induction n
 kernel_rfl;rename_i n ih;show _=qer (qnL K) (K (.exit 0) (frOf [])) (z7_l4 (qnL K) (K (.exit 0) (frOf [])) n) n;rw [← ih];kernel_rfl
theorem z7_ev (n:Nat) (a0:List UInt8) (o0:Lab) (b1:List UInt8) (o1:Lab):evFnP E_z7 n C_z7 R_z7 [da a0 o0,da b1 o1]=z7_sh n a0 b1:=by
 unfold z7_sh;rw [(Eq.trans (by kernel_rfl) (qnM (qrr n) n).symm:z7_l4 qin (qmR n) n=_)];kernel_rfl
theorem qnN:gG 7 s_z7:=sQ (E:=E_z7) (c:=C_z7) rfl fN Tryz.func7 fun avs r h=>by
 unfold s_z7 at h;split at h
 ·obtain ⟨hp,rfl⟩:=yj h;exact eX (qqT _ _ hp) fun n=>z7_ev n _ _ _ _
 ·cases h
theorem qlM:gG 17 s_z17:=sY [] 12 (some [2]) fN Tryz.func17 fun avs r h=>by
 unfold s_z17 at h;split at h <;> cases h
 exact eX (qoi _)
def E_z8:EnvP:=eQ [(17,s_z17)] 20 (some [2]) (fun x=>if x=3 then some [0,3,4] else none) (fun x=>if x=0 then some [3] else if x=1 then some [0,3,4] else none) nP
def C_z8:Code:=cO Tryz.f8
def R_z8:Array ResultVar:=Tryz.f8.results
noncomputable def qnO (K:KT):=fun out3=>K (.exit 0) (frOf [(3,(da out3 (some (3,5))))])
def qrt (n:Nat):KT:=qbd 0 (E_z8.cutb 0) (kSeq (evCP E_z8 (evLP E_z8 n) (sub C_z8 [1,1,1])) (kFnP E_z8 R_z8))
def qru (s0:List UInt8) (out3:List UInt8) (i4:Int):Fr:=frOf [(0,(da s0 none)),(3,(da out3 (some (3,5)))),(4,db i4)]
theorem qnP (K:KT) (n:Nat):(fun s0 out3 i4=>evLP E_z8 n (sub C_z8 [1,1,0,1,0,0]) K (qru s0 out3 i4))=z8_l3 (qnO K) n:=by
 induction n
 kernel_rfl;rename_i n ih;show _=qes (qnO K) (z8_l3 (qnO K) n) n;rw [← ih];kernel_rfl
theorem z8_ev (n:Nat) (s0:List UInt8) (o0:Lab):evFnP E_z8 n C_z8 R_z8 [da s0 o0]=z8_sh n s0:=by
 unfold z8_sh;rw [(Eq.trans (by kernel_rfl) (qnP (qrt n) n).symm:z8_l3 (qhG n) n=_)];kernel_rfl
theorem qnQ:gG 8 s_z8:=sQ (E:=E_z8) (c:=C_z8) rfl (fC qlM fN) Tryz.func8 fun avs r h=>by
 unfold s_z8 at h;split at h
 ·obtain ⟨hp,rfl⟩:=yj h;exact eX (qqV _ hp) fun n=>z8_ev n _ _
 ·cases h
def E_z10:EnvP:=eQ [] 26 (some [2]) (fun x=>if x=3 then some [2,3,12,13,14] else none) (fun x=>if x=0 then some [2,3] else if x=1 then some [2,3,12,13,14] else none) (fun x=>if x=3 then some (.ppair (.leaf (.sl .byte)) (.ppair (.leaf (.sl .byte)) (.ppair (.osl 51 (.pair (.sl .byte) (.pair (.sl (.int .i32)) .unit))) (.leaf .unit)))) else if x=10 then some (.ppair (.leaf (.sl .byte)) (.ppair (.leaf (.sl .byte)) (.ppair (.osl 51 (.pair (.sl .byte) (.pair (.sl (.int .i32)) .unit))) (.leaf .unit)))) else if x=22 then some (.osl 51 (.pair (.sl .byte) (.pair (.sl (.int .i32)) .unit))) else none)
def C_z10:Code:=cO Tryz.f10
def R_z10:Array ResultVar:=Tryz.f10.results
noncomputable def qjI (K:KT):=fun s2 x3=>K (.exit 0) (frOf [(2,(.box (.pair (.sl .byte) (.pair (.sl .byte) (.pair (.sl (.pair (.sl .byte) (.pair (.sl (.int .i32)) .unit))) .unit))) s2)),(3,(.pbox (.ppair (.leaf (.sl .byte)) (.ppair (.leaf (.sl .byte)) (.ppair (.osl 51 (.pair (.sl .byte) (.pair (.sl (.int .i32)) .unit))) (.leaf .unit)))) x3 none))])
def qpg (n:Nat):KT:=qbd 0 (E_z10.cutb 0) (kSeq (evCP E_z10 (evLP E_z10 n) (sub C_z10 [1,1,1])) (kFnP E_z10 R_z10))
def qph (s2:(List UInt8)×((List UInt8)×((List ((List UInt8)×((List Int)×Unit)))×Unit))) (x3:(List UInt8)×((List UInt8)×((List ((List UInt8)×((List Int)×Unit)))×Unit))) (s12:List ((List UInt8)×((List Int)×Unit))) (s13:Int) (s14:Int):Fr:=frOf [(2,(.box (.pair (.sl .byte) (.pair (.sl .byte) (.pair (.sl (.pair (.sl .byte) (.pair (.sl (.int .i32)) .unit))) .unit))) s2)),(3,(.pbox (.ppair (.leaf (.sl .byte)) (.ppair (.leaf (.sl .byte)) (.ppair (.osl 51 (.pair (.sl .byte) (.pair (.sl (.int .i32)) .unit))) (.leaf .unit)))) x3 none)),(12,(.dat (.sl (.pair (.sl .byte) (.pair (.sl (.int .i32)) .unit))) s12 none)),(13,db s13),(14,db s14)]
theorem qlN (K:KT) (n:Nat):(fun s2 x3 s12 s13 s14=>evLP E_z10 n (sub C_z10 [1,1,0,1,0,0]) K (qph s2 x3 s12 s13 s14))=qga (qjI K) n:=by
 induction n
 kernel_rfl;rename_i n ih;show _=qcP (qjI K) (qga (qjI K) n) n;rw [← ih];kernel_rfl
theorem qrv (n:Nat) (t0:(List UInt8)×((List UInt8)×((List ((List UInt8)×((List Int)×Unit)))×Unit))) (o0:Lab):evFnP E_z10 n C_z10 R_z10 [.dat (.pair (.sl .byte) (.pair (.sl .byte) (.pair (.sl (.pair (.sl .byte) (.pair (.sl (.int .i32)) .unit))) .unit))) t0 o0]=qog n t0:=by
 unfold qog;rw [(Eq.trans (by kernel_rfl) (qlN (qpg n) n).symm:qga (qbR n) n=_)];kernel_rfl
theorem qlO:gG 10 s_z10:=sQ (E:=E_z10) (c:=C_z10) rfl fN Tryz.func10 fun avs r h=>by
 unfold s_z10 at h;split at h
 ·obtain ⟨hp,rfl⟩:=yj h;exact eX (qob _ hp) fun n=>qrv n _ _
 ·cases h
def E_z3:EnvP:=eQ [(5,s_z5),(6,s_z6),(7,s_z7),(8,s_z8),(9,s_z9),(10,s_z10)] 71 (some [6]) (fun x=>if x=5 then some [1,2,3,7,27,28] else none) (fun x=>if x=0 then some [1,2,3,7] else if x=1 then some [1,2,3,7,27,28] else none) nP
def C_z3:Code:=cO Tryz.f3
def R_z3:Array ResultVar:=Tryz.f3.results
noncomputable def qnR (K:KT):=fun a1 b2 t3 high7=>K (.exit 0) (frOf [(1,(.dat .str a1 none)),(2,(.dat .str b2 none)),(3,(.adr (.pair (.sl .byte) (.pair (.sl .byte) (.pair (.sl (.pair (.sl .byte) (.pair (.sl (.int .i32)) .unit))) .unit))) t3)),(7,dc high7)])
def qrw (n:Nat):KT:=qbd 0 (E_z3.cutb 0) (kSeq (evCP E_z3 (evLP E_z3 n) (sub C_z3 [1,1,1,1])) (kFnP E_z3 R_z3))
def qrx (a1:List UInt8) (b2:List UInt8) (t3:(List UInt8)×((List UInt8)×((List ((List UInt8)×((List Int)×Unit)))×Unit))) (high7:Bool) (s27:Int) (s28:Int):Fr:=frOf [(1,(.dat .str a1 none)),(2,(.dat .str b2 none)),(3,(.adr (.pair (.sl .byte) (.pair (.sl .byte) (.pair (.sl (.pair (.sl .byte) (.pair (.sl (.int .i32)) .unit))) .unit))) t3)),(7,dc high7),(27,db s27),(28,db s28)]
theorem qnS (K:KT) (n:Nat):(fun a1 b2 t3 high7 s27 s28=>evLP E_z3 n (sub C_z3 [1,1,1,0,1,0,0]) K (qrx a1 b2 t3 high7 s27 s28))=z3_l5 (qnR K) n:=by
 induction n
 kernel_rfl;rename_i n ih;show _=qet (qnR K) (z3_l5 (qnR K) n) n;rw [← ih];kernel_rfl
theorem z3_ev (n:Nat) (t0:(List UInt8)×((List UInt8)×((List ((List UInt8)×((List Int)×Unit)))×Unit))) (o0:Lab) (a1:List UInt8) (o1:Lab) (b2:List UInt8) (o2:Lab):evFnP E_z3 n C_z3 R_z3 [.dat (.pair (.sl .byte) (.pair (.sl .byte) (.pair (.sl (.pair (.sl .byte) (.pair (.sl (.int .i32)) .unit))) .unit))) t0 o0,.dat .str a1 o1,.dat .str b2 o2]=z3_sh n t0 a1 b2:=by
 unfold z3_sh;rw [(Eq.trans (by kernel_rfl) (qnS (qrw n) n).symm:z3_l5 (qbH n) n=_)];kernel_rfl
theorem qnT:gG 3 s_z3:=sQ (E:=E_z3) (c:=C_z3) rfl (fC qnX (fC qnK (fC qnN (fC qnQ (fC qjO (fC qlO fN)))))) Tryz.func3 fun avs r h=>by
 unfold s_z3 at h;split at h <;> cases h
 exact eX (qqN _ _ _) fun n=>z3_ev n _ _ _ _ _ _
end
end
end Go.Av
