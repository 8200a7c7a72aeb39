import Derived.Test.YtopepdfipgfakaaGreatDoorCuEvD
import Derived.Test.YtopepdfipgfakaaGreatDoorCuC
import Derived.Test.YtopepdfipgfakaaGreatDoorProg
import Derived.KernelRfl
namespace Go.Av
set_option linter.unusedSimpArgs false
noncomputable section
open Go.Proofs
set_option maxRecDepth 100000
set_option linter.unusedVariables false
def qJz:EnvP:=eQ [] 6 (some [2]) nC nC nP
def qJA:Code:=cO Tryz.f196
def qNS:Array ResultVar:=Tryz.f196.results
theorem qJB (n:Nat) (c0:Int) (o0:Lab):evFnP qJz n qJA qNS [.dat (.int .i32) c0 o0]=qEo n c0:=by
 kernel_rfl
theorem qlK:qe Gc Tryz.prog 196 s_z196:=by
 refine sQ (E:=qJz) (c:=qJA) rfl (fun w S hg=>qc) Tryz.func196 ?_
 intro avs r h
 unfold s_z196 at h
 split at h <;> cases h
 obtain ⟨n,hn⟩:=qDd _
 exact ⟨n,_,(qJB n _ _).trans hn,.inl rfl⟩
def qJC:EnvP:=eQ [] 10 (some [0]) nC nC nP
def qJD:Code:=cO Tryz.f185
def qNT:Array ResultVar:=Tryz.f185.results
theorem qJE (n:Nat)  : evFnP qJC n qJD qNT []=qEp n  := by
 kernel_rfl
theorem qvE:qe Gc Tryz.prog 185 s_z185:=by
 refine sQ (E:=qJC) (c:=qJD) rfl (fun w S hg=>qc) Tryz.func185 ?_
 intro avs r h
 unfold s_z185 at h
 split at h <;> cases h
 obtain ⟨n,hn⟩:=qCm
 exact ⟨n,_,(qJE n ).trans hn,.inl rfl⟩
def qjN:EnvP:=eQ [(185,s_z185)] 31 (some [2,3]) (fun x=>if x=2 then some [0,6,7] else none) (fun x=>if x=0 then some [0] else if x=1 then some [0,6,7] else if x=2 then some [0,6,7] else none) nP
def qsG:Code:=cO Tryz.f205
def qJF:Array ResultVar:=Tryz.f205.results
noncomputable def qjO (K:Ex→Fr→Option AV):=fun s2 s3=>K .ret (frOf [(2,(.dat .byte s2 none)),(3,(.dat .bool s3 none))])
noncomputable def qgM (K:Ex→Fr→Option AV):=fun c0=>K (.exit 0) (frOf [(0,(.dat (.int .i32) c0 none))])
def qjP (n:Nat):Ex→Fr→Option AV:=qo 0 (qjN.cutb 0) (kSeq (evCP qjN (evLP qjN n) (sub qsG [1,1])) (kFnP qjN qJF))
def qnA (c0:Int) (s6:List (UInt8×(Int×Unit))) (s7:Int):Fr:=frOf [(0,(.dat (.int .i32) c0 none)),(6,(.dat (.arr 8 (.pair .byte (.pair (.int .i32) .unit))) s6 none)),(7,(.dat (.int .i64) s7 none))]
theorem qvF (K:Ex→Fr→Option AV):∀ (n:Nat) (c0:Int) (s6:List (UInt8×(Int×Unit))) (s7:Int),evLP qjN n (sub qsG [1,0,1,0,0]) K (qnA c0 s6 s7)=qiq (qjO K) (qgM K) n c0 s6 s7:=by
 intro n
 induction n with
 | zero=>intros; rfl
 | succ n IH =>
 intro c0 s6 s7
 have ih:(fun c0 s6 s7=>evLP qjN n (sub qsG [1,0,1,0,0]) K (qnA c0 s6 s7))=qiq (qjO K) (qgM K) n:=by
  funext c0 s6 s7
  exact IH c0 s6 s7
 show _=qqL (qjO K) (qgM K) (qiq (qjO K) (qgM K) n) n c0 s6 s7
 rw [← ih]
 kernel_rfl
theorem qnB (n:Nat) (c0:Int):(qjP n) (.exit 0) (frOf [(0,(.dat (.int .i32) c0 none))])=qcv n c0:=by
 kernel_rfl
theorem qJG (n:Nat) (c0:Int) (o0:Lab):evFnP qjN n qsG qJF [.dat (.int .i32) c0 o0]=qxC n c0:=by
 unfold qxC
 rw [show qiq qbS (qcv n) n=(fun c0 s6 s7=>evLP qjN n (sub qsG [1,0,1,0,0]) (qjP n) (qnA c0 s6 s7)) from by
  funext c0 s6 s7
  refine Eq.trans ?_ (qvF (qjP n) n c0 s6 s7).symm
  rw [show (qgM (qjP n))=(qcv n) from by
   funext c0
   exact qnB n c0]
  all_goals kernel_rfl]
 kernel_rfl
theorem qlL:qe Gc Tryz.prog 205 s_z205:=by
 refine sQ (E:=qjN) (c:=qsG) rfl (fun w S hg=>(qb (qvE w S hg) qc)) Tryz.func205 ?_
 intro avs r h
 unfold s_z205 at h
 split at h <;> cases h
 obtain ⟨n,hn⟩:=qCZ _
 exact ⟨n,_,(qJG n _ _).trans hn,.inl rfl⟩
def qJH:EnvP:=eQ [(205,s_z205)] 11 (some [2]) nC nC nP
def qJI:Code:=cO Tryz.f197
def qNU:Array ResultVar:=Tryz.f197.results
theorem qJJ (n:Nat) (c0:Int) (o0:Lab):evFnP qJH n qJI qNU [.dat (.int .i32) c0 o0]=qEq n c0:=by
 kernel_rfl
theorem qvG:qe Gc Tryz.prog 197 s_z197:=by
 refine sQ (E:=qJH) (c:=qJI) rfl (fun w S hg=>(qb (qlL w S hg) qc)) Tryz.func197 ?_
 intro avs r h
 unfold s_z197 at h
 split at h <;> cases h
 obtain ⟨n,hn⟩:=qDa _
 exact ⟨n,_,(qJJ n _ _).trans hn,.inl rfl⟩
def qJK:EnvP:=⟨⟨tiOf tis,fnsOf [],cnsOf [],[],4,(fun _=>none),(fun _=>none),some [0]⟩,fun _=>none,fun _=>none,(fun x=>if x=500002 then [1] else []),fun _=>none,fun _=>none,fun _=>none,fun _=>none⟩
def qJL:Code:=cO Tryz.f186
def qNV:Array ResultVar:=Tryz.f186.results
theorem qJM (n:Nat)  : evFnP qJK n qJL qNV []=qEr n  := by
 kernel_rfl
theorem qvH:qe Gc Tryz.prog 186 s_z186:=by
 refine qN qbc (E:=qJK) (fn:=Tryz.f186) (c:=qJL) (qw rfl qhU) (fun w S hg=>⟨⟨qc,fun f sp h=>qdr f sp h w S⟩,qbr w S hg,(fun _ _ h=>by cases h),(fun f sp h=>qoV f sp h),(fun f it h=>qoW f it h),(fun t kt vt h=>qfe t kt vt h)⟩) follows Tryz.func186 (by kernel_rfl) (by kernel_rfl) (by kernel_rfl) ?_
 intro avs r h
 unfold s_z186 at h
 split at h <;> cases h
 obtain ⟨n,hn⟩:=qCn
 exact ⟨n,_,(qJM n ).trans hn,.inl rfl⟩
def qjQ:EnvP:=eQ [] 19 (some [4]) (fun x=>if x=2 then some [0,1,7,8] else none) (fun x=>if x=0 then some [] else if x=1 then some [0,1,7,8] else none) nP
def qsH:Code:=cO Tryz.f233
def qJN:Array ResultVar:=Tryz.f233.results
noncomputable def qjR (K:Ex→Fr→Option AV):=fun s4=>K .ret (frOf [(4,(.dat (.int .i64) s4 none))])
def qjS (n:Nat):Ex→Fr→Option AV:=qo 0 (qjQ.cutb 0) (kSeq (evCP qjQ (evLP qjQ n) (sub qsH [1,1])) (kFnP qjQ qJN))
def qnC (s0:List Int) (v1:Int) (s7:Int) (s8:Int):Fr:=frOf [(0,(.dat (.sl (.int .i32)) s0 none)),(1,(.dat (.int .i32) v1 none)),(7,(.dat (.int .i64) s7 none)),(8,(.dat (.int .i64) s8 none))]
theorem qvI (K:Ex→Fr→Option AV):∀ (n:Nat) (s0:List Int) (v1:Int) (s7:Int) (s8:Int),evLP qjQ n (sub qsH [1,0,1,0,0]) K (qnC s0 v1 s7 s8)=qhn (qjR K) (K (.exit 0) (frOf [])) n s0 v1 s7 s8:=by
 intro n
 induction n with
 | zero=>intros; rfl
 | succ n IH =>
 intro s0 v1 s7 s8
 have ih:(fun s0 v1 s7 s8=>evLP qjQ n (sub qsH [1,0,1,0,0]) K (qnC s0 v1 s7 s8))=qhn (qjR K) (K (.exit 0) (frOf [])) n:=by
  funext s0 v1 s7 s8
  exact IH s0 v1 s7 s8
 show _=qcw (qjR K) (K (.exit 0) (frOf [])) (qhn (qjR K) (K (.exit 0) (frOf [])) n) n s0 v1 s7 s8
 rw [← ih]
 kernel_rfl
theorem qnD (n:Nat)  : (qjS n) (.exit 0) (frOf [])=qea n  := by
 kernel_rfl
theorem qJO (n:Nat) (s0:List Int) (o0:Lab) (v1:Int) (o1:Lab):evFnP qjQ n qsH qJN [.dat (.sl (.int .i32)) s0 o0,.dat (.int .i32) v1 o1]=qqM n s0 v1:=by
 unfold qqM
 rw [show qhn qhm (qea n) n=(fun s0 v1 s7 s8=>evLP qjQ n (sub qsH [1,0,1,0,0]) (qjS n) (qnC s0 v1 s7 s8)) from by
  funext s0 v1 s7 s8
  refine Eq.trans ?_ (qvI (qjS n) n s0 v1 s7 s8).symm
  rw [show ((qjS n) (.exit 0) (frOf []))=(qea n) from by
   exact qnD n ]
  all_goals kernel_rfl]
 kernel_rfl
theorem qvJ:qe Gc Tryz.prog 233 s_z233:=by
 refine sQ (E:=qjQ) (c:=qsH) rfl (fun w S hg=>qc) Tryz.func233 ?_
 intro avs r h
 unfold s_z233 at h
 split at h
 ·obtain ⟨hp,rfl⟩:=Prod.mk.inj h
  obtain ⟨n,hn⟩:=qCQ _ _ hp
  exact ⟨n,_,(qJO n _ _ _ _).trans hn,.inl rfl⟩
 ·cases h
def qJP:EnvP:=eQ [(186,s_z186),(233,s_z233)] 31 (some [2,3]) nC (fun x=>if x=0 then some [0] else none) nP
def qJQ:Code:=cO Tryz.f207
def qNW:Array ResultVar:=Tryz.f207.results
theorem qJR (n:Nat) (c0:Int) (o0:Lab):evFnP qJP n qJQ qNW [.dat (.int .i32) c0 o0]=qxF n c0:=by
 kernel_rfl
theorem qlM:qe Gc Tryz.prog 207 s_z207:=by
 refine sQ (E:=qJP) (c:=qJQ) rfl (fun w S hg=>(qb (qvH w S hg) (qb (qvJ w S hg) qc))) Tryz.func207 ?_
 intro avs r h
 unfold s_z207 at h
 split at h <;> cases h
 obtain ⟨n,hn⟩:=qDb _
 exact ⟨n,_,(qJR n _ _).trans hn,.inl rfl⟩
def qJS:EnvP:=eQ [(207,s_z207)] 11 (some [2]) nC nC nP
def qJT:Code:=cO Tryz.f198
def qNX:Array ResultVar:=Tryz.f198.results
theorem qJU (n:Nat) (c0:Int) (o0:Lab):evFnP qJS n qJT qNX [.dat (.int .i32) c0 o0]=qEs n c0:=by
 kernel_rfl
theorem qlN:qe Gc Tryz.prog 198 s_z198:=by
 refine sQ (E:=qJS) (c:=qJT) rfl (fun w S hg=>(qb (qlM w S hg) qc)) Tryz.func198 ?_
 intro avs r h
 unfold s_z198 at h
 split at h <;> cases h
 obtain ⟨n,hn⟩:=qDc _
 exact ⟨n,_,(qJU n _ _).trans hn,.inl rfl⟩
def qJV:EnvP:=eQ [] 9 (some [2]) nC nC nP
def qJW:Code:=cO Tryz.f230
def qNY:Array ResultVar:=Tryz.f230.results
theorem qJX (n:Nat) (c0:Int) (o0:Lab):evFnP qJV n qJW qNY [.dat (.int .i32) c0 o0]=qxH n c0:=by
 kernel_rfl
theorem qvK:qe Gc Tryz.prog 230 s_z230:=by
 refine sQ (E:=qJV) (c:=qJW) rfl (fun w S hg=>qc) Tryz.func230 ?_
 intro avs r h
 unfold s_z230 at h
 split at h <;> cases h
 obtain ⟨n,hn⟩:=qCN _
 exact ⟨n,_,(qJX n _ _).trans hn,.inl rfl⟩
def qJY:EnvP:=eQ [(230,s_z230)] 11 (some [2]) nC nC nP
def qJZ:Code:=cO Tryz.f199
def qNZ:Array ResultVar:=Tryz.f199.results
theorem qKa (n:Nat) (c0:Int) (o0:Lab):evFnP qJY n qJZ qNZ [.dat (.int .i32) c0 o0]=qxI n c0:=by
 kernel_rfl
theorem qgN:qe Gc Tryz.prog 199 s_z199:=by
 refine sQ (E:=qJY) (c:=qJZ) rfl (fun w S hg=>(qb (qvK w S hg) qc)) Tryz.func199 ?_
 intro avs r h
 unfold s_z199 at h
 split at h <;> cases h
 obtain ⟨n,hn⟩:=qCO _
 exact ⟨n,_,(qKa n _ _).trans hn,.inl rfl⟩
def qKb:EnvP:=eQ [(196,s_z196),(197,s_z197),(198,s_z198),(199,s_z199)] 30 (some [4]) nC (fun x=>if x=0 then some [] else none) nP
def qKc:Code:=cO Tryz.f157
def qOa:Array ResultVar:=Tryz.f157.results
theorem qKd (n:Nat) (charset0:Int) (o0:Lab) (c1:Int) (o1:Lab):evFnP qKb n qKc qOa [.dat (.int .i64) charset0 o0,.dat (.int .i32) c1 o1]=qxJ n charset0 c1:=by
 kernel_rfl
theorem qlO:qe Gc Tryz.prog 157 s_z157:=by
 refine sQ (E:=qKb) (c:=qKc) rfl (fun w S hg=>(qb (qlK w S hg) (qb (qvG w S hg) (qb (qlN w S hg) (qb (qgN w S hg) qc))))) Tryz.func157 ?_
 intro avs r h
 unfold s_z157 at h
 split at h <;> cases h
 obtain ⟨n,hn⟩:=qDf _ _
 exact ⟨n,_,(qKd n _ _ _ _).trans hn,.inl rfl⟩
def qjT:EnvP:=eQ [(157,s_z157)] 20 (some [4]) (fun x=>if x=2 then some [0,7,8,9] else none) (fun x=>if x=0 then some [] else if x=1 then some [0,7,8,9] else none) nP
def qsI:Code:=cO Tryz.f202
def qKe:Array ResultVar:=Tryz.f202.results
noncomputable def qjU (K:Ex→Fr→Option AV):=fun s4=>K .ret (frOf [(4,(.dat (.int .i64) s4 none))])
def qjV (n:Nat):Ex→Fr→Option AV:=qo 0 (qjT.cutb 0) (kSeq (evCP qjT (evLP qjT n) (sub qsI [1,1])) (kFnP qjT qKe))
def qnE (charset0:Int) (s7:List Int) (s8:Int) (s9:Int):Fr:=frOf [(0,(.dat (.int .i64) charset0 none)),(7,(.dat (.sl (.int .i32)) s7 none)),(8,(.dat (.int .i64) s8 none)),(9,(.dat (.int .i64) s9 none))]
theorem qvL (K:Ex→Fr→Option AV):∀ (n:Nat) (charset0:Int) (s7:List Int) (s8:Int) (s9:Int),evLP qjT n (sub qsI [1,0,1,0,0]) K (qnE charset0 s7 s8 s9)=qhp (qjU K) (K (.exit 0) (frOf [])) n charset0 s7 s8 s9:=by
 intro n
 induction n with
 | zero=>intros; rfl
 | succ n IH =>
 intro charset0 s7 s8 s9
 have ih:(fun charset0 s7 s8 s9=>evLP qjT n (sub qsI [1,0,1,0,0]) K (qnE charset0 s7 s8 s9))=qhp (qjU K) (K (.exit 0) (frOf [])) n:=by
  funext charset0 s7 s8 s9
  exact IH charset0 s7 s8 s9
 show _=qcx (qjU K) (K (.exit 0) (frOf [])) (qhp (qjU K) (K (.exit 0) (frOf [])) n) n charset0 s7 s8 s9
 rw [← ih]
 kernel_rfl
theorem qnF (n:Nat)  : (qjV n) (.exit 0) (frOf [])=qeb n  := by
 kernel_rfl
theorem qKf (n:Nat) (charset0:Int) (o0:Lab) (t1:List Int) (o1:Lab):evFnP qjT n qsI qKe [.dat (.int .i64) charset0 o0,.dat (.sl (.int .i32)) t1 o1]=qqN n charset0 t1:=by
 unfold qqN
 rw [show qhp qho (qeb n) n=(fun charset0 s7 s8 s9=>evLP qjT n (sub qsI [1,0,1,0,0]) (qjV n) (qnE charset0 s7 s8 s9)) from by
  funext charset0 s7 s8 s9
  refine Eq.trans ?_ (qvL (qjV n) n charset0 s7 s8 s9).symm
  rw [show ((qjV n) (.exit 0) (frOf []))=(qeb n) from by
   exact qnF n ]
  all_goals kernel_rfl]
 kernel_rfl
theorem qvM:qe Gc Tryz.prog 202 s_z202:=by
 refine sQ (E:=qjT) (c:=qsI) rfl (fun w S hg=>(qb (qlO w S hg) qc)) Tryz.func202 ?_
 intro avs r h
 unfold s_z202 at h
 split at h
 ·obtain ⟨hp,rfl⟩:=Prod.mk.inj h
  obtain ⟨n,hn⟩:=qCU _ _ hp
  exact ⟨n,_,(qKf n _ _ _ _).trans hn,.inl rfl⟩
 ·cases h
def qKg:EnvP:=eQ [(161,s_z161),(202,s_z202)] 14 (some [4]) nC nC nP
def qKh:Code:=cO Tryz.f162
def qOb:Array ResultVar:=Tryz.f162.results
theorem qKi (n:Nat) (charset0:Int) (o0:Lab) (t1:List Int) (o1:Lab):evFnP qKg n qKh qOb [.dat (.int .i64) charset0 o0,.dat (.sl (.int .i32)) t1 o1]=qxK n charset0 t1:=by
 kernel_rfl
theorem qvN:qe Gc Tryz.prog 162 s_z162:=by
 refine sQ (E:=qKg) (c:=qKh) rfl (fun w S hg=>(qb (qlJ w S hg) (qb (qvM w S hg) qc))) Tryz.func162 ?_
 intro avs r h
 unfold s_z162 at h
 split at h
 ·obtain ⟨hp,rfl⟩:=Prod.mk.inj h
  obtain ⟨n,hn⟩:=qDh _ _ hp
  exact ⟨n,_,(qKi n _ _ _ _).trans hn,.inl rfl⟩
 ·cases h
def qKj:EnvP:=eQ [(199,s_z199)] 6 (some [2]) nC nC nP
def qKk:Code:=cO Tryz.f243
def qOc:Array ResultVar:=Tryz.f243.results
theorem qKl (n:Nat) (c0:Int) (o0:Lab):evFnP qKj n qKk qOc [.dat (.int .i32) c0 o0]=qEt n c0:=by
 kernel_rfl
theorem qvO:qe Gc Tryz.prog 243 s_z243:=by
 refine sQ (E:=qKj) (c:=qKk) rfl (fun w S hg=>(qb (qgN w S hg) qc)) Tryz.func243 ?_
 intro avs r h
 unfold s_z243 at h
 split at h <;> cases h
 obtain ⟨n,hn⟩:=qCP _
 exact ⟨n,_,(qKl n _ _).trans hn,.inl rfl⟩
def qjW:EnvP:=eQ [(243,s_z243)] 19 (some [4]) (fun x=>if x=2 then some [0,1,7,8] else none) (fun x=>if x=0 then some [] else if x=1 then some [0,1,7,8] else none) nP
def qsJ:Code:=cO Tryz.f242
def qKm:Array ResultVar:=Tryz.f242.results
noncomputable def qjX (K:Ex→Fr→Option AV):=fun s4=>K .ret (frOf [(4,(.dat (.int .i64) s4 none))])
def qjY (n:Nat):Ex→Fr→Option AV:=qo 0 (qjW.cutb 0) (kSeq (evCP qjW (evLP qjW n) (sub qsJ [1,1])) (kFnP qjW qKm))
def qnG (s0:List Int) (s7:Int) (s8:Int):Fr:=frOf [(0,(.dat (.sl (.int .i32)) s0 none)),(1,(.fn 243 [])),(7,(.dat (.int .i64) s7 none)),(8,(.dat (.int .i64) s8 none))]
theorem qvP (K:Ex→Fr→Option AV):∀ (n:Nat) (s0:List Int) (s7:Int) (s8:Int),evLP qjW n (sub qsJ [1,0,1,0,0]) K (qnG s0 s7 s8)=qhr (qjX K) (K (.exit 0) (frOf [])) n s0 s7 s8:=by
 intro n
 induction n with
 | zero=>intros; rfl
 | succ n IH =>
 intro s0 s7 s8
 have ih:(fun s0 s7 s8=>evLP qjW n (sub qsJ [1,0,1,0,0]) K (qnG s0 s7 s8))=qhr (qjX K) (K (.exit 0) (frOf [])) n:=by
  funext s0 s7 s8
  exact IH s0 s7 s8
 show _=qcy (qjX K) (K (.exit 0) (frOf [])) (qhr (qjX K) (K (.exit 0) (frOf [])) n) n s0 s7 s8
 rw [← ih]
 kernel_rfl
theorem qnH (n:Nat)  : (qjY n) (.exit 0) (frOf [])=qec n  := by
 kernel_rfl
theorem qKn (n:Nat) (s0:List Int) (o0:Lab):evFnP qjW n qsJ qKm [.dat (.sl (.int .i32)) s0 o0,.fn 243 []]=qqO n s0:=by
 unfold qqO
 rw [show qhr qhq (qec n) n=(fun s0 s7 s8=>evLP qjW n (sub qsJ [1,0,1,0,0]) (qjY n) (qnG s0 s7 s8)) from by
  funext s0 s7 s8
  refine Eq.trans ?_ (qvP (qjY n) n s0 s7 s8).symm
  rw [show ((qjY n) (.exit 0) (frOf []))=(qec n) from by
   exact qnH n ]
  all_goals kernel_rfl]
 kernel_rfl
theorem qvQ:qe Gc Tryz.prog 242 s_z242:=by
 refine sQ (E:=qjW) (c:=qsJ) rfl (fun w S hg=>(qb (qvO w S hg) qc)) Tryz.func242 ?_
 intro avs r h
 unfold s_z242 at h
 split at h
 ·obtain ⟨hp,rfl⟩:=Prod.mk.inj h
  obtain ⟨n,hn⟩:=qCR _ hp
  exact ⟨n,_,(qKn n _ _).trans hn,.inl rfl⟩
 ·cases h
def qKo:EnvP:=eQ [(242,s_z242)] 5 (some [2]) nC nC nP
def qKp:Code:=cO Tryz.f231
def qOd:Array ResultVar:=Tryz.f231.results
theorem qKq (n:Nat) (t0:List Int) (o0:Lab):evFnP qKo n qKp qOd [.dat (.sl (.int .i32)) t0 o0]=qxN n t0:=by
 kernel_rfl
theorem qvR:qe Gc Tryz.prog 231 s_z231:=by
 refine sQ (E:=qKo) (c:=qKp) rfl (fun w S hg=>(qb (qvQ w S hg) qc)) Tryz.func231 ?_
 intro avs r h
 unfold s_z231 at h
 split at h
 ·obtain ⟨hp,rfl⟩:=Prod.mk.inj h
  obtain ⟨n,hn⟩:=qCV _ hp
  exact ⟨n,_,(qKq n _ _).trans hn,.inl rfl⟩
 ·cases h
def qKr:EnvP:=eQ [(231,s_z231)] 6 (some [2]) nC nC nP
def qKs:Code:=cO Tryz.f203
def qOe:Array ResultVar:=Tryz.f203.results
theorem qKt (n:Nat) (t0:List Int) (o0:Lab):evFnP qKr n qKs qOe [.dat (.sl (.int .i32)) t0 o0]=qxP n t0:=by
 kernel_rfl
theorem qvS:qe Gc Tryz.prog 203 s_z203:=by
 refine sQ (E:=qKr) (c:=qKs) rfl (fun w S hg=>(qb (qvR w S hg) qc)) Tryz.func203 ?_
 intro avs r h
 unfold s_z203 at h
 split at h
 ·obtain ⟨hp,rfl⟩:=Prod.mk.inj h
  obtain ⟨n,hn⟩:=qCW _ hp
  exact ⟨n,_,(qKt n _ _).trans hn,.inl rfl⟩
 ·cases h
end
end Go.Av
