import Derived.Test.YtopepdfipgfakaaGreatDoorCuEvA
import Derived.Test.YtopepdfipgfakaaGreatDoorCuC
import Derived.Test.YtopepdfipgfakaaGreatDoorProg
import Derived.KernelRfl
namespace Go.Av
set_option linter.unusedSimpArgs false
noncomputable section
open Go.Proofs
set_option maxRecDepth 100000
set_option linter.unusedVariables false
def qGb:EnvP:=eQ [(207,s_z207)] 11 (some [2]) nC nC nP
def qGc:Code:=cO Tryz.f198
def qKp:Array ResultVar:=Tryz.f198.results
theorem qGd (n:Nat) (c0:Int) (o0:Lab):evFnP qGb n qGc qKp [.dat (.int .i32) c0 o0]=qBI n c0:=by
 kernel_rfl
theorem qkt:qe Gc Tryz.prog 198 s_z198:=by
 refine sQ (E:=qGb) (c:=qGc) rfl (fun w S hg=>(qb (qks w S hg) qc)) Tryz.func198 ?_
 intro avs r h
 unfold s_z198 at h
 split at h <;> cases h
 obtain ⟨n,hn⟩:=qAD _
 exact ⟨n,_,(qGd n _ _).trans hn,.inl rfl⟩
def qGe:EnvP:=eQ [] 9 (some [2]) nC nC nP
def qGf:Code:=cO Tryz.f230
def qKq:Array ResultVar:=Tryz.f230.results
theorem qGg (n:Nat) (c0:Int) (o0:Lab):evFnP qGe n qGf qKq [.dat (.int .i32) c0 o0]=qvB n c0:=by
 kernel_rfl
theorem qtw:qe Gc Tryz.prog 230 s_z230:=by
 refine sQ (E:=qGe) (c:=qGf) rfl (fun w S hg=>qc) Tryz.func230 ?_
 intro avs r h
 unfold s_z230 at h
 split at h <;> cases h
 obtain ⟨n,hn⟩:=qAl _
 exact ⟨n,_,(qGg n _ _).trans hn,.inl rfl⟩
def qGh:EnvP:=eQ [(230,s_z230)] 11 (some [2]) nC nC nP
def qGi:Code:=cO Tryz.f199
def qKr:Array ResultVar:=Tryz.f199.results
theorem qGj (n:Nat) (c0:Int) (o0:Lab):evFnP qGh n qGi qKr [.dat (.int .i32) c0 o0]=qvC n c0:=by
 kernel_rfl
theorem qfV:qe Gc Tryz.prog 199 s_z199:=by
 refine sQ (E:=qGh) (c:=qGi) rfl (fun w S hg=>(qb (qtw w S hg) qc)) Tryz.func199 ?_
 intro avs r h
 unfold s_z199 at h
 split at h <;> cases h
 obtain ⟨n,hn⟩:=qAm _
 exact ⟨n,_,(qGj n _ _).trans hn,.inl rfl⟩
def qGk:EnvP:=eQ [(196,s_z196),(197,s_z197),(198,s_z198),(199,s_z199)] 30 (some [4]) nC (fun x=>if x=0 then some [] else none) nP
def qGl:Code:=cO Tryz.f157
def qKs:Array ResultVar:=Tryz.f157.results
theorem qGm (n:Nat) (charset0:Int) (o0:Lab) (c1:Int) (o1:Lab):evFnP qGk n qGl qKs [.dat (.int .i64) charset0 o0,.dat (.int .i32) c1 o1]=qvD n charset0 c1:=by
 kernel_rfl
theorem qku:qe Gc Tryz.prog 157 s_z157:=by
 refine sQ (E:=qGk) (c:=qGl) rfl (fun w S hg=>(qb (qkq w S hg) (qb (qts w S hg) (qb (qkt w S hg) (qb (qfV w S hg) qc))))) Tryz.func157 ?_
 intro avs r h
 unfold s_z157 at h
 split at h <;> cases h
 obtain ⟨n,hn⟩:=qAK _ _
 exact ⟨n,_,(qGm n _ _ _ _).trans hn,.inl rfl⟩
def qir:EnvP:=eQ [(157,s_z157)] 20 (some [4]) (fun x=>if x=2 then some [0,7,8,9] else none) (fun x=>if x=0 then some [] else if x=1 then some [0,7,8,9] else none) nP
def qra:Code:=cO Tryz.f202
def qGn:Array ResultVar:=Tryz.f202.results
noncomputable def qis (K:Ex→Fr→Option AV):=fun s4=>K .ret (frOf [(4,(.dat (.int .i64) s4 none))])
def qit (n:Nat):Ex→Fr→Option AV:=qm 0 (qir.cutb 0) (kSeq (evCP qir (evLP qir n) (sub qra [1,1])) (kFnP qir qGn))
def qlW (charset0:Int) (s7:List Int) (s8:Int) (s9:Int):Fr:=frOf [(0,(.dat (.int .i64) charset0 none)),(7,(.dat (.sl (.int .i32)) s7 none)),(8,(.dat (.int .i64) s8 none)),(9,(.dat (.int .i64) s9 none))]
theorem qtx (K:Ex→Fr→Option AV):∀ (n:Nat) (charset0:Int) (s7:List Int) (s8:Int) (s9:Int),evLP qir n (sub qra [1,0,1,0,0]) K (qlW charset0 s7 s8 s9)=qgk (qis K) (K (.exit 0) (frOf [])) n charset0 s7 s8 s9:=by
 intro n
 induction n with
 | zero=>intros; rfl
 | succ n IH =>
 intro charset0 s7 s8 s9
 have ih:(fun charset0 s7 s8 s9=>evLP qir n (sub qra [1,0,1,0,0]) K (qlW charset0 s7 s8 s9))=qgk (qis K) (K (.exit 0) (frOf [])) n:=by
  funext charset0 s7 s8 s9
  exact IH charset0 s7 s8 s9
 show _=qbQ (qis K) (K (.exit 0) (frOf [])) (qgk (qis K) (K (.exit 0) (frOf [])) n) n charset0 s7 s8 s9
 rw [← ih]
 kernel_rfl
theorem qlX (n:Nat)  : (qit n) (.exit 0) (frOf [])=qdm n  := by
 kernel_rfl
theorem qGo (n:Nat) (charset0:Int) (o0:Lab) (t1:List Int) (o1:Lab):evFnP qir n qra qGn [.dat (.int .i64) charset0 o0,.dat (.sl (.int .i32)) t1 o1]=qpp n charset0 t1:=by
 unfold qpp
 rw [show qgk qgj (qdm n) n=(fun charset0 s7 s8 s9=>evLP qir n (sub qra [1,0,1,0,0]) (qit n) (qlW charset0 s7 s8 s9)) from by
  funext charset0 s7 s8 s9
  refine Eq.trans ?_ (qtx (qit n) n charset0 s7 s8 s9).symm
  rw [show ((qit n) (.exit 0) (frOf []))=(qdm n) from by
   exact qlX n ]
  all_goals kernel_rfl]
 kernel_rfl
theorem qty:qe Gc Tryz.prog 202 s_z202:=by
 refine sQ (E:=qir) (c:=qra) rfl (fun w S hg=>(qb (qku w S hg) qc)) Tryz.func202 ?_
 intro avs r h
 unfold s_z202 at h
 split at h
 ·obtain ⟨hp,rfl⟩:=Prod.mk.inj h
  obtain ⟨n,hn⟩:=qAu _ _ hp
  exact ⟨n,_,(qGo n _ _ _ _).trans hn,.inl rfl⟩
 ·cases h
def qGp:EnvP:=eQ [(161,s_z161),(202,s_z202)] 14 (some [4]) nC nC nP
def qGq:Code:=cO Tryz.f162
def qKt:Array ResultVar:=Tryz.f162.results
theorem qGr (n:Nat) (charset0:Int) (o0:Lab) (t1:List Int) (o1:Lab):evFnP qGp n qGq qKt [.dat (.int .i64) charset0 o0,.dat (.sl (.int .i32)) t1 o1]=qvE n charset0 t1:=by
 kernel_rfl
theorem qtz:qe Gc Tryz.prog 162 s_z162:=by
 refine sQ (E:=qGp) (c:=qGq) rfl (fun w S hg=>(qb (qkp w S hg) (qb (qty w S hg) qc))) Tryz.func162 ?_
 intro avs r h
 unfold s_z162 at h
 split at h
 ·obtain ⟨hp,rfl⟩:=Prod.mk.inj h
  obtain ⟨n,hn⟩:=qAN _ _ hp
  exact ⟨n,_,(qGr n _ _ _ _).trans hn,.inl rfl⟩
 ·cases h
def qGs:EnvP:=eQ [(199,s_z199)] 6 (some [2]) nC nC nP
def qGt:Code:=cO Tryz.f243
def qKu:Array ResultVar:=Tryz.f243.results
theorem qGu (n:Nat) (c0:Int) (o0:Lab):evFnP qGs n qGt qKu [.dat (.int .i32) c0 o0]=qBJ n c0:=by
 kernel_rfl
theorem qtA:qe Gc Tryz.prog 243 s_z243:=by
 refine sQ (E:=qGs) (c:=qGt) rfl (fun w S hg=>(qb (qfV w S hg) qc)) Tryz.func243 ?_
 intro avs r h
 unfold s_z243 at h
 split at h <;> cases h
 obtain ⟨n,hn⟩:=qAn _
 exact ⟨n,_,(qGu n _ _).trans hn,.inl rfl⟩
def qiu:EnvP:=eQ [(243,s_z243)] 19 (some [4]) (fun x=>if x=2 then some [0,1,7,8] else none) (fun x=>if x=0 then some [] else if x=1 then some [0,1,7,8] else none) nP
def qrb:Code:=cO Tryz.f242
def qGv:Array ResultVar:=Tryz.f242.results
noncomputable def qiv (K:Ex→Fr→Option AV):=fun s4=>K .ret (frOf [(4,(.dat (.int .i64) s4 none))])
def qiw (n:Nat):Ex→Fr→Option AV:=qm 0 (qiu.cutb 0) (kSeq (evCP qiu (evLP qiu n) (sub qrb [1,1])) (kFnP qiu qGv))
def qlY (s0:List Int) (s7:Int) (s8:Int):Fr:=frOf [(0,(.dat (.sl (.int .i32)) s0 none)),(1,(.fn 243 [])),(7,(.dat (.int .i64) s7 none)),(8,(.dat (.int .i64) s8 none))]
theorem qtB (K:Ex→Fr→Option AV):∀ (n:Nat) (s0:List Int) (s7:Int) (s8:Int),evLP qiu n (sub qrb [1,0,1,0,0]) K (qlY s0 s7 s8)=qgm (qiv K) (K (.exit 0) (frOf [])) n s0 s7 s8:=by
 intro n
 induction n with
 | zero=>intros; rfl
 | succ n IH =>
 intro s0 s7 s8
 have ih:(fun s0 s7 s8=>evLP qiu n (sub qrb [1,0,1,0,0]) K (qlY s0 s7 s8))=qgm (qiv K) (K (.exit 0) (frOf [])) n:=by
  funext s0 s7 s8
  exact IH s0 s7 s8
 show _=qbR (qiv K) (K (.exit 0) (frOf [])) (qgm (qiv K) (K (.exit 0) (frOf [])) n) n s0 s7 s8
 rw [← ih]
 kernel_rfl
theorem qlZ (n:Nat)  : (qiw n) (.exit 0) (frOf [])=qdn n  := by
 kernel_rfl
theorem qGw (n:Nat) (s0:List Int) (o0:Lab):evFnP qiu n qrb qGv [.dat (.sl (.int .i32)) s0 o0,.fn 243 []]=qpq n s0:=by
 unfold qpq
 rw [show qgm qgl (qdn n) n=(fun s0 s7 s8=>evLP qiu n (sub qrb [1,0,1,0,0]) (qiw n) (qlY s0 s7 s8)) from by
  funext s0 s7 s8
  refine Eq.trans ?_ (qtB (qiw n) n s0 s7 s8).symm
  rw [show ((qiw n) (.exit 0) (frOf []))=(qdn n) from by
   exact qlZ n ]
  all_goals kernel_rfl]
 kernel_rfl
theorem qtC:qe Gc Tryz.prog 242 s_z242:=by
 refine sQ (E:=qiu) (c:=qrb) rfl (fun w S hg=>(qb (qtA w S hg) qc)) Tryz.func242 ?_
 intro avs r h
 unfold s_z242 at h
 split at h
 ·obtain ⟨hp,rfl⟩:=Prod.mk.inj h
  obtain ⟨n,hn⟩:=qAr _ hp
  exact ⟨n,_,(qGw n _ _).trans hn,.inl rfl⟩
 ·cases h
def qGx:EnvP:=eQ [(242,s_z242)] 5 (some [2]) nC nC nP
def qGy:Code:=cO Tryz.f231
def qKv:Array ResultVar:=Tryz.f231.results
theorem qGz (n:Nat) (t0:List Int) (o0:Lab):evFnP qGx n qGy qKv [.dat (.sl (.int .i32)) t0 o0]=qvH n t0:=by
 kernel_rfl
theorem qtD:qe Gc Tryz.prog 231 s_z231:=by
 refine sQ (E:=qGx) (c:=qGy) rfl (fun w S hg=>(qb (qtC w S hg) qc)) Tryz.func231 ?_
 intro avs r h
 unfold s_z231 at h
 split at h
 ·obtain ⟨hp,rfl⟩:=Prod.mk.inj h
  obtain ⟨n,hn⟩:=qAv _ hp
  exact ⟨n,_,(qGz n _ _).trans hn,.inl rfl⟩
 ·cases h
def qGA:EnvP:=eQ [(231,s_z231)] 6 (some [2]) nC nC nP
def qGB:Code:=cO Tryz.f203
def qKw:Array ResultVar:=Tryz.f203.results
theorem qGC (n:Nat) (t0:List Int) (o0:Lab):evFnP qGA n qGB qKw [.dat (.sl (.int .i32)) t0 o0]=qvJ n t0:=by
 kernel_rfl
theorem qtE:qe Gc Tryz.prog 203 s_z203:=by
 refine sQ (E:=qGA) (c:=qGB) rfl (fun w S hg=>(qb (qtD w S hg) qc)) Tryz.func203 ?_
 intro avs r h
 unfold s_z203 at h
 split at h
 ·obtain ⟨hp,rfl⟩:=Prod.mk.inj h
  obtain ⟨n,hn⟩:=qAw _ hp
  exact ⟨n,_,(qGC n _ _).trans hn,.inl rfl⟩
 ·cases h
def qGD:EnvP:=eQ [] 10 (some [2]) nC (fun x=>if x=0 then some [] else none) nP
def qGE:Code:=cO Tryz.f218
def qKx:Array ResultVar:=Tryz.f218.results
theorem qGF (n:Nat) (n0:Int) (o0:Lab):evFnP qGD n qGE qKx [.dat (.int .i64) n0 o0]=qvK n n0:=by
 kernel_rfl
theorem qtF:qe Gc Tryz.prog 218 s_z218:=by
 refine sQ (E:=qGD) (c:=qGE) rfl (fun w S hg=>qc) Tryz.func218 ?_
 intro avs r h
 unfold s_z218 at h
 split at h <;> cases h
 obtain ⟨n,hn⟩:=qAb _
 exact ⟨n,_,(qGF n _ _).trans hn,.inl rfl⟩
def qGG:EnvP:=eQ [(199,s_z199)] 16 (some [2]) nC (fun x=>if x=0 then some [] else none) nP
def qGH:Code:=cO Tryz.f232
def qKy:Array ResultVar:=Tryz.f232.results
theorem qGI (n:Nat) (c0:Int) (o0:Lab):evFnP qGG n qGH qKy [.dat (.int .i32) c0 o0]=qvL n c0:=by
 kernel_rfl
theorem qtG:qe Gc Tryz.prog 232 s_z232:=by
 refine sQ (E:=qGG) (c:=qGH) rfl (fun w S hg=>(qb (qfV w S hg) qc)) Tryz.func232 ?_
 intro avs r h
 unfold s_z232 at h
 split at h <;> cases h
 obtain ⟨n,hn⟩:=qAx _
 exact ⟨n,_,(qGI n _ _).trans hn,.inl rfl⟩
def qGJ:EnvP:=eQ [(38,s_z38),(218,s_z218),(232,s_z232)] 56 (some [4,5]) nC (fun x=>if x=0 then some [7] else if x=1 then some [1,7] else if x=2 then some [1,7] else if x=3 then some [1,7] else none) nP
def qGK:Code:=cO Tryz.f204
def qKz:Array ResultVar:=Tryz.f204.results
theorem qGL (n:Nat) (b0:List UInt8) (o0:Lab) (c1:Int) (o1:Lab):evFnP qGJ n qGK qKz [.dat (.sl .byte) b0 o0,.dat (.int .i32) c1 o1]=qvM n b0 c1:=by
 kernel_rfl
theorem qtH:qe Gc Tryz.prog 204 s_z204:=by
 refine sQ (E:=qGJ) (c:=qGK) rfl (fun w S hg=>(qb (qof w S hg) (qb (qtF w S hg) (qb (qtG w S hg) qc)))) Tryz.func204 ?_
 intro avs r h
 unfold s_z204 at h
 split at h
 ·obtain ⟨hp,rfl⟩:=Prod.mk.inj h
  obtain ⟨n,hn⟩:=qAy _ _ hp
  exact ⟨n,_,(qGL n _ _ _ _).trans hn,.inl rfl⟩
 ·cases h
def qix:EnvP:=eQ [(203,s_z203),(204,s_z204)] 28 (some [2,3]) (fun x=>if x=5 then some [4,12,13,14] else none) (fun x=>if x=0 then some [4] else if x=1 then some [4,12,13,14] else none) nP
def qrc:Code:=cO Tryz.f163
def qGM:Array ResultVar:=Tryz.f163.results
noncomputable def qfW (K:Ex→Fr→Option AV):=fun out4=>K (.exit 0) (frOf [(4,(.dat (.sl .byte) out4 (some (4,5))))])
def qiy (n:Nat):Ex→Fr→Option AV:=qm 0 (qix.cutb 0) (kSeq (evCP qix (evLP qix n) (sub qrc [1,1,1,1])) (kFnP qix qGM))
def qma (out4:List UInt8) (s12:List Int) (s13:Int) (s14:Int):Fr:=frOf [(4,(.dat (.sl .byte) out4 (some (4,5)))),(12,(.dat (.sl (.int .i32)) s12 none)),(13,(.dat (.int .i64) s13 none)),(14,(.dat (.int .i64) s14 none))]
theorem qtI (K:Ex→Fr→Option AV):∀ (n:Nat) (out4:List UInt8) (s12:List Int) (s13:Int) (s14:Int),evLP qix n (sub qrc [1,1,1,0,1,0,0]) K (qma out4 s12 s13 s14)=qgo (qfW K) n out4 s12 s13 s14:=by
 intro n
 induction n with
 | zero=>intros; rfl
 | succ n IH =>
 intro out4 s12 s13 s14
 have ih:(fun out4 s12 s13 s14=>evLP qix n (sub qrc [1,1,1,0,1,0,0]) K (qma out4 s12 s13 s14))=qgo (qfW K) n:=by
  funext out4 s12 s13 s14
  exact IH out4 s12 s13 s14
 show _=qbS (qfW K) (qgo (qfW K) n) n out4 s12 s13 s14
 rw [← ih]
 kernel_rfl
theorem qmb (n:Nat) (out4:List UInt8):(qiy n) (.exit 0) (frOf [(4,(.dat (.sl .byte) out4 (some (4,5))))])=qbT n out4:=by
 kernel_rfl
theorem qGN (n:Nat) (t0:List Int) (o0:Lab):evFnP qix n qrc qGM [.dat (.sl (.int .i32)) t0 o0]=qpr n t0:=by
 unfold qpr
 rw [show qgo (qbT n) n=(fun out4 s12 s13 s14=>evLP qix n (sub qrc [1,1,1,0,1,0,0]) (qiy n) (qma out4 s12 s13 s14)) from by
  funext out4 s12 s13 s14
  refine Eq.trans ?_ (qtI (qiy n) n out4 s12 s13 s14).symm
  rw [show (qfW (qiy n))=(qbT n) from by
   funext out4
   exact qmb n out4]
  all_goals kernel_rfl]
 kernel_rfl
theorem qtJ:qe Gc Tryz.prog 163 s_z163:=by
 refine sQ (E:=qix) (c:=qrc) rfl (fun w S hg=>(qb (qtE w S hg) (qb (qtH w S hg) qc))) Tryz.func163 ?_
 intro avs r h
 unfold s_z163 at h
 split at h
 ·obtain ⟨hp,rfl⟩:=Prod.mk.inj h
  obtain ⟨n,hn⟩:=qAQ _ hp
  exact ⟨n,_,(qGN n _ _).trans hn,.inl rfl⟩
 ·cases h
def qiz:EnvP:=eQ [(205,s_z205)] 28 (some [2,3]) (fun x=>if x=3 then some [4,9,10,11] else none) (fun x=>if x=0 then some [4] else if x=1 then some [4,9,10,11] else none) nP
def qrd:Code:=cO Tryz.f164
def qGO:Array ResultVar:=Tryz.f164.results
noncomputable def qiA (K:Ex→Fr→Option AV):=fun s2 s3=>K .ret (frOf [(2,(.dat (.sl .byte) s2 (some (2,5)))),(3,(.dat (.int .i64) s3 none))])
noncomputable def qfX (K:Ex→Fr→Option AV):=fun s4=>K (.exit 0) (frOf [(4,(.dat (.sl .byte) s4 (some (4,5))))])
def qiB (n:Nat):Ex→Fr→Option AV:=qm 0 (qiz.cutb 0) (kSeq (evCP qiz (evLP qiz n) (sub qrd [1,1,1])) (kFnP qiz qGO))
def qmc (s4:List UInt8) (s9:List Int) (s10:Int) (s11:Int):Fr:=frOf [(4,(.dat (.sl .byte) s4 (some (4,5)))),(9,(.dat (.sl (.int .i32)) s9 none)),(10,(.dat (.int .i64) s10 none)),(11,(.dat (.int .i64) s11 none))]
theorem qtK (K:Ex→Fr→Option AV):∀ (n:Nat) (s4:List UInt8) (s9:List Int) (s10:Int) (s11:Int),evLP qiz n (sub qrd [1,1,0,1,0,0]) K (qmc s4 s9 s10 s11)=qgp (qiA K) (qfX K) n s4 s9 s10 s11:=by
 intro n
 induction n with
 | zero=>intros; rfl
 | succ n IH =>
 intro s4 s9 s10 s11
 have ih:(fun s4 s9 s10 s11=>evLP qiz n (sub qrd [1,1,0,1,0,0]) K (qmc s4 s9 s10 s11))=qgp (qiA K) (qfX K) n:=by
  funext s4 s9 s10 s11
  exact IH s4 s9 s10 s11
 show _=qbU (qiA K) (qfX K) (qgp (qiA K) (qfX K) n) n s4 s9 s10 s11
 rw [← ih]
 kernel_rfl
theorem qmd (n:Nat) (s4:List UInt8):(qiB n) (.exit 0) (frOf [(4,(.dat (.sl .byte) s4 (some (4,5))))])=qbV n s4:=by
 kernel_rfl
theorem qGP (n:Nat) (t0:List Int) (o0:Lab):evFnP qiz n qrd qGO [.dat (.sl (.int .i32)) t0 o0]=qps n t0:=by
 unfold qps
 rw [show qgp qec (qbV n) n=(fun s4 s9 s10 s11=>evLP qiz n (sub qrd [1,1,0,1,0,0]) (qiB n) (qmc s4 s9 s10 s11)) from by
  funext s4 s9 s10 s11
  refine Eq.trans ?_ (qtK (qiB n) n s4 s9 s10 s11).symm
  rw [show (qfX (qiB n))=(qbV n) from by
   funext s4
   exact qmd n s4]
  all_goals kernel_rfl]
 kernel_rfl
theorem qtL:qe Gc Tryz.prog 164 s_z164:=by
 refine sQ (E:=qiz) (c:=qrd) rfl (fun w S hg=>(qb (qkr w S hg) qc)) Tryz.func164 ?_
 intro avs r h
 unfold s_z164 at h
 split at h
 ·obtain ⟨hp,rfl⟩:=Prod.mk.inj h
  obtain ⟨n,hn⟩:=qAO _ hp
  exact ⟨n,_,(qGP n _ _).trans hn,.inl rfl⟩
 ·cases h
end
end Go.Av
