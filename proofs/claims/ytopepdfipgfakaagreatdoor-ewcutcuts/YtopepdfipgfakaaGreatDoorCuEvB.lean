import Derived.Test.YtopepdfipgfakaaGreatDoorCuEvA
import Derived.Test.YtopepdfipgfakaaGreatDoorCuC
import Derived.Test.YtopepdfipgfakaaGreatDoorProg
import Derived.KernelRfl
namespace Go.Av
set_option linter.unusedSimpArgs false
noncomputable section
open Go.Proofs
set_option maxRecDepth 100000
set_option linter.unusedVariables false
def qFf:EnvP:=eQ [(207,s_z207)] 11 (some [2]) nC nC nP
def qFg:Code:=cO Tryz.f198
def qJq:Array ResultVar:=Tryz.f198.results
theorem qFh (n:Nat) (c0:Int) (o0:Lab):evFnP qFf n qFg qJq [.dat (.int .i32) c0 o0]=qAQ n c0:=by
 kernel_rfl
theorem qka:qe Gc Tryz.prog 198 s_z198:=by
 refine sQ (E:=qFf) (c:=qFg) rfl (fun w S hg=>(qb (qjZ w S hg) qc)) Tryz.func198 ?_
 intro avs r h
 unfold s_z198 at h
 split at h <;> cases h
 obtain ⟨n,hn⟩:=qzJ _
 exact ⟨n,_,(qFh n _ _).trans hn,.inl rfl⟩
def qFi:EnvP:=eQ [] 9 (some [2]) nC nC nP
def qFj:Code:=cO Tryz.f230
def qJr:Array ResultVar:=Tryz.f230.results
theorem qFk (n:Nat) (c0:Int) (o0:Lab):evFnP qFi n qFj qJr [.dat (.int .i32) c0 o0]=quI n c0:=by
 kernel_rfl
theorem qsG:qe Gc Tryz.prog 230 s_z230:=by
 refine sQ (E:=qFi) (c:=qFj) rfl (fun w S hg=>qc) Tryz.func230 ?_
 intro avs r h
 unfold s_z230 at h
 split at h <;> cases h
 obtain ⟨n,hn⟩:=qzr _
 exact ⟨n,_,(qFk n _ _).trans hn,.inl rfl⟩
def qFl:EnvP:=eQ [(230,s_z230)] 11 (some [2]) nC nC nP
def qFm:Code:=cO Tryz.f199
def qJs:Array ResultVar:=Tryz.f199.results
theorem qFn (n:Nat) (c0:Int) (o0:Lab):evFnP qFl n qFm qJs [.dat (.int .i32) c0 o0]=quJ n c0:=by
 kernel_rfl
theorem qfM:qe Gc Tryz.prog 199 s_z199:=by
 refine sQ (E:=qFl) (c:=qFm) rfl (fun w S hg=>(qb (qsG w S hg) qc)) Tryz.func199 ?_
 intro avs r h
 unfold s_z199 at h
 split at h <;> cases h
 obtain ⟨n,hn⟩:=qzs _
 exact ⟨n,_,(qFn n _ _).trans hn,.inl rfl⟩
def qFo:EnvP:=eQ [(196,s_z196),(197,s_z197),(198,s_z198),(199,s_z199)] 30 (some [4]) nC (fun x=>if x=0 then some [] else none) nP
def qFp:Code:=cO Tryz.f157
def qJt:Array ResultVar:=Tryz.f157.results
theorem qFq (n:Nat) (charset0:Int) (o0:Lab) (c1:Int) (o1:Lab):evFnP qFo n qFp qJt [.dat (.int .i64) charset0 o0,.dat (.int .i32) c1 o1]=quK n charset0 c1:=by
 kernel_rfl
theorem qkb:qe Gc Tryz.prog 157 s_z157:=by
 refine sQ (E:=qFo) (c:=qFp) rfl (fun w S hg=>(qb (qjX w S hg) (qb (qsC w S hg) (qb (qka w S hg) (qb (qfM w S hg) qc))))) Tryz.func157 ?_
 intro avs r h
 unfold s_z157 at h
 split at h <;> cases h
 obtain ⟨n,hn⟩:=qzQ _ _
 exact ⟨n,_,(qFq n _ _ _ _).trans hn,.inl rfl⟩
def qic:EnvP:=eQ [(157,s_z157)] 20 (some [4]) (fun x=>if x=2 then some [0,7,8,9] else none) (fun x=>if x=0 then some [] else if x=1 then some [0,7,8,9] else none) nP
def qqk:Code:=cO Tryz.f202
def qFr:Array ResultVar:=Tryz.f202.results
noncomputable def qid (K:Ex→Fr→Option AV):=fun s4=>K .ret (frOf [(4,(.dat (.int .i64) s4 none))])
def qie (n:Nat):Ex→Fr→Option AV:=qm 0 (qic.cutb 0) (kSeq (evCP qic (evLP qic n) (sub qqk [1,1])) (kFnP qic qFr))
def qlC (charset0:Int) (s7:List Int) (s8:Int) (s9:Int):Fr:=frOf [(0,(.dat (.int .i64) charset0 none)),(7,(.dat (.sl (.int .i32)) s7 none)),(8,(.dat (.int .i64) s8 none)),(9,(.dat (.int .i64) s9 none))]
theorem qsH (K:Ex→Fr→Option AV):∀ (n:Nat) (charset0:Int) (s7:List Int) (s8:Int) (s9:Int),evLP qic n (sub qqk [1,0,1,0,0]) K (qlC charset0 s7 s8 s9)=qgb (qid K) (K (.exit 0) (frOf [])) n charset0 s7 s8 s9:=by
 intro n
 induction n with
 | zero=>intros; rfl
 | succ n IH =>
 intro charset0 s7 s8 s9
 have ih:(fun charset0 s7 s8 s9=>evLP qic n (sub qqk [1,0,1,0,0]) K (qlC charset0 s7 s8 s9))=qgb (qid K) (K (.exit 0) (frOf [])) n:=by
  funext charset0 s7 s8 s9
  exact IH charset0 s7 s8 s9
 show _=qbN (qid K) (K (.exit 0) (frOf [])) (qgb (qid K) (K (.exit 0) (frOf [])) n) n charset0 s7 s8 s9
 rw [← ih]
 kernel_rfl
theorem qlD (n:Nat)  : (qie n) (.exit 0) (frOf [])=qdi n  := by
 kernel_rfl
theorem qFs (n:Nat) (charset0:Int) (o0:Lab) (t1:List Int) (o1:Lab):evFnP qic n qqk qFr [.dat (.int .i64) charset0 o0,.dat (.sl (.int .i32)) t1 o1]=qoF n charset0 t1:=by
 unfold qoF
 rw [show qgb qga (qdi n) n=(fun charset0 s7 s8 s9=>evLP qic n (sub qqk [1,0,1,0,0]) (qie n) (qlC charset0 s7 s8 s9)) from by
  funext charset0 s7 s8 s9
  refine Eq.trans ?_ (qsH (qie n) n charset0 s7 s8 s9).symm
  rw [show ((qie n) (.exit 0) (frOf []))=(qdi n) from by
   exact qlD n ]
  all_goals kernel_rfl]
 kernel_rfl
theorem qsI:qe Gc Tryz.prog 202 s_z202:=by
 refine sQ (E:=qic) (c:=qqk) rfl (fun w S hg=>(qb (qkb w S hg) qc)) Tryz.func202 ?_
 intro avs r h
 unfold s_z202 at h
 split at h
 ·obtain ⟨hp,rfl⟩:=Prod.mk.inj h
  obtain ⟨n,hn⟩:=qzA _ _ hp
  exact ⟨n,_,(qFs n _ _ _ _).trans hn,.inl rfl⟩
 ·cases h
def qFt:EnvP:=eQ [(161,s_z161),(202,s_z202)] 14 (some [4]) nC nC nP
def qFu:Code:=cO Tryz.f162
def qJu:Array ResultVar:=Tryz.f162.results
theorem qFv (n:Nat) (charset0:Int) (o0:Lab) (t1:List Int) (o1:Lab):evFnP qFt n qFu qJu [.dat (.int .i64) charset0 o0,.dat (.sl (.int .i32)) t1 o1]=quL n charset0 t1:=by
 kernel_rfl
theorem qsJ:qe Gc Tryz.prog 162 s_z162:=by
 refine sQ (E:=qFt) (c:=qFu) rfl (fun w S hg=>(qb (qjW w S hg) (qb (qsI w S hg) qc))) Tryz.func162 ?_
 intro avs r h
 unfold s_z162 at h
 split at h
 ·obtain ⟨hp,rfl⟩:=Prod.mk.inj h
  obtain ⟨n,hn⟩:=qzT _ _ hp
  exact ⟨n,_,(qFv n _ _ _ _).trans hn,.inl rfl⟩
 ·cases h
def qFw:EnvP:=eQ [(199,s_z199)] 6 (some [2]) nC nC nP
def qFx:Code:=cO Tryz.f243
def qJv:Array ResultVar:=Tryz.f243.results
theorem qFy (n:Nat) (c0:Int) (o0:Lab):evFnP qFw n qFx qJv [.dat (.int .i32) c0 o0]=qAR n c0:=by
 kernel_rfl
theorem qsK:qe Gc Tryz.prog 243 s_z243:=by
 refine sQ (E:=qFw) (c:=qFx) rfl (fun w S hg=>(qb (qfM w S hg) qc)) Tryz.func243 ?_
 intro avs r h
 unfold s_z243 at h
 split at h <;> cases h
 obtain ⟨n,hn⟩:=qzt _
 exact ⟨n,_,(qFy n _ _).trans hn,.inl rfl⟩
def qif:EnvP:=eQ [(243,s_z243)] 19 (some [4]) (fun x=>if x=2 then some [0,1,7,8] else none) (fun x=>if x=0 then some [] else if x=1 then some [0,1,7,8] else none) nP
def qql:Code:=cO Tryz.f242
def qFz:Array ResultVar:=Tryz.f242.results
noncomputable def qig (K:Ex→Fr→Option AV):=fun s4=>K .ret (frOf [(4,(.dat (.int .i64) s4 none))])
def qih (n:Nat):Ex→Fr→Option AV:=qm 0 (qif.cutb 0) (kSeq (evCP qif (evLP qif n) (sub qql [1,1])) (kFnP qif qFz))
def qlE (s0:List Int) (s7:Int) (s8:Int):Fr:=frOf [(0,(.dat (.sl (.int .i32)) s0 none)),(1,(.fn 243 [])),(7,(.dat (.int .i64) s7 none)),(8,(.dat (.int .i64) s8 none))]
theorem qsL (K:Ex→Fr→Option AV):∀ (n:Nat) (s0:List Int) (s7:Int) (s8:Int),evLP qif n (sub qql [1,0,1,0,0]) K (qlE s0 s7 s8)=qgd (qig K) (K (.exit 0) (frOf [])) n s0 s7 s8:=by
 intro n
 induction n with
 | zero=>intros; rfl
 | succ n IH =>
 intro s0 s7 s8
 have ih:(fun s0 s7 s8=>evLP qif n (sub qql [1,0,1,0,0]) K (qlE s0 s7 s8))=qgd (qig K) (K (.exit 0) (frOf [])) n:=by
  funext s0 s7 s8
  exact IH s0 s7 s8
 show _=qbO (qig K) (K (.exit 0) (frOf [])) (qgd (qig K) (K (.exit 0) (frOf [])) n) n s0 s7 s8
 rw [← ih]
 kernel_rfl
theorem qlF (n:Nat)  : (qih n) (.exit 0) (frOf [])=qdj n  := by
 kernel_rfl
theorem qFA (n:Nat) (s0:List Int) (o0:Lab):evFnP qif n qql qFz [.dat (.sl (.int .i32)) s0 o0,.fn 243 []]=qoG n s0:=by
 unfold qoG
 rw [show qgd qgc (qdj n) n=(fun s0 s7 s8=>evLP qif n (sub qql [1,0,1,0,0]) (qih n) (qlE s0 s7 s8)) from by
  funext s0 s7 s8
  refine Eq.trans ?_ (qsL (qih n) n s0 s7 s8).symm
  rw [show ((qih n) (.exit 0) (frOf []))=(qdj n) from by
   exact qlF n ]
  all_goals kernel_rfl]
 kernel_rfl
theorem qsM:qe Gc Tryz.prog 242 s_z242:=by
 refine sQ (E:=qif) (c:=qql) rfl (fun w S hg=>(qb (qsK w S hg) qc)) Tryz.func242 ?_
 intro avs r h
 unfold s_z242 at h
 split at h
 ·obtain ⟨hp,rfl⟩:=Prod.mk.inj h
  obtain ⟨n,hn⟩:=qzx _ hp
  exact ⟨n,_,(qFA n _ _).trans hn,.inl rfl⟩
 ·cases h
def qFB:EnvP:=eQ [(242,s_z242)] 5 (some [2]) nC nC nP
def qFC:Code:=cO Tryz.f231
def qJw:Array ResultVar:=Tryz.f231.results
theorem qFD (n:Nat) (t0:List Int) (o0:Lab):evFnP qFB n qFC qJw [.dat (.sl (.int .i32)) t0 o0]=quO n t0:=by
 kernel_rfl
theorem qsN:qe Gc Tryz.prog 231 s_z231:=by
 refine sQ (E:=qFB) (c:=qFC) rfl (fun w S hg=>(qb (qsM w S hg) qc)) Tryz.func231 ?_
 intro avs r h
 unfold s_z231 at h
 split at h
 ·obtain ⟨hp,rfl⟩:=Prod.mk.inj h
  obtain ⟨n,hn⟩:=qzB _ hp
  exact ⟨n,_,(qFD n _ _).trans hn,.inl rfl⟩
 ·cases h
def qFE:EnvP:=eQ [(231,s_z231)] 6 (some [2]) nC nC nP
def qFF:Code:=cO Tryz.f203
def qJx:Array ResultVar:=Tryz.f203.results
theorem qFG (n:Nat) (t0:List Int) (o0:Lab):evFnP qFE n qFF qJx [.dat (.sl (.int .i32)) t0 o0]=quQ n t0:=by
 kernel_rfl
theorem qsO:qe Gc Tryz.prog 203 s_z203:=by
 refine sQ (E:=qFE) (c:=qFF) rfl (fun w S hg=>(qb (qsN w S hg) qc)) Tryz.func203 ?_
 intro avs r h
 unfold s_z203 at h
 split at h
 ·obtain ⟨hp,rfl⟩:=Prod.mk.inj h
  obtain ⟨n,hn⟩:=qzC _ hp
  exact ⟨n,_,(qFG n _ _).trans hn,.inl rfl⟩
 ·cases h
def qFH:EnvP:=eQ [] 10 (some [2]) nC (fun x=>if x=0 then some [] else none) nP
def qFI:Code:=cO Tryz.f218
def qJy:Array ResultVar:=Tryz.f218.results
theorem qFJ (n:Nat) (n0:Int) (o0:Lab):evFnP qFH n qFI qJy [.dat (.int .i64) n0 o0]=quR n n0:=by
 kernel_rfl
theorem qsP:qe Gc Tryz.prog 218 s_z218:=by
 refine sQ (E:=qFH) (c:=qFI) rfl (fun w S hg=>qc) Tryz.func218 ?_
 intro avs r h
 unfold s_z218 at h
 split at h <;> cases h
 obtain ⟨n,hn⟩:=qzh _
 exact ⟨n,_,(qFJ n _ _).trans hn,.inl rfl⟩
def qFK:EnvP:=eQ [(199,s_z199)] 16 (some [2]) nC (fun x=>if x=0 then some [] else none) nP
def qFL:Code:=cO Tryz.f232
def qJz:Array ResultVar:=Tryz.f232.results
theorem qFM (n:Nat) (c0:Int) (o0:Lab):evFnP qFK n qFL qJz [.dat (.int .i32) c0 o0]=quS n c0:=by
 kernel_rfl
theorem qsQ:qe Gc Tryz.prog 232 s_z232:=by
 refine sQ (E:=qFK) (c:=qFL) rfl (fun w S hg=>(qb (qfM w S hg) qc)) Tryz.func232 ?_
 intro avs r h
 unfold s_z232 at h
 split at h <;> cases h
 obtain ⟨n,hn⟩:=qzD _
 exact ⟨n,_,(qFM n _ _).trans hn,.inl rfl⟩
def qFN:EnvP:=eQ [(38,s_z38),(218,s_z218),(232,s_z232)] 56 (some [4,5]) nC (fun x=>if x=0 then some [7] else if x=1 then some [1,7] else if x=2 then some [1,7] else if x=3 then some [1,7] else none) nP
def qFO:Code:=cO Tryz.f204
def qJA:Array ResultVar:=Tryz.f204.results
theorem qFP (n:Nat) (b0:List UInt8) (o0:Lab) (c1:Int) (o1:Lab):evFnP qFN n qFO qJA [.dat (.sl .byte) b0 o0,.dat (.int .i32) c1 o1]=quT n b0 c1:=by
 kernel_rfl
theorem qsR:qe Gc Tryz.prog 204 s_z204:=by
 refine sQ (E:=qFN) (c:=qFO) rfl (fun w S hg=>(qb (qnF w S hg) (qb (qsP w S hg) (qb (qsQ w S hg) qc)))) Tryz.func204 ?_
 intro avs r h
 unfold s_z204 at h
 split at h
 ·obtain ⟨hp,rfl⟩:=Prod.mk.inj h
  obtain ⟨n,hn⟩:=qzE _ _ hp
  exact ⟨n,_,(qFP n _ _ _ _).trans hn,.inl rfl⟩
 ·cases h
def qii:EnvP:=eQ [(203,s_z203),(204,s_z204)] 28 (some [2,3]) (fun x=>if x=5 then some [4,12,13,14] else none) (fun x=>if x=0 then some [4] else if x=1 then some [4,12,13,14] else none) nP
def qqm:Code:=cO Tryz.f163
def qFQ:Array ResultVar:=Tryz.f163.results
noncomputable def qfN (K:Ex→Fr→Option AV):=fun out4=>K (.exit 0) (frOf [(4,(.dat (.sl .byte) out4 (some (4,5))))])
def qij (n:Nat):Ex→Fr→Option AV:=qm 0 (qii.cutb 0) (kSeq (evCP qii (evLP qii n) (sub qqm [1,1,1,1])) (kFnP qii qFQ))
def qlG (out4:List UInt8) (s12:List Int) (s13:Int) (s14:Int):Fr:=frOf [(4,(.dat (.sl .byte) out4 (some (4,5)))),(12,(.dat (.sl (.int .i32)) s12 none)),(13,(.dat (.int .i64) s13 none)),(14,(.dat (.int .i64) s14 none))]
theorem qsS (K:Ex→Fr→Option AV):∀ (n:Nat) (out4:List UInt8) (s12:List Int) (s13:Int) (s14:Int),evLP qii n (sub qqm [1,1,1,0,1,0,0]) K (qlG out4 s12 s13 s14)=qgf (qfN K) n out4 s12 s13 s14:=by
 intro n
 induction n with
 | zero=>intros; rfl
 | succ n IH =>
 intro out4 s12 s13 s14
 have ih:(fun out4 s12 s13 s14=>evLP qii n (sub qqm [1,1,1,0,1,0,0]) K (qlG out4 s12 s13 s14))=qgf (qfN K) n:=by
  funext out4 s12 s13 s14
  exact IH out4 s12 s13 s14
 show _=qbP (qfN K) (qgf (qfN K) n) n out4 s12 s13 s14
 rw [← ih]
 kernel_rfl
theorem qlH (n:Nat) (out4:List UInt8):(qij n) (.exit 0) (frOf [(4,(.dat (.sl .byte) out4 (some (4,5))))])=qbQ n out4:=by
 kernel_rfl
theorem qFR (n:Nat) (t0:List Int) (o0:Lab):evFnP qii n qqm qFQ [.dat (.sl (.int .i32)) t0 o0]=qoH n t0:=by
 unfold qoH
 rw [show qgf (qbQ n) n=(fun out4 s12 s13 s14=>evLP qii n (sub qqm [1,1,1,0,1,0,0]) (qij n) (qlG out4 s12 s13 s14)) from by
  funext out4 s12 s13 s14
  refine Eq.trans ?_ (qsS (qij n) n out4 s12 s13 s14).symm
  rw [show (qfN (qij n))=(qbQ n) from by
   funext out4
   exact qlH n out4]
  all_goals kernel_rfl]
 kernel_rfl
theorem qsT:qe Gc Tryz.prog 163 s_z163:=by
 refine sQ (E:=qii) (c:=qqm) rfl (fun w S hg=>(qb (qsO w S hg) (qb (qsR w S hg) qc))) Tryz.func163 ?_
 intro avs r h
 unfold s_z163 at h
 split at h
 ·obtain ⟨hp,rfl⟩:=Prod.mk.inj h
  obtain ⟨n,hn⟩:=qzW _ hp
  exact ⟨n,_,(qFR n _ _).trans hn,.inl rfl⟩
 ·cases h
def qik:EnvP:=eQ [(205,s_z205)] 28 (some [2,3]) (fun x=>if x=3 then some [4,9,10,11] else none) (fun x=>if x=0 then some [4] else if x=1 then some [4,9,10,11] else none) nP
def qqn:Code:=cO Tryz.f164
def qFS:Array ResultVar:=Tryz.f164.results
noncomputable def qil (K:Ex→Fr→Option AV):=fun s2 s3=>K .ret (frOf [(2,(.dat (.sl .byte) s2 (some (2,5)))),(3,(.dat (.int .i64) s3 none))])
noncomputable def qfO (K:Ex→Fr→Option AV):=fun s4=>K (.exit 0) (frOf [(4,(.dat (.sl .byte) s4 (some (4,5))))])
def qim (n:Nat):Ex→Fr→Option AV:=qm 0 (qik.cutb 0) (kSeq (evCP qik (evLP qik n) (sub qqn [1,1,1])) (kFnP qik qFS))
def qlI (s4:List UInt8) (s9:List Int) (s10:Int) (s11:Int):Fr:=frOf [(4,(.dat (.sl .byte) s4 (some (4,5)))),(9,(.dat (.sl (.int .i32)) s9 none)),(10,(.dat (.int .i64) s10 none)),(11,(.dat (.int .i64) s11 none))]
theorem qsU (K:Ex→Fr→Option AV):∀ (n:Nat) (s4:List UInt8) (s9:List Int) (s10:Int) (s11:Int),evLP qik n (sub qqn [1,1,0,1,0,0]) K (qlI s4 s9 s10 s11)=qgg (qil K) (qfO K) n s4 s9 s10 s11:=by
 intro n
 induction n with
 | zero=>intros; rfl
 | succ n IH =>
 intro s4 s9 s10 s11
 have ih:(fun s4 s9 s10 s11=>evLP qik n (sub qqn [1,1,0,1,0,0]) K (qlI s4 s9 s10 s11))=qgg (qil K) (qfO K) n:=by
  funext s4 s9 s10 s11
  exact IH s4 s9 s10 s11
 show _=qbR (qil K) (qfO K) (qgg (qil K) (qfO K) n) n s4 s9 s10 s11
 rw [← ih]
 kernel_rfl
theorem qlJ (n:Nat) (s4:List UInt8):(qim n) (.exit 0) (frOf [(4,(.dat (.sl .byte) s4 (some (4,5))))])=qbS n s4:=by
 kernel_rfl
theorem qFT (n:Nat) (t0:List Int) (o0:Lab):evFnP qik n qqn qFS [.dat (.sl (.int .i32)) t0 o0]=qoI n t0:=by
 unfold qoI
 rw [show qgg qdX (qbS n) n=(fun s4 s9 s10 s11=>evLP qik n (sub qqn [1,1,0,1,0,0]) (qim n) (qlI s4 s9 s10 s11)) from by
  funext s4 s9 s10 s11
  refine Eq.trans ?_ (qsU (qim n) n s4 s9 s10 s11).symm
  rw [show (qfO (qim n))=(qbS n) from by
   funext s4
   exact qlJ n s4]
  all_goals kernel_rfl]
 kernel_rfl
theorem qsV:qe Gc Tryz.prog 164 s_z164:=by
 refine sQ (E:=qik) (c:=qqn) rfl (fun w S hg=>(qb (qjY w S hg) qc)) Tryz.func164 ?_
 intro avs r h
 unfold s_z164 at h
 split at h
 ·obtain ⟨hp,rfl⟩:=Prod.mk.inj h
  obtain ⟨n,hn⟩:=qzU _ hp
  exact ⟨n,_,(qFT n _ _).trans hn,.inl rfl⟩
 ·cases h
end
end Go.Av
