import Derived.Test.YtopepdfipgfakaaDoorCuEvE
import Derived.Test.YtopepdfipgfakaaDoorCuC
import Derived.Test.YtopepdfipgfakaaDoorProg
import Derived.KernelRfl
namespace Go.Av
set_option linter.unusedSimpArgs false
noncomputable section
open Go.Proofs
set_option maxRecDepth 100000
set_option linter.unusedVariables false
def E_z49:EnvP:=eQ [(16,s_z16)] 17 (some [6]) nC nC nP
def C_z49:Code:=cO Tryd.f49
def R_z49:Array ResultVar:=Tryd.f49.results
theorem qzu (n:Nat) (charset0:Int) (o0:Lab) (code1:Int) (o1:Lab) (t2:List Int) (o2:Lab):evFnP E_z49 n C_z49 R_z49 [.dat (.int .i64) charset0 o0,.dat (.int .i64) code1 o1,.dat (.sl (.int .i32)) t2 o2]=quP n charset0 code1 t2:=by
 kernel_rfl
theorem qqK:qg Gc Tryd.prog 49 s_z49:=by
 refine sQ (E:=E_z49) (c:=C_z49) rfl (fun w S hg=>(qb (qge w S hg) qd)) Tryd.func49 ?_
 intro avs r h
 unfold s_z49 at h
 split at h
 ·obtain ⟨hp,rfl⟩:=Prod.mk.inj h
  obtain ⟨n,hn⟩:=qwj _ _ _ hp
  exact ⟨n,_,(qzu n _ _ _ _ _ _).trans hn,.inl rfl⟩
 ·cases h
def E_z32:EnvP:=eQ [(49,s_z49)] 12 (some [4]) nC nC nP
def C_z32:Code:=cO Tryd.f32
def R_z32:Array ResultVar:=Tryd.f32.results
theorem qzv (n:Nat) (charset0:Int) (o0:Lab) (t1:List Int) (o1:Lab):evFnP E_z32 n C_z32 R_z32 [.dat (.int .i64) charset0 o0,.dat (.sl (.int .i32)) t1 o1]=quQ n charset0 t1:=by
 kernel_rfl
theorem qqL:qg Gc Tryd.prog 32 s_z32:=by
 refine sQ (E:=E_z32) (c:=C_z32) rfl (fun w S hg=>(qb (qqK w S hg) qd)) Tryd.func32 ?_
 intro avs r h
 unfold s_z32 at h
 split at h
 ·obtain ⟨hp,rfl⟩:=Prod.mk.inj h
  obtain ⟨n,hn⟩:=qwk _ _ hp
  exact ⟨n,_,(qzv n _ _ _ _).trans hn,.inl rfl⟩
 ·cases h
def E_z22:EnvP:=eQ [(16,s_z16),(32,s_z32)] 21 (some [4,5]) nC nC nP
def C_z22:Code:=cO Tryd.f22
def R_z22:Array ResultVar:=Tryd.f22.results
theorem qzw (n:Nat) (charset0:Int) (o0:Lab) (t1:List Int) (o1:Lab):evFnP E_z22 n C_z22 R_z22 [.dat (.int .i64) charset0 o0,.dat (.sl (.int .i32)) t1 o1]=quR n charset0 t1:=by
 kernel_rfl
theorem qqM:qg Gc Tryd.prog 22 s_z22:=by
 refine sQ (E:=E_z22) (c:=C_z22) rfl (fun w S hg=>(qb (qge w S hg) (qb (qqL w S hg) qd))) Tryd.func22 ?_
 intro avs r h
 unfold s_z22 at h
 split at h
 ·obtain ⟨hp,rfl⟩:=Prod.mk.inj h
  obtain ⟨n,hn⟩:=qwl _ _ hp
  exact ⟨n,_,(qzw n _ _ _ _).trans hn,.inl rfl⟩
 ·cases h
def E_z14:EnvP:=eQ [(21,s_z21),(22,s_z22)] 25 (some [2,3,4]) nC nC nP
def C_z14:Code:=cO Tryd.f14
def R_z14:Array ResultVar:=Tryd.f14.results
theorem qzx (n:Nat) (t0:List Int) (o0:Lab):evFnP E_z14 n C_z14 R_z14 [.dat (.sl (.int .i32)) t0 o0]=quS n t0:=by
 kernel_rfl
theorem qqN:qg Gc Tryd.prog 14 s_z14:=by
 refine sQ (E:=E_z14) (c:=C_z14) rfl (fun w S hg=>(qb (qqJ w S hg) (qb (qqM w S hg) qd))) Tryd.func14 ?_
 intro avs r h
 unfold s_z14 at h
 split at h
 ·obtain ⟨hp,rfl⟩:=Prod.mk.inj h
  obtain ⟨n,hn⟩:=qui _ hp
  exact ⟨n,_,(qzx n _ _).trans hn,.inl rfl⟩
 ·cases h
def E_z83:EnvP:=eQ [] 6 (some [2]) nC nC nP
def C_z83:Code:=cO Tryd.f83
def R_z83:Array ResultVar:=Tryd.f83.results
theorem qzy (n:Nat) (n0:Int) (o0:Lab):evFnP E_z83 n C_z83 R_z83 [.dat (.int .i64) n0 o0]=quT n n0:=by
 kernel_rfl
theorem qqO:qg Gc Tryd.prog 83 s_z83:=by
 refine sQ (E:=E_z83) (c:=C_z83) rfl (fun w S hg=>qd) Tryd.func83 ?_
 intro avs r h
 unfold s_z83 at h
 split at h
 ·obtain ⟨hp,rfl⟩:=Prod.mk.inj h
  obtain ⟨n,hn⟩:=qvg _ hp
  exact ⟨n,_,(qzy n _ _).trans hn,.inl rfl⟩
 ·cases h
def E_z76:EnvP:=eQ [(83,s_z83)] 11 (some [2]) nC nC nP
def C_z76:Code:=cO Tryd.f76
def R_z76:Array ResultVar:=Tryd.f76.results
theorem qzz (n:Nat) (c0:UInt8) (o0:Lab):evFnP E_z76 n C_z76 R_z76 [.dat .byte c0 o0]=quU n c0:=by
 kernel_rfl
theorem qqP:qg Gc Tryd.prog 76 s_z76:=by
 refine sQ (E:=E_z76) (c:=C_z76) rfl (fun w S hg=>(qb (qqO w S hg) qd)) Tryd.func76 ?_
 intro avs r h
 unfold s_z76 at h
 split at h <;> cases h
 obtain ⟨n,hn⟩:=qvh _
 exact ⟨n,_,(qzz n _ _).trans hn,.inl rfl⟩
def E_z58:EnvP:=eQ [(70,s_z70),(76,s_z76)] 15 (some [6]) nC nC nP
def C_z58:Code:=cO Tryd.f58
def R_z58:Array ResultVar:=Tryd.f58.results
theorem qzA (n:Nat) (b0:List UInt8) (o0:Lab) (sign1:UInt8) (o1:Lab) (c2:UInt8) (o2:Lab):evFnP E_z58 n C_z58 R_z58 [.dat (.sl .byte) b0 o0,.dat .byte sign1 o1,.dat .byte c2 o2]=quV n b0 sign1 c2:=by
 kernel_rfl
theorem qqQ:qg Gc Tryd.prog 58 s_z58:=by
 refine sQ (E:=E_z58) (c:=C_z58) rfl (fun w S hg=>(qb (qjs w S hg) (qb (qqP w S hg) qd))) Tryd.func58 ?_
 intro avs r h
 unfold s_z58 at h
 split at h
 ·obtain ⟨hp,rfl⟩:=Prod.mk.inj h
  obtain ⟨n,hn⟩:=qvi _ _ _ hp
  exact ⟨n,_,(qzA n _ _ _ _ _ _).trans hn,.inl rfl⟩
 ·cases h
def E_z40:EnvP:=eQ [(43,s_z43),(57,s_z57),(58,s_z58)] 34 (some [2]) (fun x=>if x=3 then some [3,9,10,11] else none) (fun x=>if x=0 then some [3] else if x=1 then some [3,9,10,11] else if x=2 then some [3,9,10,11] else none) nP
def C_z40:Code:=cO Tryd.f40
def R_z40:Array ResultVar:=Tryd.f40.results
noncomputable def qhm (K:Ex→Fr→Option AV):=fun out3=>K (.exit 0) (frOf [(3,(.dat (.sl .byte) out3 (some (3,5))))])
def qkc (n:Nat):Ex→Fr→Option AV:=qN 0 (E_z40.cutb 0) (kSeq (evCP E_z40 (evLP E_z40 n) (sub C_z40 [1,1,1])) (kFnP E_z40 R_z40))
def qnA (out3:List UInt8) (s9:List UInt8) (s10:Int) (s11:Int):Fr:=frOf [(3,(.dat (.sl .byte) out3 (some (3,5)))),(9,(.dat (.sl .byte) s9 none)),(10,(.dat (.int .i64) s10 none)),(11,(.dat (.int .i64) s11 none))]
theorem qqR (K:Ex→Fr→Option AV):∀ (n:Nat) (out3:List UInt8) (s9:List UInt8) (s10:Int) (s11:Int),evLP E_z40 n (sub C_z40 [1,1,0,1,0,0]) K (qnA out3 s9 s10 s11)=qiE (qhm K) n out3 s9 s10 s11:=by
 intro n
 induction n with
 | zero=>intros; rfl
 | succ n IH =>
 intro out3 s9 s10 s11
 have ih:(fun out3 s9 s10 s11=>evLP E_z40 n (sub C_z40 [1,1,0,1,0,0]) K (qnA out3 s9 s10 s11))=qiE (qhm K) n:=by
  funext out3 s9 s10 s11
  exact IH out3 s9 s10 s11
 show _=qdp (qhm K) (qiE (qhm K) n) n out3 s9 s10 s11
 rw [← ih]
 kernel_rfl
theorem qls (n:Nat) (out3:List UInt8):(qkc n) (.exit 0) (frOf [(3,(.dat (.sl .byte) out3 (some (3,5))))])=qeO n out3:=by
 kernel_rfl
theorem qzB (n:Nat) (s0:List UInt8) (o0:Lab):evFnP E_z40 n C_z40 R_z40 [.dat (.sl .byte) s0 o0]=qrB n s0:=by
 unfold qrB
 rw [show qiE (qeO n) n=(fun out3 s9 s10 s11=>evLP E_z40 n (sub C_z40 [1,1,0,1,0,0]) (qkc n) (qnA out3 s9 s10 s11)) from by
  funext out3 s9 s10 s11
  refine Eq.trans ?_ (qqR (qkc n) n out3 s9 s10 s11).symm
  rw [show (qhm (qkc n))=(qeO n) from by
   funext out3
   exact qls n out3]
  all_goals kernel_rfl]
 kernel_rfl
theorem qqS:qg Gc Tryd.prog 40 s_z40:=by
 refine sQ (E:=E_z40) (c:=C_z40) rfl (fun w S hg=>(qb (qjT w S hg) (qb (qjR w S hg) (qb (qqQ w S hg) qd)))) Tryd.func40 ?_
 intro avs r h
 unfold s_z40 at h
 split at h
 ·obtain ⟨hp,rfl⟩:=Prod.mk.inj h
  obtain ⟨n,hn⟩:=qvB _ hp
  exact ⟨n,_,(qzB n _ _).trans hn,.inl rfl⟩
 ·cases h
def E_z78:EnvP:=eQ [] 6 (some [2]) nC nC nP
def C_z78:Code:=cO Tryd.f78
def R_z78:Array ResultVar:=Tryd.f78.results
theorem qzC (n:Nat) (n0:Int) (o0:Lab):evFnP E_z78 n C_z78 R_z78 [.dat (.int .i64) n0 o0]=quW n n0:=by
 kernel_rfl
theorem qqT:qg Gc Tryd.prog 78 s_z78:=by
 refine sQ (E:=E_z78) (c:=C_z78) rfl (fun w S hg=>qd) Tryd.func78 ?_
 intro avs r h
 unfold s_z78 at h
 split at h <;> cases h
 obtain ⟨n,hn⟩:=qvx _
 exact ⟨n,_,(qzC n _ _).trans hn,.inl rfl⟩
def E_z60:EnvP:=eQ [(78,s_z78)] 49 (some [2]) (fun x=>if x=4 then some [3,4,5,8,9,10] else if x=8 then some [3,4,5,8,9,10] else none) (fun x=>if x=0 then some [3,4,5] else if x=1 then some [3,4,5,8,9,10] else if x=2 then some [3,4,5,8,9,10] else if x=3 then some [3,4,5,8,9,10] else none) nP
def C_z60:Code:=cO Tryd.f60
def R_z60:Array ResultVar:=Tryd.f60.results
def qbx (out3:List UInt8) (held4:Int) (many5:Int) (s8:List UInt8) (s9:Int) (s10:Int):Fr:=frOf [(3,(.dat (.sl .byte) out3 (some (3,5)))),(4,(.dat (.int .i64) held4 none)),(5,(.dat (.int .i64) many5 none)),(8,(.dat (.sl .byte) s8 none)),(9,(.dat (.int .i64) s9 none)),(10,(.dat (.int .i64) s10 none))]
noncomputable def qhn (K:Ex→Fr→Option AV):=fun out3 held4 many5 s8 s9 s10=>K (.exit 2) (qbx out3 held4 many5 s8 s9 s10)
def qnB (out3:List UInt8) (held4:Int) (many5:Int):Fr:=frOf [(3,(.dat (.sl .byte) out3 (some (3,5)))),(4,(.dat (.int .i64) held4 none)),(5,(.dat (.int .i64) many5 none))]
noncomputable def qeB (K:Ex→Fr→Option AV):=fun out3 held4 many5=>K (.exit 0) (qnB out3 held4 many5)
def qkd (n:Nat) (K:Ex→Fr→Option AV):Ex→Fr→Option AV:=qN 2 (E_z60.cutb 2) (kSeq (evCP E_z60 (evLP E_z60 n) (sub C_z60 [1,1,1,0,1,0,0,1,1,0,0,1,1,1,1])) (qN 1 (E_z60.cutb 1) (kSeq (evCP E_z60 (evLP E_z60 n) (sub C_z60 [1,1,1,0,1,0,0,1,1,1])) (kSeq (fun K fr=>evLP E_z60 n (sub C_z60 [1,1,1,0,1,0,0]) K (cutFP (E_z60.cuts 4) fr)) K))))
def qke (n:Nat):Ex→Fr→Option AV:=qN 0 (E_z60.cutb 0) (kSeq (evCP E_z60 (evLP E_z60 n) (sub C_z60 [1,1,1,1])) (kFnP E_z60 R_z60))
theorem qqU (K:Ex→Fr→Option AV):∀ (n:Nat) (out3:List UInt8) (held4:Int) (many5:Int) (s8:List UInt8) (s9:Int) (s10:Int),evLP E_z60 n (sub C_z60 [1,1,1,0,1,0,0,1,1,0,0,1,1,1,0,0,0]) K (qbx out3 held4 many5 s8 s9 s10)=qdq (qhn K) n out3 held4 many5 s8 s9 s10:=by
 intro n
 induction n with
 | zero=>intros; rfl
 | succ n IH =>
 intro out3 held4 many5 s8 s9 s10
 have ih:(fun out3 held4 many5 s8 s9 s10=>evLP E_z60 n (sub C_z60 [1,1,1,0,1,0,0,1,1,0,0,1,1,1,0,0,0]) K (qbx out3 held4 many5 s8 s9 s10))=qdq (qhn K) n:=by
  funext out3 held4 many5 s8 s9 s10
  exact IH out3 held4 many5 s8 s9 s10
 show _=qoa (qhn K) (qdq (qhn K) n) n out3 held4 many5 s8 s9 s10
 rw [← ih]
 kernel_rfl
theorem qlt (K:Ex→Fr→Option AV) (n:Nat) (out3:List UInt8) (held4:Int) (many5:Int) (s8:List UInt8) (s9:Int) (s10:Int):(qkd n K) (.exit 2) (qbx out3 held4 many5 s8 s9 s10)=qbA (fun out3 held4 many5=>K (.exit 0) (qnB out3 held4 many5)) (fun out3 held4 many5 s8 s9 s10=>evLP E_z60 n (sub C_z60 [1,1,1,0,1,0,0]) K (qbx out3 held4 many5 s8 s9 s10)) n out3 held4 many5 s8 s9 s10:=by
 kernel_rfl
theorem qqV (K:Ex→Fr→Option AV):∀ (n:Nat) (out3:List UInt8) (held4:Int) (many5:Int) (s8:List UInt8) (s9:Int) (s10:Int),evLP E_z60 n (sub C_z60 [1,1,1,0,1,0,0]) K (qbx out3 held4 many5 s8 s9 s10)=qiF (qeB K) n out3 held4 many5 s8 s9 s10:=by
 intro n
 induction n with
 | zero=>intros; rfl
 | succ n IH =>
 intro out3 held4 many5 s8 s9 s10
 have ih:(fun out3 held4 many5 s8 s9 s10=>evLP E_z60 n (sub C_z60 [1,1,1,0,1,0,0]) K (qbx out3 held4 many5 s8 s9 s10))=qiF (qeB K) n:=by
  funext out3 held4 many5 s8 s9 s10
  exact IH out3 held4 many5 s8 s9 s10
 show _=qcc (qeB K) (qiF (qeB K) n) n out3 held4 many5 s8 s9 s10
 rw [← ih]
 unfold qcc
 rw [show qdq (qbA (qeB K) (fun out3 held4 many5 s8 s9 s10=>evLP E_z60 n (sub C_z60 [1,1,1,0,1,0,0]) K (qbx out3 held4 many5 s8 s9 s10)) n) n=(fun out3 held4 many5 s8 s9 s10=>evLP E_z60 n (sub C_z60 [1,1,1,0,1,0,0,1,1,0,0,1,1,1,0,0,0]) (qkd n K) (qbx out3 held4 many5 s8 s9 s10)) from by
  funext out3 held4 many5 s8 s9 s10
  refine Eq.trans ?_ (qqU (qkd n K) n out3 held4 many5 s8 s9 s10).symm
  rw [show (qhn (qkd n K))=(qbA (qeB K) (fun out3 held4 many5 s8 s9 s10=>evLP E_z60 n (sub C_z60 [1,1,1,0,1,0,0]) K (qbx out3 held4 many5 s8 s9 s10)) n) from by
   funext out3 held4 many5 s8 s9 s10
   exact qlt K n out3 held4 many5 s8 s9 s10]
  all_goals kernel_rfl]
 kernel_rfl
theorem qlu (n:Nat) (out3:List UInt8) (held4:Int) (many5:Int):(qke n) (.exit 0) (qnB out3 held4 many5)=qcd n out3 held4 many5:=by
 kernel_rfl
theorem qzD (n:Nat) (s0:List UInt8) (o0:Lab):evFnP E_z60 n C_z60 R_z60 [.dat (.sl .byte) s0 o0]=qrC n s0:=by
 unfold qrC
 rw [show qiF (qcd n) n=(fun out3 held4 many5 s8 s9 s10=>evLP E_z60 n (sub C_z60 [1,1,1,0,1,0,0]) (qke n) (qbx out3 held4 many5 s8 s9 s10)) from by
  funext out3 held4 many5 s8 s9 s10
  refine Eq.trans ?_ (qqV (qke n) n out3 held4 many5 s8 s9 s10).symm
  rw [show (qeB (qke n))=(qcd n) from by
   funext out3 held4 many5
   exact qlu n out3 held4 many5]
  all_goals kernel_rfl]
 kernel_rfl
theorem qqW:qg Gc Tryd.prog 60 s_z60:=by
 refine sQ (E:=E_z60) (c:=C_z60) rfl (fun w S hg=>(qb (qqT w S hg) qd)) Tryd.func60 ?_
 intro avs r h
 unfold s_z60 at h
 split at h
 ·obtain ⟨hp,rfl⟩:=Prod.mk.inj h
  obtain ⟨n,hn⟩:=qvA _ hp
  exact ⟨n,_,(qzD n _ _).trans hn,.inl rfl⟩
 ·cases h
theorem qqX:qg Gc Tryd.prog 41 s_z41:=fun w S hg vals avs r h hS ha=>by
 unfold s_z41 at h
 split at h
 ·rename_i s o
  simp only [Prod.mk.injEq] at h
  obtain ⟨hp,rfl⟩:=h
  obtain ⟨u,rfl,h1⟩:=args1 ha
  obtain ⟨A,cap,rfl,hcap,hA,hcA⟩:=qgs h1
  have hent:(callFunc 41 #[.slice A (List.length s) cap]).run Tryd.prog w=.ok (.enter 41 #[.slice A (List.length s) cap]) w:=enters_of (c:=Tryd.f41.body.getD .skip) Tryd.func41 (by kernel_rfl) (by kernel_rfl) _ _
  refine .inl ⟨hent,(Go.Proofs.lay_walk (S:=S) (qw hp) ?_).mono ?_⟩
  ·intro w' hb
   have hk:Keeps w S w' S:=fun b o hs=>⟨hs,qe (hb.block b (hS b o hs)) o⟩
   have hS':∀ b o,S b o→b < w'.heap.size:=fun b o hs=>Nat.lt_of_lt_of_le (hS b o hs) hb.size
   rcases qqW w' S (qbe w S w' S hk hg) [.slice A (List.length s) cap] [.dat (.sl .byte) s none] _ (show s_z60 _=(true,_) from Prod.ext hp rfl) hS' (qcG ((h1.keeps hk).relab none) (qgw _ _)) with ⟨_,h2⟩ | ⟨v,w2,h2,_⟩
   ·refine h2.mono fun e w2 ⟨v,he,S2,g2,hr⟩=>?_
    obtain ⟨A',cap',rfl,_,hA',hc'⟩:=qgs hr.rd
    refine ⟨A',cap',he,g2.below,hA',fun ad ha' i x hx=>?_⟩
    have hi:=(List.getElem?_eq_some_iff.1 hx).1
    have hx':(z60 s)[i]? = some x:=hx
    have:=hc' ad ha' i hi
    rw [List.getD_eq_getElem?_getD,List.getElem?_map,hx'] at this
    exact this
   ·exfalso
    have:(callFunc 60 #[.slice A (List.length s) cap]).run Tryd.prog w'=.ok (.enter 60 #[.slice A (List.length s) cap]) w':=enters_of (c:=Tryd.f60.body.getD .skip) Tryd.func60 (by kernel_rfl) (by kernel_rfl) _ _
    rw [this] at h2
    cases h2
  ·rintro e w' ⟨v,rfl,hf,hb⟩
   exact ⟨v,rfl,Go.Proofs.res_fresh hS hb hf⟩
 ·cases h
end
end Go.Av
