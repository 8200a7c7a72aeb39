import Derived.Test.YtopepdfipgfakaaDoorCuEvC
import Derived.Test.YtopepdfipgfakaaDoorCuC
import Derived.Test.YtopepdfipgfakaaDoorProg
import Derived.KernelRfl
namespace Go.Av
set_option linter.unusedSimpArgs false
noncomputable section
open Go.Proofs
set_option maxRecDepth 100000
set_option linter.unusedVariables false
def E_z75:EnvP:=eQ [(82,s_z82)] 10 (some [4]) nC nC nP
def C_z75:Code:=cO Tryd.f75
def R_z75:Array ResultVar:=Tryd.f75.results
theorem qyZ (n:Nat) (c0:UInt8) (o0:Lab) (kinds1:Int) (o1:Lab):evFnP E_z75 n C_z75 R_z75 [.dat .byte c0 o0,.dat (.int .i64) kinds1 o1]=qxz n c0 kinds1:=by
 kernel_rfl
theorem qqm:qg Gc Tryd.prog 75 s_z75:=by
 refine sQ (E:=E_z75) (c:=C_z75) rfl (fun w S hg=>(qb (qql w S hg) qd)) Tryd.func75 ?_
 intro avs r h
 unfold s_z75 at h
 split at h <;> cases h
 obtain ⟨n,hn⟩:=qvf _ _
 exact ⟨n,_,(qyZ n _ _ _ _).trans hn,.inl rfl⟩
def E_z57:EnvP:=eQ [(75,s_z75)] 9 (some [2]) nC nC nP
def C_z57:Code:=cO Tryd.f57
def R_z57:Array ResultVar:=Tryd.f57.results
theorem qza (n:Nat) (c0:UInt8) (o0:Lab):evFnP E_z57 n C_z57 R_z57 [.dat .byte c0 o0]=quC n c0:=by
 kernel_rfl
theorem qjR:qg Gc Tryd.prog 57 s_z57:=by
 refine sQ (E:=E_z57) (c:=C_z57) rfl (fun w S hg=>(qb (qqm w S hg) qd)) Tryd.func57 ?_
 intro avs r h
 unfold s_z57 at h
 split at h <;> cases h
 obtain ⟨n,hn⟩:=qvt _
 exact ⟨n,_,(qza n _ _).trans hn,.inl rfl⟩
def E_z43:EnvP:=eQ [(57,s_z57)] 18 (some [2]) (fun x=>if x=3 then some [3,6,7,8] else none) (fun x=>if x=0 then some [3] else if x=1 then some [3,6,7,8] else none) nP
def C_z43:Code:=cO Tryd.f43
def R_z43:Array ResultVar:=Tryd.f43.results
noncomputable def qhi (K:Ex→Fr→Option AV):=fun n3=>K (.exit 0) (frOf [(3,(.dat (.int .i64) n3 none))])
def qjS (n:Nat):Ex→Fr→Option AV:=qN 0 (E_z43.cutb 0) (kSeq (evCP E_z43 (evLP E_z43 n) (sub C_z43 [1,1,1])) (kFnP E_z43 R_z43))
def qnn (n3:Int) (s6:List UInt8) (s7:Int) (s8:Int):Fr:=frOf [(3,(.dat (.int .i64) n3 none)),(6,(.dat (.sl .byte) s6 none)),(7,(.dat (.int .i64) s7 none)),(8,(.dat (.int .i64) s8 none))]
theorem qqn (K:Ex→Fr→Option AV):∀ (n:Nat) (n3:Int) (s6:List UInt8) (s7:Int) (s8:Int),evLP E_z43 n (sub C_z43 [1,1,0,1,0,0]) K (qnn n3 s6 s7 s8)=qiA (qhi K) n n3 s6 s7 s8:=by
 intro n
 induction n with
 | zero=>intros; rfl
 | succ n IH =>
 intro n3 s6 s7 s8
 have ih:(fun n3 s6 s7 s8=>evLP E_z43 n (sub C_z43 [1,1,0,1,0,0]) K (qnn n3 s6 s7 s8))=qiA (qhi K) n:=by
  funext n3 s6 s7 s8
  exact IH n3 s6 s7 s8
 show _=qdl (qhi K) (qiA (qhi K) n) n n3 s6 s7 s8
 rw [← ih]
 kernel_rfl
theorem qln (n:Nat) (n3:Int):(qjS n) (.exit 0) (frOf [(3,(.dat (.int .i64) n3 none))])=qeK n n3:=by
 kernel_rfl
theorem qzb (n:Nat) (s0:List UInt8) (o0:Lab):evFnP E_z43 n C_z43 R_z43 [.dat (.sl .byte) s0 o0]=qrw n s0:=by
 unfold qrw
 rw [show qiA (qeK n) n=(fun n3 s6 s7 s8=>evLP E_z43 n (sub C_z43 [1,1,0,1,0,0]) (qjS n) (qnn n3 s6 s7 s8)) from by
  funext n3 s6 s7 s8
  refine Eq.trans ?_ (qqn (qjS n) n n3 s6 s7 s8).symm
  rw [show (qhi (qjS n))=(qeK n) from by
   funext n3
   exact qln n n3]
  all_goals kernel_rfl]
 kernel_rfl
theorem qjT:qg Gc Tryd.prog 43 s_z43:=by
 refine sQ (E:=E_z43) (c:=C_z43) rfl (fun w S hg=>(qb (qjR w S hg) qd)) Tryd.func43 ?_
 intro avs r h
 unfold s_z43 at h
 split at h
 ·obtain ⟨hp,rfl⟩:=Prod.mk.inj h
  obtain ⟨n,hn⟩:=qvu _ hp
  exact ⟨n,_,(qzb n _ _).trans hn,.inl rfl⟩
 ·cases h
def qno:EnvP:=eQ [(42,s_z42)] 18 (some [4,5]) nC (fun x=>if x=0 then some [] else none) nP
def qnp:Code:=cO Tryd.f25
def qtS:Array ResultVar:=Tryd.f25.results
theorem qqo (n:Nat) (s1:List UInt8) (o0:Lab):evFnP qno n qnp qtS [.iface 71 (.dat .unit () none),.dat (.sl .byte) s1 o0]=qkl n s1:=by
 kernel_rfl
def qnq:EnvP:=eQ [(43,s_z43)] 18 (some [4,5]) nC (fun x=>if x=0 then some [] else none) nP
def qnr:Code:=cO Tryd.f25
def qtT:Array ResultVar:=Tryd.f25.results
theorem qqp (n:Nat) (s1:List UInt8) (o0:Lab):evFnP qnq n qnr qtT [.iface 72 (.dat .unit () none),.dat (.sl .byte) s1 o0]=qgi n s1:=by
 kernel_rfl
def qns:EnvP:=eQ [] 18 (some [4,5]) nC (fun x=>if x=0 then some [] else none) nP
def qnt:Code:=cO Tryd.f25
def qtU:Array ResultVar:=Tryd.f25.results
theorem qqq (n:Nat) (s1:List UInt8) (o0:Lab):evFnP qns n qnt qtU [.nilIface,.dat (.sl .byte) s1 o0]=qkm n s1:=by
 kernel_rfl
theorem qqr:qg Gc Tryd.prog 25 s_z25:=fun w S hg=>by
 have h0:qg Gc Tryd.prog 25 s_z25_v0:=by
  refine qY qbe (E:=qno) (fn:=Tryd.f25) (c:=qnp) (qD rfl qgc) (fun w S hg=>⟨⟨(qb (qqg w S hg) qd),fun f sp h=>qdr f sp h w S⟩,qby w S hg,(fun _ _ h=>by cases h),(fun _ _ h=>by cases h),(fun _ _ h=>by cases h),(fun t kt vt h=>qdX t kt vt h)⟩) follows Tryd.func25 (by kernel_rfl) (by kernel_rfl) (by kernel_rfl) ?_
  intro avs r h
  unfold s_z25_v0 at h
  split at h
  ·simp only [Prod.mk.injEq,true_and] at h
   subst h
   obtain ⟨n,hn⟩:=qlD _
   exact ⟨n,_,(qqo n _ _).trans hn,.inl rfl⟩
  ·cases h
 have h1:qg Gc Tryd.prog 25 s_z25_v1:=by
  refine qY qbe (E:=qnq) (fn:=Tryd.f25) (c:=qnr) (qD rfl qgc) (fun w S hg=>⟨⟨(qb (qjT w S hg) qd),fun f sp h=>qdr f sp h w S⟩,qby w S hg,(fun _ _ h=>by cases h),(fun _ _ h=>by cases h),(fun _ _ h=>by cases h),(fun t kt vt h=>qdX t kt vt h)⟩) follows Tryd.func25 (by kernel_rfl) (by kernel_rfl) (by kernel_rfl) ?_
  intro avs r h
  unfold s_z25_v1 at h
  split at h
  ·simp only [Prod.mk.injEq] at h
   obtain ⟨hp,rfl⟩:=h
   obtain ⟨n,hn⟩:=qlE _ hp
   exact ⟨n,_,(qqp n _ _).trans hn,.inl rfl⟩
  ·cases h
 have h2:qg Gc Tryd.prog 25 s_z25_v2:=by
  refine qY qbe (E:=qns) (fn:=Tryd.f25) (c:=qnt) (qD rfl qgc) (fun w S hg=>⟨⟨qd,fun f sp h=>qdr f sp h w S⟩,qby w S hg,(fun _ _ h=>by cases h),(fun _ _ h=>by cases h),(fun _ _ h=>by cases h),(fun t kt vt h=>qdX t kt vt h)⟩) follows Tryd.func25 (by kernel_rfl) (by kernel_rfl) (by kernel_rfl) ?_
  intro avs r h
  unfold s_z25_v2 at h
  split at h
  ·simp only [Prod.mk.injEq,true_and] at h
   subst h
   obtain ⟨n,hn⟩:=qlF _
   exact ⟨n,_,(qqq n _ _).trans hn,.inl rfl⟩
  ·cases h
 intro vals avs r h hS ha
 unfold s_z25 at h
 split at h
 ·exact h0 w S hg vals _ r (by simp only [Prod.mk.injEq] at h; exact congrArg _ h.2) hS ha
 ·exact h1 w S hg vals _ r (by exact h) hS ha
 ·exact h2 w S hg vals _ r (by exact h) hS ha
 ·cases h
def E_z44:EnvP:=eQ [] 3 (some [2]) nC nC nP
def C_z44:Code:=cO Tryd.f44
def R_z44:Array ResultVar:=Tryd.f44.results
theorem qzc (n:Nat) (x0:Unit) (o0:Lab):evFnP E_z44 n C_z44 R_z44 [.dat .unit x0 o0]=qxA n x0:=by
 kernel_rfl
theorem qqs:qg Gc Tryd.prog 44 s_z44:=by
 refine sQ (E:=E_z44) (c:=C_z44) rfl (fun w S hg=>qd) Tryd.func44 ?_
 intro avs r h
 unfold s_z44 at h
 split at h <;> cases h
 obtain ⟨n,hn⟩:=qwf _
 exact ⟨n,_,(qzc n _ _).trans hn,.inl rfl⟩
def E_z45:EnvP:=eQ [] 3 (some [2]) nC nC nP
def C_z45:Code:=cO Tryd.f45
def R_z45:Array ResultVar:=Tryd.f45.results
theorem qzd (n:Nat) (x0:Unit) (o0:Lab):evFnP E_z45 n C_z45 R_z45 [.dat .unit x0 o0]=qxB n x0:=by
 kernel_rfl
theorem qqt:qg Gc Tryd.prog 45 s_z45:=by
 refine sQ (E:=E_z45) (c:=C_z45) rfl (fun w S hg=>qd) Tryd.func45 ?_
 intro avs r h
 unfold s_z45 at h
 split at h <;> cases h
 obtain ⟨n,hn⟩:=qwg _
 exact ⟨n,_,(qzd n _ _).trans hn,.inl rfl⟩
def E_z26:EnvP:=eQ [(44,s_z44),(45,s_z45)] 16 (some [2]) nC (fun x=>if x=0 then some [] else none) nP
def C_z26:Code:=cO Tryd.f26
def R_z26:Array ResultVar:=Tryd.f26.results
theorem qze (n:Nat) (code0:Int) (o0:Lab):evFnP E_z26 n C_z26 R_z26 [.dat (.int .i64) code0 o0]=qxC n code0:=by
 kernel_rfl
theorem qqu:qg Gc Tryd.prog 26 s_z26:=by
 refine qdV qbe (E:=E_z26) (fn:=Tryd.f26) (c:=C_z26) (qD rfl qgc) (fun w S hg=>⟨⟨(qb (qqs w S hg) (qb (qqt w S hg) qd)),fun f sp h=>qdr f sp h w S⟩,qby w S hg,(fun _ _ h=>by cases h),(fun _ _ h=>by cases h),(fun _ _ h=>by cases h),(fun _ _ _ h=>by cases h)⟩) follows Tryd.func26 (by kernel_rfl) (by kernel_rfl) (by kernel_rfl) ?_
 intro avs r h
 unfold s_z26 at h
 split at h <;> cases h
 obtain ⟨n,r,hn,hp⟩:=qwe _
 exact ⟨n,r,(qze n _ _).trans hn,hp⟩
def E_z16:EnvP:=eQ [(23,s_z23),(25,s_z25),(26,s_z26)] 36 (some [6,7]) nC (fun x=>if x=0 then some [10] else none) nP
def C_z16:Code:=cO Tryd.f16
def R_z16:Array ResultVar:=Tryd.f16.results
theorem qzf (n:Nat) (charset0:Int) (o0:Lab) (code1:Int) (o1:Lab) (t2:List Int) (o2:Lab):evFnP E_z16 n C_z16 R_z16 [.dat (.int .i64) charset0 o0,.dat (.int .i64) code1 o1,.dat (.sl (.int .i32)) t2 o2]=quD n charset0 code1 t2:=by
 kernel_rfl
theorem qge:qg Gc Tryd.prog 16 s_z16:=by
 refine sQ (E:=E_z16) (c:=C_z16) rfl (fun w S hg=>(qb (qjQ w S hg) (qb (qqr w S hg) (qb (qqu w S hg) qd)))) Tryd.func16 ?_
 intro avs r h
 unfold s_z16 at h
 split at h
 ·obtain ⟨hp,rfl⟩:=Prod.mk.inj h
  obtain ⟨n,hn⟩:=qwh _ _ _ hp
  exact ⟨n,_,(qzf n _ _ _ _ _ _).trans hn,.inl rfl⟩
 ·cases h
def E_z27:EnvP:=eQ [] 9 (some [2]) nC nC nP
def C_z27:Code:=cO Tryd.f27
def R_z27:Array ResultVar:=Tryd.f27.results
theorem qzg (n:Nat) (n0:Int) (o0:Lab):evFnP E_z27 n C_z27 R_z27 [.dat (.int .i64) n0 o0]=quE n n0:=by
 kernel_rfl
theorem qjU:qg Gc Tryd.prog 27 s_z27:=by
 refine sQ (E:=E_z27) (c:=C_z27) rfl (fun w S hg=>qd) Tryd.func27 ?_
 intro avs r h
 unfold s_z27 at h
 split at h <;> cases h
 obtain ⟨n,hn⟩:=qvp _
 exact ⟨n,_,(qzg n _ _).trans hn,.inl rfl⟩
def E_z39:EnvP:=eQ [] 8 (some [2]) nC (fun x=>if x=0 then some [] else none) nP
def C_z39:Code:=cO Tryd.f39
def R_z39:Array ResultVar:=Tryd.f39.results
theorem qzh (n:Nat) (n0:Int) (o0:Lab):evFnP E_z39 n C_z39 R_z39 [.dat (.int .i64) n0 o0]=quF n n0:=by
 kernel_rfl
theorem qjV:qg Gc Tryd.prog 39 s_z39:=by
 refine sQ (E:=E_z39) (c:=C_z39) rfl (fun w S hg=>qd) Tryd.func39 ?_
 intro avs r h
 unfold s_z39 at h
 split at h <;> cases h
 obtain ⟨n,hn⟩:=qvq _
 exact ⟨n,_,(qzh n _ _).trans hn,.inl rfl⟩
def E_z61:EnvP:=eQ [] 19 (some [2]) nC (fun x=>if x=0 then some [] else none) nP
def C_z61:Code:=cO Tryd.f61
def R_z61:Array ResultVar:=Tryd.f61.results
theorem qzi (n:Nat) (charset0:Int) (o0:Lab):evFnP E_z61 n C_z61 R_z61 [.dat (.int .i64) charset0 o0]=quG n charset0:=by
 kernel_rfl
theorem qqv:qg Gc Tryd.prog 61 s_z61:=by
 refine sQ (E:=E_z61) (c:=C_z61) rfl (fun w S hg=>qd) Tryd.func61 ?_
 intro avs r h
 unfold s_z61 at h
 split at h <;> cases h
 obtain ⟨n,hn⟩:=qvn _
 exact ⟨n,_,(qzi n _ _).trans hn,.inl rfl⟩
def E_z46:EnvP:=eQ [(61,s_z61)] 12 (some [2]) nC nC nP
def C_z46:Code:=cO Tryd.f46
def R_z46:Array ResultVar:=Tryd.f46.results
theorem qzj (n:Nat) (charset0:Int) (o0:Lab):evFnP E_z46 n C_z46 R_z46 [.dat (.int .i64) charset0 o0]=quH n charset0:=by
 kernel_rfl
theorem qqw:qg Gc Tryd.prog 46 s_z46:=by
 refine sQ (E:=E_z46) (c:=C_z46) rfl (fun w S hg=>(qb (qqv w S hg) qd)) Tryd.func46 ?_
 intro avs r h
 unfold s_z46 at h
 split at h <;> cases h
 obtain ⟨n,hn⟩:=qvo _
 exact ⟨n,_,(qzj n _ _).trans hn,.inl rfl⟩
def E_z28:EnvP:=eQ [(39,s_z39),(46,s_z46)] 13 (some [4]) nC nC nP
def C_z28:Code:=cO Tryd.f28
def R_z28:Array ResultVar:=Tryd.f28.results
theorem qzk (n:Nat) (charset0:Int) (o0:Lab) (code1:Int) (o1:Lab):evFnP E_z28 n C_z28 R_z28 [.dat (.int .i64) charset0 o0,.dat (.int .i64) code1 o1]=quI n charset0 code1:=by
 kernel_rfl
theorem qjW:qg Gc Tryd.prog 28 s_z28:=by
 refine sQ (E:=E_z28) (c:=C_z28) rfl (fun w S hg=>(qb (qjV w S hg) (qb (qqw w S hg) qd))) Tryd.func28 ?_
 intro avs r h
 unfold s_z28 at h
 split at h <;> cases h
 obtain ⟨n,hn⟩:=qvr _ _
 exact ⟨n,_,(qzk n _ _ _ _).trans hn,.inl rfl⟩
end
end Go.Av
