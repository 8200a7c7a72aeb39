import Derived.Test.YtopepdfipgfakaaGreatDoorCuEvF
import Derived.Test.YtopepdfipgfakaaGreatDoorCuC
import Derived.Test.YtopepdfipgfakaaGreatDoorProg
import Derived.KernelRfl
namespace Go.Av
set_option linter.unusedSimpArgs false
noncomputable section
open Go.Proofs
set_option maxRecDepth 100000
set_option linter.unusedVariables false
def qLb:EnvP:=eQ [(192,s_z192)] 9 (some [4]) nC nC nP
def qLc:Code:=cO Tryz.f215
def qOm:Array ResultVar:=Tryz.f215.results
theorem qLd (n:Nat) (s0:List UInt8) (o0:Lab) (c1:UInt8) (o1:Lab):evFnP qLb n qLc qOm [.dat .str s0 o0,.dat .byte c1 o1]=qEw n s0 c1:=by
 kernel_rfl
theorem qwl:qe Gc Tryz.prog 215 s_z215:=by
 refine sQ (E:=qLb) (c:=qLc) rfl (fun w S hg=>(qb (qwk w S hg) qc)) Tryz.func215 ?_
 intro avs r h
 unfold s_z215 at h
 split at h <;> cases h
 obtain ⟨n,hn⟩:=qBX _ _
 exact ⟨n,_,(qLd n _ _ _ _).trans hn,.inl rfl⟩
def qLe:EnvP:=eQ [(214,s_z214),(215,s_z215)] 35 (some [2]) nC nC nP
def qLf:Code:=cO Tryz.f180
def qOn:Array ResultVar:=Tryz.f180.results
theorem qLg (n:Nat) (c0:UInt8) (o0:Lab):evFnP qLe n qLf qOn [.dat .byte c0 o0]=qxY n c0:=by
 kernel_rfl
theorem qwm:qe Gc Tryz.prog 180 s_z180:=by
 refine sQ (E:=qLe) (c:=qLf) rfl (fun w S hg=>(qb (qwi w S hg) (qb (qwl w S hg) qc))) Tryz.func180 ?_
 intro avs r h
 unfold s_z180 at h
 split at h <;> cases h
 obtain ⟨n,hn⟩:=qBY _
 exact ⟨n,_,(qLg n _ _).trans hn,.inl rfl⟩
def qLh:EnvP:=eQ [(180,s_z180)] 10 (some [4]) nC nC nP
def qLi:Code:=cO Tryz.f129
def qOo:Array ResultVar:=Tryz.f129.results
theorem qLj (n:Nat) (c0:UInt8) (o0:Lab) (kinds1:Int) (o1:Lab):evFnP qLh n qLi qOo [.dat .byte c0 o0,.dat (.int .i64) kinds1 o1]=qEx n c0 kinds1:=by
 kernel_rfl
theorem qwn:qe Gc Tryz.prog 129 s_z129:=by
 refine sQ (E:=qLh) (c:=qLi) rfl (fun w S hg=>(qb (qwm w S hg) qc)) Tryz.func129 ?_
 intro avs r h
 unfold s_z129 at h
 split at h <;> cases h
 obtain ⟨n,hn⟩:=qBZ _ _
 exact ⟨n,_,(qLj n _ _ _ _).trans hn,.inl rfl⟩
def E_z84:EnvP:=eQ [(129,s_z129)] 9 (some [2]) nC nC nP
def C_z84:Code:=cO Tryz.f84
def R_z84:Array ResultVar:=Tryz.f84.results
theorem qOp (n:Nat) (c0:UInt8) (o0:Lab):evFnP E_z84 n C_z84 R_z84 [.dat .byte c0 o0]=qGs n c0:=by
 kernel_rfl
theorem qpX:qe Gc Tryz.prog 84 s_z84:=by
 refine sQ (E:=E_z84) (c:=C_z84) rfl (fun w S hg=>(qb (qwn w S hg) qc)) Tryz.func84 ?_
 intro avs r h
 unfold s_z84 at h
 split at h <;> cases h
 obtain ⟨n,hn⟩:=qGX _
 exact ⟨n,_,(qOp n _ _).trans hn,.inl rfl⟩
def E_z83:EnvP:=eQ [(84,s_z84)] 18 (some [2]) (fun x=>if x=3 then some [3,6,7,8] else none) (fun x=>if x=0 then some [3] else if x=1 then some [3,6,7,8] else none) nP
def C_z83:Code:=cO Tryz.f83
def R_z83:Array ResultVar:=Tryz.f83.results
noncomputable def qlQ (K:Ex→Fr→Option AV):=fun n3=>K (.exit 0) (frOf [(3,(.dat (.int .i64) n3 none))])
def qpY (n:Nat):Ex→Fr→Option AV:=qo 0 (E_z83.cutb 0) (kSeq (evCP E_z83 (evLP E_z83 n) (sub C_z83 [1,1,1])) (kFnP E_z83 R_z83))
def qwo (n3:Int) (s6:List UInt8) (s7:Int) (s8:Int):Fr:=frOf [(3,(.dat (.int .i64) n3 none)),(6,(.dat (.sl .byte) s6 none)),(7,(.dat (.int .i64) s7 none)),(8,(.dat (.int .i64) s8 none))]
theorem qAR (K:Ex→Fr→Option AV):∀ (n:Nat) (n3:Int) (s6:List UInt8) (s7:Int) (s8:Int),evLP E_z83 n (sub C_z83 [1,1,0,1,0,0]) K (qwo n3 s6 s7 s8)=qop (qlQ K) n n3 s6 s7 s8:=by
 intro n
 induction n with
 | zero=>intros; rfl
 | succ n IH =>
 intro n3 s6 s7 s8
 have ih:(fun n3 s6 s7 s8=>evLP E_z83 n (sub C_z83 [1,1,0,1,0,0]) K (qwo n3 s6 s7 s8))=qop (qlQ K) n:=by
  funext n3 s6 s7 s8
  exact IH n3 s6 s7 s8
 show _=qeU (qlQ K) (qop (qlQ K) n) n n3 s6 s7 s8
 rw [← ih]
 kernel_rfl
theorem qsQ (n:Nat) (n3:Int):(qpY n) (.exit 0) (frOf [(3,(.dat (.int .i64) n3 none))])=qhA n n3:=by
 kernel_rfl
theorem qOq (n:Nat) (s0:List UInt8) (o0:Lab):evFnP E_z83 n C_z83 R_z83 [.dat (.sl .byte) s0 o0]=qBO n s0:=by
 unfold qBO
 rw [show qop (qhA n) n=(fun n3 s6 s7 s8=>evLP E_z83 n (sub C_z83 [1,1,0,1,0,0]) (qpY n) (qwo n3 s6 s7 s8)) from by
  funext n3 s6 s7 s8
  refine Eq.trans ?_ (qAR (qpY n) n n3 s6 s7 s8).symm
  rw [show (qlQ (qpY n))=(qhA n) from by
   funext n3
   exact qsQ n n3]
  all_goals kernel_rfl]
 kernel_rfl
theorem qpZ:qe Gc Tryz.prog 83 s_z83:=by
 refine sQ (E:=E_z83) (c:=C_z83) rfl (fun w S hg=>(qb (qpX w S hg) qc)) Tryz.func83 ?_
 intro avs r h
 unfold s_z83 at h
 split at h
 ·obtain ⟨hp,rfl⟩:=Prod.mk.inj h
  obtain ⟨n,hn⟩:=qGY _ hp
  exact ⟨n,_,(qOq n _ _).trans hn,.inl rfl⟩
 ·cases h
def E_z87:EnvP:=eQ [] 10 (some [2]) nC nC nP
def C_z87:Code:=cO Tryz.f87
def R_z87:Array ResultVar:=Tryz.f87.results
theorem qOr (n:Nat) (n0:Int) (o0:Lab):evFnP E_z87 n C_z87 R_z87 [.dat (.int .i64) n0 o0]=qGt n n0:=by
 kernel_rfl
theorem qAS:qe Gc Tryz.prog 87 s_z87:=by
 refine sQ (E:=E_z87) (c:=C_z87) rfl (fun w S hg=>qc) Tryz.func87 ?_
 intro avs r h
 unfold s_z87 at h
 split at h <;> cases h
 obtain ⟨n,hn⟩:=qGZ _
 exact ⟨n,_,(qOr n _ _).trans hn,.inl rfl⟩
def qqa:EnvP:=eQ [(87,s_z87)] 18 (some [4,5]) nC (fun x=>if x=0 then some [] else none) nP
def qqb:Code:=cO Tryz.f154
def qAT:Array ResultVar:=Tryz.f154.results
theorem qwp (n:Nat) (s1:List UInt8) (o0:Lab):evFnP qqa n qqb qAT [.iface 178 (.dat .unit () none),.dat (.sl .byte) s1 o0]=qmd n s1:=by
 kernel_rfl
def qqc:EnvP:=eQ [(83,s_z83)] 18 (some [4,5]) nC (fun x=>if x=0 then some [] else none) nP
def qqd:Code:=cO Tryz.f154
def qAU:Array ResultVar:=Tryz.f154.results
theorem qwq (n:Nat) (s1:List UInt8) (o0:Lab):evFnP qqc n qqd qAU [.iface 179 (.dat .unit () none),.dat (.sl .byte) s1 o0]=qhB n s1:=by
 kernel_rfl
def qqe:EnvP:=eQ [] 18 (some [4,5]) nC (fun x=>if x=0 then some [] else none) nP
def qqf:Code:=cO Tryz.f154
def qAV:Array ResultVar:=Tryz.f154.results
theorem qwr (n:Nat) (s1:List UInt8) (o0:Lab):evFnP qqe n qqf qAV [.nilIface,.dat (.sl .byte) s1 o0]=qme n s1:=by
 kernel_rfl
theorem qws:qe Gc Tryz.prog 154 s_z154:=fun w S hg=>by
 have h0:qe Gc Tryz.prog 154 s_z154_v0:=by
  refine qN qbc (E:=qqa) (fn:=Tryz.f154) (c:=qqb) (qw rfl qhU) (fun w S hg=>⟨⟨(qb (qAS w S hg) qc),fun f sp h=>qdr f sp h w S⟩,qbr w S hg,(fun _ _ h=>by cases h),(fun _ _ h=>by cases h),(fun _ _ h=>by cases h),(fun t kt vt h=>qfe t kt vt h)⟩) follows Tryz.func154 (by kernel_rfl) (by kernel_rfl) (by kernel_rfl) ?_
  intro avs r h
  unfold s_z154_v0 at h
  split at h
  ·simp only [Prod.mk.injEq,true_and] at h
   subst h
   obtain ⟨n,hn⟩:=qoF _
   exact ⟨n,_,(qwp n _ _).trans hn,.inl rfl⟩
  ·cases h
 have h1:qe Gc Tryz.prog 154 s_z154_v1:=by
  refine qN qbc (E:=qqc) (fn:=Tryz.f154) (c:=qqd) (qw rfl qhU) (fun w S hg=>⟨⟨(qb (qpZ w S hg) qc),fun f sp h=>qdr f sp h w S⟩,qbr w S hg,(fun _ _ h=>by cases h),(fun _ _ h=>by cases h),(fun _ _ h=>by cases h),(fun t kt vt h=>qfe t kt vt h)⟩) follows Tryz.func154 (by kernel_rfl) (by kernel_rfl) (by kernel_rfl) ?_
  intro avs r h
  unfold s_z154_v1 at h
  split at h
  ·simp only [Prod.mk.injEq] at h
   obtain ⟨hp,rfl⟩:=h
   obtain ⟨n,hn⟩:=qoG _ hp
   exact ⟨n,_,(qwq n _ _).trans hn,.inl rfl⟩
  ·cases h
 have h2:qe Gc Tryz.prog 154 s_z154_v2:=by
  refine qN qbc (E:=qqe) (fn:=Tryz.f154) (c:=qqf) (qw rfl qhU) (fun w S hg=>⟨⟨qc,fun f sp h=>qdr f sp h w S⟩,qbr w S hg,(fun _ _ h=>by cases h),(fun _ _ h=>by cases h),(fun _ _ h=>by cases h),(fun t kt vt h=>qfe t kt vt h)⟩) follows Tryz.func154 (by kernel_rfl) (by kernel_rfl) (by kernel_rfl) ?_
  intro avs r h
  unfold s_z154_v2 at h
  split at h
  ·simp only [Prod.mk.injEq,true_and] at h
   subst h
   obtain ⟨n,hn⟩:=qoH _
   exact ⟨n,_,(qwr n _ _).trans hn,.inl rfl⟩
  ·cases h
 intro vals avs r h hS ha
 unfold s_z154 at h
 split at h
 ·exact h0 w S hg vals _ r (by simp only [Prod.mk.injEq] at h; exact congrArg _ h.2) hS ha
 ·exact h1 w S hg vals _ r (by exact h) hS ha
 ·exact h2 w S hg vals _ r (by exact h) hS ha
 ·cases h
def qLk:EnvP:=eQ [] 3 (some [2]) nC nC nP
def qLl:Code:=cO Tryz.f194
def qOs:Array ResultVar:=Tryz.f194.results
theorem qLm (n:Nat) (x0:Unit) (o0:Lab):evFnP qLk n qLl qOs [.dat .unit x0 o0]=qEz n x0:=by
 kernel_rfl
theorem qwt:qe Gc Tryz.prog 194 s_z194:=by
 refine sQ (E:=qLk) (c:=qLl) rfl (fun w S hg=>qc) Tryz.func194 ?_
 intro avs r h
 unfold s_z194 at h
 split at h <;> cases h
 obtain ⟨n,hn⟩:=qDp _
 exact ⟨n,_,(qLm n _ _).trans hn,.inl rfl⟩
def qLn:EnvP:=eQ [] 3 (some [2]) nC nC nP
def qLo:Code:=cO Tryz.f195
def qOt:Array ResultVar:=Tryz.f195.results
theorem qLp (n:Nat) (x0:Unit) (o0:Lab):evFnP qLn n qLo qOt [.dat .unit x0 o0]=qEA n x0:=by
 kernel_rfl
theorem qwu:qe Gc Tryz.prog 195 s_z195:=by
 refine sQ (E:=qLn) (c:=qLo) rfl (fun w S hg=>qc) Tryz.func195 ?_
 intro avs r h
 unfold s_z195 at h
 split at h <;> cases h
 obtain ⟨n,hn⟩:=qDq _
 exact ⟨n,_,(qLp n _ _).trans hn,.inl rfl⟩
def qLq:EnvP:=eQ [(194,s_z194),(195,s_z195)] 16 (some [2]) nC (fun x=>if x=0 then some [] else none) nP
def qLr:Code:=cO Tryz.f155
def qOu:Array ResultVar:=Tryz.f155.results
theorem qLs (n:Nat) (code0:Int) (o0:Lab):evFnP qLq n qLr qOu [.dat (.int .i64) code0 o0]=qEB n code0:=by
 kernel_rfl
theorem qwv:qe Gc Tryz.prog 155 s_z155:=by
 refine qfU qbc (E:=qLq) (fn:=Tryz.f155) (c:=qLr) (qw rfl qhU) (fun w S hg=>⟨⟨(qb (qwt w S hg) (qb (qwu w S hg) qc)),fun f sp h=>qdr f sp h w S⟩,qbr w S hg,(fun _ _ h=>by cases h),(fun _ _ h=>by cases h),(fun _ _ h=>by cases h),(fun _ _ _ h=>by cases h)⟩) follows Tryz.func155 (by kernel_rfl) (by kernel_rfl) (by kernel_rfl) ?_
 intro avs r h
 unfold s_z155 at h
 split at h <;> cases h
 obtain ⟨n,r,hn,hp⟩:=qDo _
 exact ⟨n,r,(qLs n _ _).trans hn,hp⟩
def qLt:EnvP:=eQ [(120,s_z120),(154,s_z154),(155,s_z155)] 36 (some [6,7]) nC (fun x=>if x=0 then some [10] else none) nP
def qLu:Code:=cO Tryz.f112
def qOv:Array ResultVar:=Tryz.f112.results
theorem qLv (n:Nat) (charset0:Int) (o0:Lab) (code1:Int) (o1:Lab) (t2:List Int) (o2:Lab):evFnP qLt n qLu qOv [.dat (.int .i64) charset0 o0,.dat (.int .i64) code1 o1,.dat (.sl (.int .i32)) t2 o2]=qyd n charset0 code1 t2:=by
 kernel_rfl
theorem qgS:qe Gc Tryz.prog 112 s_z112:=by
 refine sQ (E:=qLt) (c:=qLu) rfl (fun w S hg=>(qb (qlP w S hg) (qb (qws w S hg) (qb (qwv w S hg) qc)))) Tryz.func112 ?_
 intro avs r h
 unfold s_z112 at h
 split at h
 ·obtain ⟨hp,rfl⟩:=Prod.mk.inj h
  obtain ⟨n,hn⟩:=qDr _ _ _ hp
  exact ⟨n,_,(qLv n _ _ _ _ _ _).trans hn,.inl rfl⟩
 ·cases h
def E_z66:EnvP:=eQ [(17,s_z17),(112,s_z112)] 24 (some [6,7]) nC nC nP
def C_z66:Code:=cO Tryz.f66
def R_z66:Array ResultVar:=Tryz.f66.results
theorem qOw (n:Nat) (charset0:Int) (o0:Lab) (code1:Int) (o1:Lab) (t2:List Int) (o2:Lab):evFnP E_z66 n C_z66 R_z66 [.dat (.int .i64) charset0 o0,.dat (.int .i64) code1 o1,.dat (.sl (.int .i32)) t2 o2]=qGu n charset0 code1 t2:=by
 kernel_rfl
theorem qqg:qe Gc Tryz.prog 66 s_z66:=by
 refine sQ (E:=E_z66) (c:=C_z66) rfl (fun w S hg=>(qb (qAQ w S hg) (qb (qgS w S hg) qc))) Tryz.func66 ?_
 intro avs r h
 unfold s_z66 at h
 split at h
 ·obtain ⟨hp,rfl⟩:=Prod.mk.inj h
  obtain ⟨n,hn⟩:=qHz _ _ _ hp
  exact ⟨n,_,(qOw n _ _ _ _ _ _).trans hn,.inl rfl⟩
 ·cases h
def qLw:EnvP:=eQ [(66,s_z66)] 31 (some [8]) nC nC nP
def qLx:Code:=cO Tryz.f156
def qOx:Array ResultVar:=Tryz.f156.results
theorem qLy (n:Nat) (charset0:Int) (o0:Lab) (code1:Int) (o1:Lab) (t2:List Int) (o2:Lab) (room3:Int) (o3:Lab):evFnP qLw n qLx qOx [.dat (.int .i64) charset0 o0,.dat (.int .i64) code1 o1,.dat (.sl (.int .i32)) t2 o2,.dat (.int .i64) room3 o3]=qyf n charset0 code1 t2 room3:=by
 kernel_rfl
theorem qww:qe Gc Tryz.prog 156 s_z156:=by
 refine sQ (E:=qLw) (c:=qLx) rfl (fun w S hg=>(qb (qqg w S hg) qc)) Tryz.func156 ?_
 intro avs r h
 unfold s_z156 at h
 split at h
 ·obtain ⟨hp,rfl⟩:=Prod.mk.inj h
  obtain ⟨n,hn⟩:=qDu _ _ _ _ hp
  exact ⟨n,_,(qLy n _ _ _ _ _ _ _ _).trans hn,.inl rfl⟩
 ·cases h
def qko:EnvP:=eQ [(156,s_z156)] 27 (some [8]) (fun x=>if x=2 then some [0,1,2,3,9] else none) (fun x=>if x=0 then some [9] else if x=1 then some [0,1,2,3,9] else none) nP
def qsR:Code:=cO Tryz.f114
def qLz:Array ResultVar:=Tryz.f114.results
noncomputable def qgT (K:Ex→Fr→Option AV):=fun many9=>K (.exit 0) (frOf [(9,(.dat (.int .i64) many9 none))])
def qkp (n:Nat):Ex→Fr→Option AV:=qo 0 (qko.cutb 0) (kSeq (evCP qko (evLP qko n) (sub qsR [1,1,1])) (kFnP qko qLz))
def qnU (charset0:Int) (code1:Int) (t2:List Int) (room3:Int) (many9:Int):Fr:=frOf [(0,(.dat (.int .i64) charset0 none)),(1,(.dat (.int .i64) code1 none)),(2,(.dat (.sl (.int .i32)) t2 none)),(3,(.dat (.int .i64) room3 none)),(9,(.dat (.int .i64) many9 none))]
theorem qwx (K:Ex→Fr→Option AV):∀ (n:Nat) (charset0:Int) (code1:Int) (t2:List Int) (room3:Int) (many9:Int),evLP qko n (sub qsR [1,1,0,0,0]) K (qnU charset0 code1 t2 room3 many9)=qhC (qgT K) n charset0 code1 t2 room3 many9:=by
 intro n
 induction n with
 | zero=>intros; rfl
 | succ n IH =>
 intro charset0 code1 t2 room3 many9
 have ih:(fun charset0 code1 t2 room3 many9=>evLP qko n (sub qsR [1,1,0,0,0]) K (qnU charset0 code1 t2 room3 many9))=qhC (qgT K) n:=by
  funext charset0 code1 t2 room3 many9
  exact IH charset0 code1 t2 room3 many9
 show _=qcJ (qgT K) (qhC (qgT K) n) n charset0 code1 t2 room3 many9
 rw [← ih]
 kernel_rfl
theorem qnV (n:Nat) (many9:Int):(qkp n) (.exit 0) (frOf [(9,(.dat (.int .i64) many9 none))])=qeg n many9:=by
 kernel_rfl
theorem qLA (n:Nat) (charset0:Int) (o0:Lab) (code1:Int) (o1:Lab) (t2:List Int) (o2:Lab) (room3:Int) (o3:Lab):evFnP qko n qsR qLz [.dat (.int .i64) charset0 o0,.dat (.int .i64) code1 o1,.dat (.sl (.int .i32)) t2 o2,.dat (.int .i64) room3 o3]=qqW n charset0 code1 t2 room3:=by
 unfold qqW
 rw [show qhC (qeg n) n=(fun charset0 code1 t2 room3 many9=>evLP qko n (sub qsR [1,1,0,0,0]) (qkp n) (qnU charset0 code1 t2 room3 many9)) from by
  funext charset0 code1 t2 room3 many9
  refine Eq.trans ?_ (qwx (qkp n) n charset0 code1 t2 room3 many9).symm
  rw [show (qgT (qkp n))=(qeg n) from by
   funext many9
   exact qnV n many9]
  all_goals kernel_rfl]
 kernel_rfl
theorem qwy:qe Gc Tryz.prog 114 s_z114:=by
 refine sQ (E:=qko) (c:=qsR) rfl (fun w S hg=>(qb (qww w S hg) qc)) Tryz.func114 ?_
 intro avs r h
 unfold s_z114 at h
 split at h
 ·obtain ⟨hp,rfl⟩:=Prod.mk.inj h
  obtain ⟨n,hn⟩:=qDv _ _ _ _ hp
  exact ⟨n,_,(qLA n _ _ _ _ _ _ _ _).trans hn,.inl rfl⟩
 ·cases h
def qnW:EnvP:=eQ [(114,s_z114)] 28 (some [28,29,30,31,32]) (fun x=>if x=0 then some [0,1,2,3,4,28,29,30,31,32] else none) (fun x=>if x=0 then some [28,29,30,31,32] else if x=1 then some [0,1,2,3,4,28,29,30,31,32] else none) nP
def qwz:Code:=cO Tryz.f113
def qLB:Array ResultVar:=Tryz.f113.results
def qkq (V:Sigma Inv) (x0:Den V.1) (x1:List Int) (x2:Int) (x3:Int) (x4:Int):Ex→Fr→Option AV:=qo 0 (qnW.cutb 0) (kFnM qnW qLB [.abs V.1 V.2 x0,.pbox (.leaf (.sl (.int .i32))) x1 none,.pbox (.leaf (.int .i64)) x2 none,.pbox (.leaf (.int .i64)) x3 none,.pbox (.leaf (.int .i64)) x4 none])
def qnX (V:Sigma Inv) (xv:Den V.1) (s29:List Int) (s30:Int) (s31:Int) (s32:Int):Fr:=frOf [(0,(.padr 28 [])),(1,(.padr 29 [])),(2,(.padr 30 [])),(3,(.padr 31 [])),(4,(.padr 32 [])),(28,(.abs V.1 V.2 xv)),(29,(.pbox (.leaf (.sl (.int .i32))) s29 none)),(30,(.pbox (.leaf (.int .i64)) s30 none)),(31,(.pbox (.leaf (.int .i64)) s31 none)),(32,(.pbox (.leaf (.int .i64)) s32 none))]
def qbb (V:Sigma Inv) (xv:Den V.1) (s29:List Int) (s30:Int) (s31:Int) (s32:Int):Fr:=frOf [(28,(.abs V.1 V.2 xv)),(29,(.pbox (.leaf (.sl (.int .i32))) s29 none)),(30,(.pbox (.leaf (.int .i64)) s30 none)),(31,(.pbox (.leaf (.int .i64)) s31 none)),(32,(.pbox (.leaf (.int .i64)) s32 none))]
theorem qwA (V:Sigma Inv) (K:Ex→Fr→Option AV):∀ (n:Nat) (xv:Den V.1) (s29:List Int) (s30:Int) (s31:Int) (s32:Int),evLP qnW n (sub qwz [0,0]) K (qnX V xv s29 s30 s31 s32)=(qhD V) (fun xv s29 s30 s31 s32=>K .ret (qbb V xv s29 s30 s31 s32)) (fun xv s29 s30 s31 s32=>K (.exit 0) (qbb V xv s29 s30 s31 s32)) n xv s29 s30 s31 s32:=by
 intro n
 induction n with
 | zero=>intros; rfl
 | succ n IH =>
 intro xv s29 s30 s31 s32
 have ih:(fun xv s29 s30 s31 s32=>evLP qnW n (sub qwz [0,0]) K (qnX V xv s29 s30 s31 s32))=(qhD V) (fun xv s29 s30 s31 s32=>K .ret (qbb V xv s29 s30 s31 s32)) (fun xv s29 s30 s31 s32=>K (.exit 0) (qbb V xv s29 s30 s31 s32)) n:=by
  funext xv s29 s30 s31 s32
  exact IH xv s29 s30 s31 s32
 show _=(qfO V) (fun xv s29 s30 s31 s32=>K .ret (qbb V xv s29 s30 s31 s32)) (fun xv s29 s30 s31 s32=>K (.exit 0) (qbb V xv s29 s30 s31 s32)) ((qhD V) (fun xv s29 s30 s31 s32=>K .ret (qbb V xv s29 s30 s31 s32)) (fun xv s29 s30 s31 s32=>K (.exit 0) (qbb V xv s29 s30 s31 s32)) n) n xv s29 s30 s31 s32
 rw [← ih]
 kernel_rfl
theorem qnY (V:Sigma Inv) (x0:Den V.1) (x1:List Int) (x2:Int) (x3:Int) (x4:Int) (n:Nat) (xv:Den V.1) (s29:List Int) (s30:Int) (s31:Int) (s32:Int):(qkq V x0 x1 x2 x3 x4) (.exit 0) (qbb V xv s29 s30 s31 s32)=(qeh V) n xv s29 s30 s31 s32:=by
 kernel_rfl
theorem qLC (V:Sigma Inv) (n:Nat) (x0:Den V.1) (x1:List Int) (x2:Int) (x3:Int) (x4:Int):evFnM qnW n qwz qLB [.abs V.1 V.2 x0,.pbox (.leaf (.sl (.int .i32))) x1 none,.pbox (.leaf (.int .i64)) x2 none,.pbox (.leaf (.int .i64)) x3 none,.pbox (.leaf (.int .i64)) x4 none]=(qyh V) n x0 x1 x2 x3 x4:=by
 unfold qyh
 rw [show (qhD V) (qeV V) ((qeh V) n) n=(fun xv s29 s30 s31 s32=>evLP qnW n (sub qwz [0,0]) (qkq V x0 x1 x2 x3 x4) (qnX V xv s29 s30 s31 s32)) from by
  funext xv s29 s30 s31 s32
  refine Eq.trans ?_ ((qwA V) (qkq V x0 x1 x2 x3 x4) n xv s29 s30 s31 s32).symm
  rw [show (fun xv s29 s30 s31 s32=>(qkq V x0 x1 x2 x3 x4) (.exit 0) (qbb V xv s29 s30 s31 s32))=((qeh V) n) from by
   funext xv s29 s30 s31 s32
   exact (qnY V) x0 x1 x2 x3 x4 n xv s29 s30 s31 s32]
  all_goals kernel_rfl]
 kernel_rfl
theorem qsS:qFi Gc Tryz.prog 113 s_z113:=by
 refine qmI qbc (E:=qnW) (fn:=Tryz.f113) (c:=qwz) (qw rfl qhU) (fun w S hg=>⟨⟨(qb (qwy w S hg) qc),fun f sp h=>qdr f sp h w S⟩,qbr w S hg,(fun _ _ h=>by cases h),(fun f sp h=>qoV f sp h),(fun f it h=>qoW f it h),(fun t kt vt h=>qfe t kt vt h)⟩) follows Tryz.func113 (by kernel_rfl) (by kernel_rfl) (by kernel_rfl) ?_
 intro avs r h
 unfold s_z113 at h
 split at h
 ·rename_i s V x _ _ _ _
  simp only [Prod.mk.injEq] at h
  obtain ⟨hp,rfl⟩:=h
  obtain ⟨n,hn⟩:=qBt ⟨s,V⟩ _ _ _ _ _ hp
  exact ⟨n,(qLC ⟨s,V⟩ n _ _ _ _ _).trans hn⟩
 ·cases h
theorem qwB:qIn Gc Tryz.prog 113 qEf:=qrN qsS (enters_of Tryz.func113 (by kernel_rfl) rfl) (fun s V x x' y h=>by
 obtain ⟨h1,h2⟩:=Prod.mk.inj h
 subst h2
 refine ⟨_,_,Prod.ext h1 rfl⟩)
end
end Go.Av
