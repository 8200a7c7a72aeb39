import Derived.Test.YtopepdfipgfakaaGreatDoorCuEvC
import Derived.Test.YtopepdfipgfakaaGreatDoorCuC
import Derived.Test.YtopepdfipgfakaaGreatDoorProg
import Derived.KernelRfl
namespace Go.Av
set_option linter.unusedSimpArgs false
noncomputable section
open Go.Proofs
set_option maxRecDepth 100000
set_option linter.unusedVariables false
def E_z87:EnvP:=eQ [] 10 (some [2]) nC nC nP
def C_z87:Code:=cO Tryz.f87
def R_z87:Array ResultVar:=Tryz.f87.results
theorem qJK (n:Nat) (n0:Int) (o0:Lab):evFnP E_z87 n C_z87 R_z87 [.dat (.int .i64) n0 o0]=qCB n n0:=by
 kernel_rfl
theorem qxv:qe Gc Tryz.prog 87 s_z87:=by
 refine sQ (E:=E_z87) (c:=C_z87) rfl (fun w S hg=>qc) Tryz.func87 ?_
 intro avs r h
 unfold s_z87 at h
 split at h <;> cases h
 obtain ⟨n,hn⟩:=qDm _
 exact ⟨n,_,(qJK n _ _).trans hn,.inl rfl⟩
def qnO:EnvP:=eQ [(87,s_z87)] 18 (some [4,5]) nC (fun x=>if x=0 then some [] else none) nP
def qnP:Code:=cO Tryz.f154
def qxw:Array ResultVar:=Tryz.f154.results
theorem qtl (n:Nat) (s1:List UInt8) (o0:Lab):evFnP qnO n qnP qxw [.iface 178 (.dat .unit () none),.dat (.sl .byte) s1 o0]=qkB n s1:=by
 kernel_rfl
def qnQ:EnvP:=eQ [(83,s_z83)] 18 (some [4,5]) nC (fun x=>if x=0 then some [] else none) nP
def qnR:Code:=cO Tryz.f154
def qxx:Array ResultVar:=Tryz.f154.results
theorem qtm (n:Nat) (s1:List UInt8) (o0:Lab):evFnP qnQ n qnR qxx [.iface 179 (.dat .unit () none),.dat (.sl .byte) s1 o0]=qgn n s1:=by
 kernel_rfl
def qnS:EnvP:=eQ [] 18 (some [4,5]) nC (fun x=>if x=0 then some [] else none) nP
def qnT:Code:=cO Tryz.f154
def qxy:Array ResultVar:=Tryz.f154.results
theorem qtn (n:Nat) (s1:List UInt8) (o0:Lab):evFnP qnS n qnT qxy [.nilIface,.dat (.sl .byte) s1 o0]=qkC n s1:=by
 kernel_rfl
theorem qto:qe Gc Tryz.prog 154 s_z154:=fun w S hg=>by
 have h0:qe Gc Tryz.prog 154 s_z154_v0:=by
  refine qM qaM (E:=qnO) (fn:=Tryz.f154) (c:=qnP) (qw rfl qgQ) (fun w S hg=>⟨⟨(qb (qxv w S hg) qc),fun f sp h=>qcH f sp h w S⟩,qaZ w S hg,(fun _ _ h=>by cases h),(fun _ _ h=>by cases h),(fun _ _ h=>by cases h),(fun t kt vt h=>qer t kt vt h)⟩) follows Tryz.func154 (by kernel_rfl) (by kernel_rfl) (by kernel_rfl) ?_
  intro avs r h
  unfold s_z154_v0 at h
  split at h
  ·simp only [Prod.mk.injEq,true_and] at h
   subst h
   obtain ⟨n,hn⟩:=qmP _
   exact ⟨n,_,(qtl n _ _).trans hn,.inl rfl⟩
  ·cases h
 have h1:qe Gc Tryz.prog 154 s_z154_v1:=by
  refine qM qaM (E:=qnQ) (fn:=Tryz.f154) (c:=qnR) (qw rfl qgQ) (fun w S hg=>⟨⟨(qb (qnN w S hg) qc),fun f sp h=>qcH f sp h w S⟩,qaZ w S hg,(fun _ _ h=>by cases h),(fun _ _ h=>by cases h),(fun _ _ h=>by cases h),(fun t kt vt h=>qer t kt vt h)⟩) follows Tryz.func154 (by kernel_rfl) (by kernel_rfl) (by kernel_rfl) ?_
  intro avs r h
  unfold s_z154_v1 at h
  split at h
  ·simp only [Prod.mk.injEq] at h
   obtain ⟨hp,rfl⟩:=h
   obtain ⟨n,hn⟩:=qmQ _ hp
   exact ⟨n,_,(qtm n _ _).trans hn,.inl rfl⟩
  ·cases h
 have h2:qe Gc Tryz.prog 154 s_z154_v2:=by
  refine qM qaM (E:=qnS) (fn:=Tryz.f154) (c:=qnT) (qw rfl qgQ) (fun w S hg=>⟨⟨qc,fun f sp h=>qcH f sp h w S⟩,qaZ w S hg,(fun _ _ h=>by cases h),(fun _ _ h=>by cases h),(fun _ _ h=>by cases h),(fun t kt vt h=>qer t kt vt h)⟩) follows Tryz.func154 (by kernel_rfl) (by kernel_rfl) (by kernel_rfl) ?_
  intro avs r h
  unfold s_z154_v2 at h
  split at h
  ·simp only [Prod.mk.injEq,true_and] at h
   subst h
   obtain ⟨n,hn⟩:=qmR _
   exact ⟨n,_,(qtn n _ _).trans hn,.inl rfl⟩
  ·cases h
 intro vals avs r h hS ha
 unfold s_z154 at h
 split at h
 ·exact h0 w S hg vals _ r (by simp only [Prod.mk.injEq] at h; exact congrArg _ h.2) hS ha
 ·exact h1 w S hg vals _ r (by exact h) hS ha
 ·exact h2 w S hg vals _ r (by exact h) hS ha
 ·cases h
def qGx:EnvP:=eQ [] 3 (some [2]) nC nC nP
def qGy:Code:=cO Tryz.f194
def qJL:Array ResultVar:=Tryz.f194.results
theorem qGz (n:Nat) (x0:Unit) (o0:Lab):evFnP qGx n qGy qJL [.dat .unit x0 o0]=qAX n x0:=by
 kernel_rfl
theorem qtp:qe Gc Tryz.prog 194 s_z194:=by
 refine sQ (E:=qGx) (c:=qGy) rfl (fun w S hg=>qc) Tryz.func194 ?_
 intro avs r h
 unfold s_z194 at h
 split at h <;> cases h
 obtain ⟨n,hn⟩:=qAd _
 exact ⟨n,_,(qGz n _ _).trans hn,.inl rfl⟩
def qGA:EnvP:=eQ [] 3 (some [2]) nC nC nP
def qGB:Code:=cO Tryz.f195
def qJM:Array ResultVar:=Tryz.f195.results
theorem qGC (n:Nat) (x0:Unit) (o0:Lab):evFnP qGA n qGB qJM [.dat .unit x0 o0]=qAY n x0:=by
 kernel_rfl
theorem qtq:qe Gc Tryz.prog 195 s_z195:=by
 refine sQ (E:=qGA) (c:=qGB) rfl (fun w S hg=>qc) Tryz.func195 ?_
 intro avs r h
 unfold s_z195 at h
 split at h <;> cases h
 obtain ⟨n,hn⟩:=qAe _
 exact ⟨n,_,(qGC n _ _).trans hn,.inl rfl⟩
def qGD:EnvP:=eQ [(194,s_z194),(195,s_z195)] 16 (some [2]) nC (fun x=>if x=0 then some [] else none) nP
def qGE:Code:=cO Tryz.f155
def qJN:Array ResultVar:=Tryz.f155.results
theorem qGF (n:Nat) (code0:Int) (o0:Lab):evFnP qGD n qGE qJN [.dat (.int .i64) code0 o0]=qAZ n code0:=by
 kernel_rfl
theorem qtr:qe Gc Tryz.prog 155 s_z155:=by
 refine qfg qaM (E:=qGD) (fn:=Tryz.f155) (c:=qGE) (qw rfl qgQ) (fun w S hg=>⟨⟨(qb (qtp w S hg) (qb (qtq w S hg) qc)),fun f sp h=>qcH f sp h w S⟩,qaZ w S hg,(fun _ _ h=>by cases h),(fun _ _ h=>by cases h),(fun _ _ h=>by cases h),(fun _ _ _ h=>by cases h)⟩) follows Tryz.func155 (by kernel_rfl) (by kernel_rfl) (by kernel_rfl) ?_
 intro avs r h
 unfold s_z155 at h
 split at h <;> cases h
 obtain ⟨n,r,hn,hp⟩:=qAc _
 exact ⟨n,r,(qGF n _ _).trans hn,hp⟩
def qGG:EnvP:=eQ [(120,s_z120),(154,s_z154),(155,s_z155)] 36 (some [6,7]) nC (fun x=>if x=0 then some [10] else none) nP
def qGH:Code:=cO Tryz.f112
def qJO:Array ResultVar:=Tryz.f112.results
theorem qGI (n:Nat) (charset0:Int) (o0:Lab) (code1:Int) (o1:Lab) (t2:List Int) (o2:Lab):evFnP qGG n qGH qJO [.dat (.int .i64) charset0 o0,.dat (.int .i64) code1 o1,.dat (.sl (.int .i32)) t2 o2]=qve n charset0 code1 t2:=by
 kernel_rfl
theorem qfR:qe Gc Tryz.prog 112 s_z112:=by
 refine sQ (E:=qGG) (c:=qGH) rfl (fun w S hg=>(qb (qkc w S hg) (qb (qto w S hg) (qb (qtr w S hg) qc)))) Tryz.func112 ?_
 intro avs r h
 unfold s_z112 at h
 split at h
 ·obtain ⟨hp,rfl⟩:=Prod.mk.inj h
  obtain ⟨n,hn⟩:=qAf _ _ _ hp
  exact ⟨n,_,(qGI n _ _ _ _ _ _).trans hn,.inl rfl⟩
 ·cases h
def E_z66:EnvP:=eQ [(17,s_z17),(112,s_z112)] 24 (some [6,7]) nC nC nP
def C_z66:Code:=cO Tryz.f66
def R_z66:Array ResultVar:=Tryz.f66.results
theorem qJP (n:Nat) (charset0:Int) (o0:Lab) (code1:Int) (o1:Lab) (t2:List Int) (o2:Lab):evFnP E_z66 n C_z66 R_z66 [.dat (.int .i64) charset0 o0,.dat (.int .i64) code1 o1,.dat (.sl (.int .i32)) t2 o2]=qCC n charset0 code1 t2:=by
 kernel_rfl
theorem qnU:qe Gc Tryz.prog 66 s_z66:=by
 refine sQ (E:=E_z66) (c:=C_z66) rfl (fun w S hg=>(qb (qxt w S hg) (qb (qfR w S hg) qc))) Tryz.func66 ?_
 intro avs r h
 unfold s_z66 at h
 split at h
 ·obtain ⟨hp,rfl⟩:=Prod.mk.inj h
  obtain ⟨n,hn⟩:=qDB _ _ _ hp
  exact ⟨n,_,(qJP n _ _ _ _ _ _).trans hn,.inl rfl⟩
 ·cases h
def qGJ:EnvP:=eQ [(66,s_z66)] 31 (some [8]) nC nC nP
def qGK:Code:=cO Tryz.f156
def qJQ:Array ResultVar:=Tryz.f156.results
theorem qGL (n:Nat) (charset0:Int) (o0:Lab) (code1:Int) (o1:Lab) (t2:List Int) (o2:Lab) (room3:Int) (o3:Lab):evFnP qGJ n qGK qJQ [.dat (.int .i64) charset0 o0,.dat (.int .i64) code1 o1,.dat (.sl (.int .i32)) t2 o2,.dat (.int .i64) room3 o3]=qvg n charset0 code1 t2 room3:=by
 kernel_rfl
theorem qts:qe Gc Tryz.prog 156 s_z156:=by
 refine sQ (E:=qGJ) (c:=qGK) rfl (fun w S hg=>(qb (qnU w S hg) qc)) Tryz.func156 ?_
 intro avs r h
 unfold s_z156 at h
 split at h
 ·obtain ⟨hp,rfl⟩:=Prod.mk.inj h
  obtain ⟨n,hn⟩:=qAi _ _ _ _ hp
  exact ⟨n,_,(qGL n _ _ _ _ _ _ _ _).trans hn,.inl rfl⟩
 ·cases h
def qix:EnvP:=eQ [(156,s_z156)] 27 (some [8]) (fun x=>if x=2 then some [0,1,2,3,9] else none) (fun x=>if x=0 then some [9] else if x=1 then some [0,1,2,3,9] else none) nP
def qqt:Code:=cO Tryz.f114
def qGM:Array ResultVar:=Tryz.f114.results
noncomputable def qfS (K:Ex→Fr→Option AV):=fun many9=>K (.exit 0) (frOf [(9,(.dat (.int .i64) many9 none))])
def qiy (n:Nat):Ex→Fr→Option AV:=qm 0 (qix.cutb 0) (kSeq (evCP qix (evLP qix n) (sub qqt [1,1,1])) (kFnP qix qGM))
def qlS (charset0:Int) (code1:Int) (t2:List Int) (room3:Int) (many9:Int):Fr:=frOf [(0,(.dat (.int .i64) charset0 none)),(1,(.dat (.int .i64) code1 none)),(2,(.dat (.sl (.int .i32)) t2 none)),(3,(.dat (.int .i64) room3 none)),(9,(.dat (.int .i64) many9 none))]
theorem qtt (K:Ex→Fr→Option AV):∀ (n:Nat) (charset0:Int) (code1:Int) (t2:List Int) (room3:Int) (many9:Int),evLP qix n (sub qqt [1,1,0,0,0]) K (qlS charset0 code1 t2 room3 many9)=qgo (qfS K) n charset0 code1 t2 room3 many9:=by
 intro n
 induction n with
 | zero=>intros; rfl
 | succ n IH =>
 intro charset0 code1 t2 room3 many9
 have ih:(fun charset0 code1 t2 room3 many9=>evLP qix n (sub qqt [1,1,0,0,0]) K (qlS charset0 code1 t2 room3 many9))=qgo (qfS K) n:=by
  funext charset0 code1 t2 room3 many9
  exact IH charset0 code1 t2 room3 many9
 show _=qbZ (qfS K) (qgo (qfS K) n) n charset0 code1 t2 room3 many9
 rw [← ih]
 kernel_rfl
theorem qlT (n:Nat) (many9:Int):(qiy n) (.exit 0) (frOf [(9,(.dat (.int .i64) many9 none))])=qdn n many9:=by
 kernel_rfl
theorem qGN (n:Nat) (charset0:Int) (o0:Lab) (code1:Int) (o1:Lab) (t2:List Int) (o2:Lab) (room3:Int) (o3:Lab):evFnP qix n qqt qGM [.dat (.int .i64) charset0 o0,.dat (.int .i64) code1 o1,.dat (.sl (.int .i32)) t2 o2,.dat (.int .i64) room3 o3]=qoO n charset0 code1 t2 room3:=by
 unfold qoO
 rw [show qgo (qdn n) n=(fun charset0 code1 t2 room3 many9=>evLP qix n (sub qqt [1,1,0,0,0]) (qiy n) (qlS charset0 code1 t2 room3 many9)) from by
  funext charset0 code1 t2 room3 many9
  refine Eq.trans ?_ (qtt (qiy n) n charset0 code1 t2 room3 many9).symm
  rw [show (qfS (qiy n))=(qdn n) from by
   funext many9
   exact qlT n many9]
  all_goals kernel_rfl]
 kernel_rfl
theorem qtu:qe Gc Tryz.prog 114 s_z114:=by
 refine sQ (E:=qix) (c:=qqt) rfl (fun w S hg=>(qb (qts w S hg) qc)) Tryz.func114 ?_
 intro avs r h
 unfold s_z114 at h
 split at h
 ·obtain ⟨hp,rfl⟩:=Prod.mk.inj h
  obtain ⟨n,hn⟩:=qAj _ _ _ _ hp
  exact ⟨n,_,(qGN n _ _ _ _ _ _ _ _).trans hn,.inl rfl⟩
 ·cases h
def qlU:EnvP:=eQ [(114,s_z114)] 28 (some [28,29,30,31,32]) (fun x=>if x=0 then some [0,1,2,3,4,28,29,30,31,32] else none) (fun x=>if x=0 then some [28,29,30,31,32] else if x=1 then some [0,1,2,3,4,28,29,30,31,32] else none) nP
def qtv:Code:=cO Tryz.f113
def qGO:Array ResultVar:=Tryz.f113.results
def qiz (V:Sigma Inv) (x0:Den V.1) (x1:List Int) (x2:Int) (x3:Int) (x4:Int):Ex→Fr→Option AV:=qm 0 (qlU.cutb 0) (kFnM qlU qGO [.abs V.1 V.2 x0,.pbox (.leaf (.sl (.int .i32))) x1 none,.pbox (.leaf (.int .i64)) x2 none,.pbox (.leaf (.int .i64)) x3 none,.pbox (.leaf (.int .i64)) x4 none])
def qlV (V:Sigma Inv) (xv:Den V.1) (s29:List Int) (s30:Int) (s31:Int) (s32:Int):Fr:=frOf [(0,(.padr 28 [])),(1,(.padr 29 [])),(2,(.padr 30 [])),(3,(.padr 31 [])),(4,(.padr 32 [])),(28,(.abs V.1 V.2 xv)),(29,(.pbox (.leaf (.sl (.int .i32))) s29 none)),(30,(.pbox (.leaf (.int .i64)) s30 none)),(31,(.pbox (.leaf (.int .i64)) s31 none)),(32,(.pbox (.leaf (.int .i64)) s32 none))]
def qaK (V:Sigma Inv) (xv:Den V.1) (s29:List Int) (s30:Int) (s31:Int) (s32:Int):Fr:=frOf [(28,(.abs V.1 V.2 xv)),(29,(.pbox (.leaf (.sl (.int .i32))) s29 none)),(30,(.pbox (.leaf (.int .i64)) s30 none)),(31,(.pbox (.leaf (.int .i64)) s31 none)),(32,(.pbox (.leaf (.int .i64)) s32 none))]
theorem qtw (V:Sigma Inv) (K:Ex→Fr→Option AV):∀ (n:Nat) (xv:Den V.1) (s29:List Int) (s30:Int) (s31:Int) (s32:Int),evLP qlU n (sub qtv [0,0]) K (qlV V xv s29 s30 s31 s32)=(qgp V) (fun xv s29 s30 s31 s32=>K .ret (qaK V xv s29 s30 s31 s32)) (fun xv s29 s30 s31 s32=>K (.exit 0) (qaK V xv s29 s30 s31 s32)) n xv s29 s30 s31 s32:=by
 intro n
 induction n with
 | zero=>intros; rfl
 | succ n IH =>
 intro xv s29 s30 s31 s32
 have ih:(fun xv s29 s30 s31 s32=>evLP qlU n (sub qtv [0,0]) K (qlV V xv s29 s30 s31 s32))=(qgp V) (fun xv s29 s30 s31 s32=>K .ret (qaK V xv s29 s30 s31 s32)) (fun xv s29 s30 s31 s32=>K (.exit 0) (qaK V xv s29 s30 s31 s32)) n:=by
  funext xv s29 s30 s31 s32
  exact IH xv s29 s30 s31 s32
 show _=(qeW V) (fun xv s29 s30 s31 s32=>K .ret (qaK V xv s29 s30 s31 s32)) (fun xv s29 s30 s31 s32=>K (.exit 0) (qaK V xv s29 s30 s31 s32)) ((qgp V) (fun xv s29 s30 s31 s32=>K .ret (qaK V xv s29 s30 s31 s32)) (fun xv s29 s30 s31 s32=>K (.exit 0) (qaK V xv s29 s30 s31 s32)) n) n xv s29 s30 s31 s32
 rw [← ih]
 kernel_rfl
theorem qlW (V:Sigma Inv) (x0:Den V.1) (x1:List Int) (x2:Int) (x3:Int) (x4:Int) (n:Nat) (xv:Den V.1) (s29:List Int) (s30:Int) (s31:Int) (s32:Int):(qiz V x0 x1 x2 x3 x4) (.exit 0) (qaK V xv s29 s30 s31 s32)=(qdo V) n xv s29 s30 s31 s32:=by
 kernel_rfl
theorem qGP (V:Sigma Inv) (n:Nat) (x0:Den V.1) (x1:List Int) (x2:Int) (x3:Int) (x4:Int):evFnM qlU n qtv qGO [.abs V.1 V.2 x0,.pbox (.leaf (.sl (.int .i32))) x1 none,.pbox (.leaf (.int .i64)) x2 none,.pbox (.leaf (.int .i64)) x3 none,.pbox (.leaf (.int .i64)) x4 none]=(qvi V) n x0 x1 x2 x3 x4:=by
 unfold qvi
 rw [show (qgp V) (qdZ V) ((qdo V) n) n=(fun xv s29 s30 s31 s32=>evLP qlU n (sub qtv [0,0]) (qiz V x0 x1 x2 x3 x4) (qlV V xv s29 s30 s31 s32)) from by
  funext xv s29 s30 s31 s32
  refine Eq.trans ?_ ((qtw V) (qiz V x0 x1 x2 x3 x4) n xv s29 s30 s31 s32).symm
  rw [show (fun xv s29 s30 s31 s32=>(qiz V x0 x1 x2 x3 x4) (.exit 0) (qaK V xv s29 s30 s31 s32))=((qdo V) n) from by
   funext xv s29 s30 s31 s32
   exact (qlW V) x0 x1 x2 x3 x4 n xv s29 s30 s31 s32]
  all_goals kernel_rfl]
 kernel_rfl
theorem qqu:qBJ Gc Tryz.prog 113 s_z113:=by
 refine qld qaM (E:=qlU) (fn:=Tryz.f113) (c:=qtv) (qw rfl qgQ) (fun w S hg=>⟨⟨(qb (qtu w S hg) qc),fun f sp h=>qcH f sp h w S⟩,qaZ w S hg,(fun _ _ h=>by cases h),(fun f sp h=>qmX f sp h),(fun f it h=>qmY f it h),(fun t kt vt h=>qer t kt vt h)⟩) follows Tryz.func113 (by kernel_rfl) (by kernel_rfl) (by kernel_rfl) ?_
 intro avs r h
 unfold s_z113 at h
 split at h
 ·rename_i s V x _ _ _ _
  simp only [Prod.mk.injEq] at h
  obtain ⟨hp,rfl⟩:=h
  obtain ⟨n,hn⟩:=qyz ⟨s,V⟩ _ _ _ _ _ hp
  exact ⟨n,(qGP ⟨s,V⟩ n _ _ _ _ _).trans hn⟩
 ·cases h
theorem qtx:qEp Gc Tryz.prog 113 qAJ:=qpE qqu (enters_of Tryz.func113 (by kernel_rfl) rfl) (fun s V x x' y h=>by
 obtain ⟨h1,h2⟩:=Prod.mk.inj h
 subst h2
 refine ⟨_,_,Prod.ext h1 rfl⟩)
theorem qxz:qIV Gc Tryz.prog 67 s_z67:=fun w S hg vals avs s V x h hS ha=>by
 unfold s_z67 at h
 split at h
 ·cases h
  exact qwi hS ha
 ·cases h
def E_z28:EnvP:=⟨⟨tiOf tis,fnsOf [(66,s_z66),(68,s_z68)],cnsOf [],[],39,(fun x=>if x=2000007 then some [8,9,12] else none),(fun x=>if x=0 then some [8,9,12] else if x=1 then some [1047,1048,1051] else none),some [8,9,1047,1048,1051]⟩,(fun x=>if x=8 then some (.leaf (.sl (.sl (.int .i32)))) else if x=9 then some (.leaf (.int .i64)) else if x=12 then some (.osl 40 (.sl (.int .i32))) else if x=33 then some (.osl 40 (.sl (.int .i32))) else if x=37 then some (.osl 40 (.sl (.int .i32))) else none),fun _=>none,fun _=>[],fun _=>none,(fun x=>if x=67 then some s_z67 else none),(fun x=>if x=113 then some qAJ else none),fun _=>none⟩
def C_z28:Code:=cO Tryz.f28
def R_z28:Array ResultVar:=Tryz.f28.results
theorem qJR (n:Nat) (charset0:Int) (o0:Lab) (code1:Int) (o1:Lab) (t2:List Int) (o2:Lab) (first3:Int) (o3:Lab):evFnP E_z28 n C_z28 R_z28 [.dat (.int .i64) charset0 o0,.dat (.int .i64) code1 o1,.dat (.sl (.int .i32)) t2 o2,.dat (.int .i64) first3 o3]=qCD n charset0 code1 t2 first3:=by
 kernel_rfl
theorem qnV:qe Gc Tryz.prog 28 s_z28:=by
 refine qM qaM (E:=E_z28) (fn:=Tryz.f28) (c:=C_z28) (qw rfl qgQ) (fun w S hg=>⟨⟨(qb (qnU w S hg) (qb (qxp w S hg) qc)),fun f sp h=>qcH f sp h w S⟩,qaZ w S hg,(fun _ _ h=>by cases h),(fun f sp h=>(qBo (qxz w S hg) qmX) f sp h),(fun f it h=>(qBp (qtx w S hg) qmY) f it h),(fun t kt vt h=>qer t kt vt h)⟩) follows Tryz.func28 (by kernel_rfl) (by kernel_rfl) (by kernel_rfl) ?_
 intro avs r h
 unfold s_z28 at h
 split at h
 ·obtain ⟨hp,rfl⟩:=Prod.mk.inj h
  obtain ⟨n,hn⟩:=qCk _ _ _ _ hp
  exact ⟨n,_,(qJR n _ _ _ _ _ _ _ _).trans hn,.inl rfl⟩
 ·cases h
def qiA:EnvP:=eQ [(157,s_z157)] 19 (some [2]) (fun x=>if x=3 then some [0,3,5] else none) (fun x=>if x=0 then some [3] else if x=1 then some [0,3,5] else none) nP
def qqv:Code:=cO Tryz.f116
def qGQ:Array ResultVar:=Tryz.f116.results
noncomputable def qfT (K:Ex→Fr→Option AV):=fun s3=>K (.exit 0) (frOf [(3,(.dat (.int .i64) s3 none))])
def qiB (n:Nat):Ex→Fr→Option AV:=qm 0 (qiA.cutb 0) (kSeq (evCP qiA (evLP qiA n) (sub qqv [1,1,1])) (kFnP qiA qGQ))
def qlX (c0:Int) (s3:Int) (s5:Int):Fr:=frOf [(0,(.dat (.int .i32) c0 none)),(3,(.dat (.int .i64) s3 none)),(5,(.dat (.int .i64) s5 none))]
theorem qty (K:Ex→Fr→Option AV):∀ (n:Nat) (c0:Int) (s3:Int) (s5:Int),evLP qiA n (sub qqv [1,1,0,1,0,0]) K (qlX c0 s3 s5)=qdp (qfT K) n c0 s3 s5:=by
 intro n
 induction n with
 | zero=>intros; rfl
 | succ n IH =>
 intro c0 s3 s5
 have ih:(fun c0 s3 s5=>evLP qiA n (sub qqv [1,1,0,1,0,0]) K (qlX c0 s3 s5))=qdp (qfT K) n:=by
  funext c0 s3 s5
  exact IH c0 s3 s5
 show _=qca (qfT K) (qdp (qfT K) n) n c0 s3 s5
 rw [← ih]
 kernel_rfl
theorem qlY (n:Nat) (s3:Int):(qiB n) (.exit 0) (frOf [(3,(.dat (.int .i64) s3 none))])=qba n s3:=by
 kernel_rfl
theorem qGR (n:Nat) (c0:Int) (o0:Lab):evFnP qiA n qqv qGQ [.dat (.int .i32) c0 o0]=qoQ n c0:=by
 unfold qoQ
 rw [show qdp (qba n) n=(fun c0 s3 s5=>evLP qiA n (sub qqv [1,1,0,1,0,0]) (qiB n) (qlX c0 s3 s5)) from by
  funext c0 s3 s5
  refine Eq.trans ?_ (qty (qiB n) n c0 s3 s5).symm
  rw [show (qfT (qiB n))=(qba n) from by
   funext s3
   exact qlY n s3]
  all_goals kernel_rfl]
 kernel_rfl
theorem qtz:qe Gc Tryz.prog 116 s_z116:=by
 refine sQ (E:=qiA) (c:=qqv) rfl (fun w S hg=>(qb (qkb w S hg) qc)) Tryz.func116 ?_
 intro avs r h
 unfold s_z116 at h
 split at h <;> cases h
 obtain ⟨n,hn⟩:=qyx _
 exact ⟨n,_,(qGR n _ _).trans hn,.inl rfl⟩
end
end Go.Av
