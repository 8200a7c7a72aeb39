import Derived.Test.YtmdadpepccbpcaaGreatDoorPoEvG
import Derived.Test.YtmdadpepccbpcaaGreatDoorPoD
import Derived.Test.YtmdadpepccbpcaaGreatDoorAvE
import Derived.Test.YtmdadpepccbpcaaGreatDoorProg
import Derived.KernelRfl
namespace Go.Av
set_option linter.unusedSimpArgs false
set_option linter.unusedVariables false
section
noncomputable section
open Go.Proofs
set_option maxRecDepth 100000
set_option linter.unusedVariables false
def qLn:EnvP:=eQ [(189,s_z189)] 20 (some [6]) nC nC nP
def qLo:Code:=cO Tryz.f137
def qOf:Array ResultVar:=Tryz.f137.results
theorem qLp (n:Nat) (b0:LU) (o0:Lab) (sign1:UInt8) (o1:Lab) (c2:UInt8) (o2:Lab):evFnP qLn n qLo qOf [db b0 o0,dn sign1 o1,dn c2 o2]=qyn n b0 sign1 c2:=by
 kernel_rfl
theorem qwH:qe G Tryz.prog 137 s_z137:=by
 refine sQ (E:=qLn) (c:=qLo) rfl (fun w S hg=>(qa (qwG w S hg) qc)) Tryz.func137 ?_;intro avs r h;unfold s_z137 at h;split at h
 ·obtain ⟨hp,rfl⟩:=yj h;obtain ⟨n,hn⟩:=qCc _ _ _ hp;exact ⟨n,_,(qLp n _ _ _ _ _ _).trans hn,.inl rfl⟩
 ·cases h
def E_z73:EnvP:=eQ [(136,s_z136),(137,s_z137)] 23 (some [4]) nC nC nP
def C_z73:Code:=cO Tryz.f73
def R_z73:Array ResultVar:=Tryz.f73.results
theorem qOg (n:Nat) (c0:UInt8) (o0:Lab) (ends1:Bool) (o1:Lab):evFnP E_z73 n C_z73 R_z73 [dn c0 o0,dh ends1 o1]=qFZ n c0 ends1:=by
 kernel_rfl
theorem qBa:qe G Tryz.prog 73 s_z73:=by
 refine sQ (E:=E_z73) (c:=C_z73) rfl (fun w S hg=>(qa (qwF w S hg) (qa (qwH w S hg) qc))) Tryz.func73 ?_;intro avs r h;unfold s_z73 at h;split at h <;> cases h
 obtain ⟨n,hn⟩:=qGK _ _;exact ⟨n,_,(qOg n _ _ _ _).trans hn,.inl rfl⟩
def E_z33:EnvP:=eQ [(72,s_z72),(73,s_z73)] 65 (some [2]) (fun x=>if x=5 then some [3,4,5,6] else none) (fun x=>if x=0 then some [4,5] else if x=1 then some [3,4,5,6] else none) nP
def C_z33:Code:=cO Tryz.f33
def R_z33:Array ResultVar:=Tryz.f33.results
noncomputable def qmS (K:Ex→Fr→OA):=fun out4 long5=>K (.exit 0) (frOf [(4,(db out4 (some (4,5)))),(5,dc long5)])
def qqL (n:Nat):Ex→Fr→OA:=qo 0 (E_z33.cutb 0) (kSeq (evCP E_z33 (evLP E_z33 n) (sub C_z33 [1,1,1,1,1])) (kFnP E_z33 R_z33))
def qwI (b3:LU) (out4:LU) (long5:Int) (i6:Int):Fr:=frOf [(3,(db b3 (some (3,5)))),(4,(db out4 (some (4,5)))),(5,dc long5),(6,dc i6)]
theorem qBb (K:Ex→Fr→OA):∀ (n:Nat) (b3:LU) (out4:LU) (long5:Int) (i6:Int),evLP E_z33 n (sub C_z33 [1,1,1,1,0,1,0,0]) K (qwI b3 out4 long5 i6)=qln (qmS K) n b3 out4 long5 i6:=by
 intro n;induction n with
 | zero=>intros; rfl
 | succ n IH =>
 intro b3 out4 long5 i6;have ih:(fun b3 out4 long5 i6=>evLP E_z33 n (sub C_z33 [1,1,1,1,0,1,0,0]) K (qwI b3 out4 long5 i6))=qln (qmS K) n:=by
  funext b3 out4 long5 i6;exact IH b3 out4 long5 i6
 show _=qfW (qmS K) (qln (qmS K) n) n b3 out4 long5 i6;rw [← ih];kernel_rfl
theorem qsR (n:Nat) (out4:LU) (long5:Int):(qqL n) (.exit 0) (frOf [(4,(db out4 (some (4,5)))),(5,dc long5)])=qfX n out4 long5:=by
 kernel_rfl
theorem qOh (n:Nat) (s0:LU) (o0:Lab):evFnP E_z33 n C_z33 R_z33 [db s0 o0]=qBP n s0:=by
 unfold qBP;rw [show qln (qfX n) n=(fun b3 out4 long5 i6=>evLP E_z33 n (sub C_z33 [1,1,1,1,0,1,0,0]) (qqL n) (qwI b3 out4 long5 i6)) from by
  funext b3 out4 long5 i6;refine Eq.trans ?_ (qBb (qqL n) n b3 out4 long5 i6).symm;rw [show (qmS (qqL n))=(qfX n) from by
   funext out4 long5;exact qsR n out4 long5]
  all_goals kernel_rfl]
 kernel_rfl
theorem qBc:qe G Tryz.prog 33 s_z33:=by
 refine sQ (E:=E_z33) (c:=C_z33) rfl (fun w S hg=>(qa (qAZ w S hg) (qa (qBa w S hg) qc))) Tryz.func33 ?_;intro avs r h;unfold s_z33 at h;split at h
 ·obtain ⟨hp,rfl⟩:=yj h;obtain ⟨n,hn⟩:=qGQ _ hp;exact ⟨n,_,(qOh n _ _).trans hn,.inl rfl⟩
 ·cases h
def qkV:EnvP:=eQ [] 19 (some [2]) (fun x=>if x=3 then some [0,3,4] else none) (fun x=>if x=0 then some [3] else if x=1 then some [0,3,4] else none) nP
def qsS:Code:=cO Tryz.f151
def qLq:Array ResultVar:=Tryz.f151.results
noncomputable def qhL (K:Ex→Fr→OA):=fun n3=>K (.exit 0) (frOf [(3,dc n3)])
def qkW (n:Nat):Ex→Fr→OA:=qo 0 (qkV.cutb 0) (kSeq (evCP qkV (evLP qkV n) (sub qsS [1,1,1])) (kFnP qkV qLq))
def qoF (l0:LI) (n3:Int) (i4:Int):Fr:=frOf [(0,(.dat (.sl (.int .i64)) l0 none)),(3,dc n3),(4,dc i4)]
theorem qwJ (K:Ex→Fr→OA):∀ (n:Nat) (l0:LI) (n3:Int) (i4:Int),evLP qkV n (sub qsS [1,1,0,1,0,0]) K (qoF l0 n3 i4)=qiC (qhL K) n l0 n3 i4:=by
 intro n;induction n with
 | zero=>intros; rfl
 | succ n IH =>
 intro l0 n3 i4;have ih:(fun l0 n3 i4=>evLP qkV n (sub qsS [1,1,0,1,0,0]) K (qoF l0 n3 i4))=qiC (qhL K) n:=by
  funext l0 n3 i4;exact IH l0 n3 i4
 show _=qdx (qhL K) (qiC (qhL K) n) n l0 n3 i4;rw [← ih];kernel_rfl
theorem qoG (n:Nat) (n3:Int):(qkW n) (.exit 0) (frOf [(3,dc n3)])=qeW n n3:=by
 kernel_rfl
theorem qLr (n:Nat) (l0:LI) (o0:Lab):evFnP qkV n qsS qLq [.dat (.sl (.int .i64)) l0 o0]=qrl n l0:=by
 unfold qrl;rw [show qiC (qeW n) n=(fun l0 n3 i4=>evLP qkV n (sub qsS [1,1,0,1,0,0]) (qkW n) (qoF l0 n3 i4)) from by
  funext l0 n3 i4;refine Eq.trans ?_ (qwJ (qkW n) n l0 n3 i4).symm;rw [show (qhL (qkW n))=(qeW n) from by
   funext n3;exact qoG n n3]
  all_goals kernel_rfl]
 kernel_rfl
theorem qwK:qe G Tryz.prog 151 s_z151:=by
 refine sQ (E:=qkV) (c:=qsS) rfl (fun w S hg=>qc) Tryz.func151 ?_;intro avs r h;unfold s_z151 at h;split at h
 ·obtain ⟨hp,rfl⟩:=yj h;obtain ⟨n,hn⟩:=qCN _ hp;exact ⟨n,_,(qLr n _ _).trans hn,.inl rfl⟩
 ·cases h
def qbV:EnvP:=eQ [] 28 (some [2]) (fun x=>if x=3 then some [0,3,4] else if x=6 then some [0,3,4,5] else none) (fun x=>if x=0 then some [3] else if x=1 then some [0,3,4] else if x=2 then some [0,3,4] else if x=3 then some [0,3,4,5] else none) nP
def qeC:Code:=cO Tryz.f190
def qLs:Array ResultVar:=Tryz.f190.results
def qcQ (s0:LU) (out3:LI) (i4:Int):Fr:=frOf [(0,da s0),(3,(.dat (.sl (.int .i64)) out3 (some (3,3)))),(4,dc i4)]
noncomputable def qhM (K:Ex→Fr→OA):=fun s0 out3 i4=>K (.exit 2) (qcQ s0 out3 i4)
noncomputable def qec (K:Ex→Fr→OA):=fun out3=>K (.exit 0) (frOf [(3,(.dat (.sl (.int .i64)) out3 (some (3,3))))])
def qkX (n:Nat) (K:Ex→Fr→OA):Ex→Fr→OA:=qo 2 (qbV.cutb 2) (qo 1 (qbV.cutb 1) (kSeq (evCP qbV (evLP qbV n) (sub qeC [1,1,0,1,0,0,1,1])) (kSeq (fun K fr=>evLP qbV n (sub qeC [1,1,0,1,0,0]) K (cutFP (qbV.cuts 3) fr)) K)))
def qkY (n:Nat):Ex→Fr→OA:=qo 0 (qbV.cutb 0) (kSeq (evCP qbV (evLP qbV n) (sub qeC [1,1,1])) (kFnP qbV qLs))
def qoH (s0:LU) (out3:LI) (i4:Int) (k5:Int):Fr:=frOf [(0,da s0),(3,(.dat (.sl (.int .i64)) out3 (some (3,3)))),(4,dc i4),(5,dc k5)]
theorem qwL (K:Ex→Fr→OA):∀ (n:Nat) (s0:LU) (out3:LI) (i4:Int) (k5:Int),evLP qbV n (sub qeC [1,1,0,1,0,0,1,0,0,1,0,0]) K (qoH s0 out3 i4 k5)=qeX (qhM K) n s0 out3 i4 k5:=by
 intro n;induction n with
 | zero=>intros; rfl
 | succ n IH =>
 intro s0 out3 i4 k5;have ih:(fun s0 out3 i4 k5=>evLP qbV n (sub qeC [1,1,0,1,0,0,1,0,0,1,0,0]) K (qoH s0 out3 i4 k5))=qeX (qhM K) n:=by
  funext s0 out3 i4 k5;exact IH s0 out3 i4 k5
 show _=qdy (qhM K) (qeX (qhM K) n) n s0 out3 i4 k5;rw [← ih];kernel_rfl
theorem qoI (K:Ex→Fr→OA) (n:Nat) (s0:LU) (out3:LI) (i4:Int):(qkX n K) (.exit 2) (qcQ s0 out3 i4)=qeY (fun out3=>K (.exit 0) (frOf [(3,(.dat (.sl (.int .i64)) out3 (some (3,3))))])) (fun s0 out3 i4=>evLP qbV n (sub qeC [1,1,0,1,0,0]) K (qcQ s0 out3 i4)) n s0 out3 i4:=by
 kernel_rfl
theorem qwM (K:Ex→Fr→OA):∀ (n:Nat) (s0:LU) (out3:LI) (i4:Int),evLP qbV n (sub qeC [1,1,0,1,0,0]) K (qcQ s0 out3 i4)=qiD (qec K) n s0 out3 i4:=by
 intro n;induction n with
 | zero=>intros; rfl
 | succ n IH =>
 intro s0 out3 i4;have ih:(fun s0 out3 i4=>evLP qbV n (sub qeC [1,1,0,1,0,0]) K (qcQ s0 out3 i4))=qiD (qec K) n:=by
  funext s0 out3 i4;exact IH s0 out3 i4
 show _=qcu (qec K) (qiD (qec K) n) n s0 out3 i4;rw [← ih];unfold qcu;rw [show qeX (qeY (qec K) (fun s0 out3 i4=>evLP qbV n (sub qeC [1,1,0,1,0,0]) K (qcQ s0 out3 i4)) n) n=(fun s0 out3 i4 k5=>evLP qbV n (sub qeC [1,1,0,1,0,0,1,0,0,1,0,0]) (qkX n K) (qoH s0 out3 i4 k5)) from by
  funext s0 out3 i4 k5;refine Eq.trans ?_ (qwL (qkX n K) n s0 out3 i4 k5).symm;rw [show (qhM (qkX n K))=(qeY (qec K) (fun s0 out3 i4=>evLP qbV n (sub qeC [1,1,0,1,0,0]) K (qcQ s0 out3 i4)) n) from by
   funext s0 out3 i4;exact qoI K n s0 out3 i4]
  all_goals kernel_rfl]
 kernel_rfl
theorem qoJ (n:Nat) (out3:LI):(qkY n) (.exit 0) (frOf [(3,(.dat (.sl (.int .i64)) out3 (some (3,3))))])=qeZ n out3:=by
 kernel_rfl
theorem qLt (n:Nat) (s0:LU) (o0:Lab):evFnP qbV n qeC qLs [db s0 o0]=qrm n s0:=by
 unfold qrm;rw [show qiD (qeZ n) n=(fun s0 out3 i4=>evLP qbV n (sub qeC [1,1,0,1,0,0]) (qkY n) (qcQ s0 out3 i4)) from by
  funext s0 out3 i4;refine Eq.trans ?_ (qwM (qkY n) n s0 out3 i4).symm;rw [show (qec (qkY n))=(qeZ n) from by
   funext out3;exact qoJ n out3]
  all_goals kernel_rfl]
 kernel_rfl
theorem qwN:qe G Tryz.prog 190 s_z190:=by
 refine sQ (E:=qbV) (c:=qeC) rfl (fun w S hg=>qc) Tryz.func190 ?_;intro avs r h;unfold s_z190 at h;split at h
 ·obtain ⟨hp,rfl⟩:=yj h;obtain ⟨n,hn⟩:=qCO _ hp;exact ⟨n,_,(qLt n _ _).trans hn,.inl rfl⟩
 ·cases h
def qLu:EnvP:=eQ [] 31 (some [2]) nC (fun x=>if x=0 then some [] else none) nP
def qLv:Code:=cO Tryz.f191
def qOi:Array ResultVar:=Tryz.f191.results
theorem qLw (n:Nat) (n0:Int) (o0:Lab):evFnP qLu n qLv qOi [de n0 o0]=qyr n n0:=by
 kernel_rfl
theorem qwO:qe G Tryz.prog 191 s_z191:=by
 refine sQ (E:=qLu) (c:=qLv) rfl (fun w S hg=>qc) Tryz.func191 ?_;intro avs r h;unfold s_z191 at h;split at h <;> cases h
 obtain ⟨n,hn⟩:=qCM _;exact ⟨n,_,(qLw n _ _).trans hn,.inl rfl⟩
def qdE:EnvP:=eQ [(151,s_z151),(190,s_z190),(191,s_z191)] 32 (some [2]) (fun x=>if x=2 then some [3] else if x=6 then some [3,4,5] else none) (fun x=>if x=0 then some [3] else if x=1 then some [3] else if x=2 then some [4] else if x=3 then some [3,4,5] else none) nP
def qiW:Code:=cO Tryz.f138
def qFk:Array ResultVar:=Tryz.f138.results
def qhN (l3:LI):Fr:=frOf [(3,(.dat (.sl (.int .i64)) l3 (some (3,3))))]
noncomputable def qhO (K:Ex→Fr→OA):=fun l3=>K (.exit 0) (qhN l3)
noncomputable def qhP (K:Ex→Fr→OA):=fun out4=>K (.exit 2) (frOf [(4,(db out4 (some (4,5))))])
def qkZ (n:Nat):Ex→Fr→OA:=qo 2 (qdE.cutb 2) (kSeq (evCP qdE (evLP qdE n) (sub qiW [1,1,1,1,1])) (kFnP qdE qFk))
def qla (n:Nat):Ex→Fr→OA:=qo 0 (qdE.cutb 0) (kSeq (evCP qdE (evLP qdE n) (sub qiW [1,1,1])) (kFnP qdE qFk))
def qoK (l3:LI) (out4:LU) (i5:Int):Fr:=frOf [(3,(.dat (.sl (.int .i64)) l3 (some (3,3)))),(4,(db out4 (some (4,5)))),(5,dc i5)]
theorem qwP (K:Ex→Fr→OA):∀ (n:Nat) (l3:LI),evLP qdE n (sub qiW [1,1,0,0,0]) K (qhN l3)=qiE (qhO K) n l3:=by
 intro n;induction n with
 | zero=>intros; rfl
 | succ n IH =>
 intro l3;have ih:(fun l3=>evLP qdE n (sub qiW [1,1,0,0,0]) K (qhN l3))=qiE (qhO K) n:=by
  funext l3;exact IH l3
 show _=qgV (qhO K) (qiE (qhO K) n) n l3;rw [← ih];kernel_rfl
theorem qwQ (K:Ex→Fr→OA):∀ (n:Nat) (l3:LI) (out4:LU) (i5:Int),evLP qdE n (sub qiW [1,1,1,1,0,1,0,0]) K (qoK l3 out4 i5)=qiF (qhP K) n l3 out4 i5:=by
 intro n;induction n with
 | zero=>intros; rfl
 | succ n IH =>
 intro l3 out4 i5;have ih:(fun l3 out4 i5=>evLP qdE n (sub qiW [1,1,1,1,0,1,0,0]) K (qoK l3 out4 i5))=qiF (qhP K) n:=by
  funext l3 out4 i5;exact IH l3 out4 i5
 show _=qdz (qhP K) (qiF (qhP K) n) n l3 out4 i5;rw [← ih];kernel_rfl
theorem qoL (n:Nat) (out4:LU):(qkZ n) (.exit 2) (frOf [(4,(db out4 (some (4,5))))])=qfa n out4:=by
 kernel_rfl
theorem qoM (n:Nat) (l3:LI):(qla n) (.exit 0) (qhN l3)=qbi n l3:=by
 unfold qbi;rw [show qiF (qfa n) n=(fun l3 out4 i5=>evLP qdE n (sub qiW [1,1,1,1,0,1,0,0]) (qkZ n) (qoK l3 out4 i5)) from by
  funext l3 out4 i5;refine Eq.trans ?_ (qwQ (qkZ n) n l3 out4 i5).symm;rw [show (qhP (qkZ n))=(qfa n) from by
   funext out4;exact qoL n out4]
  all_goals kernel_rfl]
 kernel_rfl
theorem qLx (n:Nat) (s0:LU) (o0:Lab):evFnP qdE n qiW qFk [db s0 o0]=qrn n s0:=by
 unfold qrn;rw [show qiE (qbi n) n=(fun l3=>evLP qdE n (sub qiW [1,1,0,0,0]) (qla n) (qhN l3)) from by
  funext l3;refine Eq.trans ?_ (qwP (qla n) n l3).symm;rw [show (qhO (qla n))=(qbi n) from by
   funext l3;exact qoM n l3]
  all_goals kernel_rfl]
 kernel_rfl
theorem qwR:qe G Tryz.prog 138 s_z138:=by
 refine sQ (E:=qdE) (c:=qiW) rfl (fun w S hg=>(qa (qwK w S hg) (qa (qwN w S hg) (qa (qwO w S hg) qc)))) Tryz.func138 ?_;intro avs r h;unfold s_z138 at h;split at h
 ·obtain ⟨hp,rfl⟩:=yj h;obtain ⟨n,hn⟩:=qCP _ hp;exact ⟨n,_,(qLx n _ _).trans hn,.inl rfl⟩
 ·cases h
def E_z74:EnvP:=eQ [(138,s_z138)] 14 (some [2]) (fun x=>if x=2 then some [3] else none) (fun x=>if x=0 then some [3] else if x=1 then some [3] else none) nP
def C_z74:Code:=cO Tryz.f74
def R_z74:Array ResultVar:=Tryz.f74.results
def qmT (out3:LU):Fr:=frOf [(3,(db out3 (some (3,5))))]
noncomputable def qmU (K:Ex→Fr→OA):=fun out3=>K (.exit 0) (qmT out3)
def qqM (n:Nat):Ex→Fr→OA:=qo 0 (E_z74.cutb 0) (kSeq (evCP E_z74 (evLP E_z74 n) (sub C_z74 [1,1,1])) (kFnP E_z74 R_z74))
theorem qBd (K:Ex→Fr→OA):∀ (n:Nat) (out3:LU),evLP E_z74 n (sub C_z74 [1,1,0,0,0]) K (qmT out3)=qpc (qmU K) n out3:=by
 intro n;induction n with
 | zero=>intros; rfl
 | succ n IH =>
 intro out3;have ih:(fun out3=>evLP E_z74 n (sub C_z74 [1,1,0,0,0]) K (qmT out3))=qpc (qmU K) n:=by
  funext out3;exact IH out3
 show _=qlo (qmU K) (qpc (qmU K) n) n out3;rw [← ih];kernel_rfl
theorem qsT (n:Nat) (out3:LU):(qqM n) (.exit 0) (qmT out3)=qfY n out3:=by
 kernel_rfl
theorem qOj (n:Nat) (s0:LU) (o0:Lab):evFnP E_z74 n C_z74 R_z74 [db s0 o0]=qBQ n s0:=by
 unfold qBQ;rw [show qpc (qfY n) n=(fun out3=>evLP E_z74 n (sub C_z74 [1,1,0,0,0]) (qqM n) (qmT out3)) from by
  funext out3;refine Eq.trans ?_ (qBd (qqM n) n out3).symm;rw [show (qmU (qqM n))=(qfY n) from by
   funext out3;exact qsT n out3]
  all_goals kernel_rfl]
 kernel_rfl
theorem qBe:qe G Tryz.prog 74 s_z74:=by
 refine sQ (E:=E_z74) (c:=C_z74) rfl (fun w S hg=>(qa (qwR w S hg) qc)) Tryz.func74 ?_;intro avs r h;unfold s_z74 at h;split at h
 ·obtain ⟨hp,rfl⟩:=yj h;obtain ⟨n,hn⟩:=qGF _ hp;exact ⟨n,_,(qOj n _ _).trans hn,.inl rfl⟩
 ·cases h
def E_z34:EnvP:=eQ [(74,s_z74)] 35 (some [2]) (fun x=>if x=4 then some [3,4,5] else none) (fun x=>if x=0 then some [4] else if x=1 then some [3,4,5] else none) nP
def C_z34:Code:=cO Tryz.f34
def R_z34:Array ResultVar:=Tryz.f34.results
noncomputable def qmV (K:Ex→Fr→OA):=fun out4=>K (.exit 0) (frOf [(4,(db out4 (some (4,5))))])
def qqN (n:Nat):Ex→Fr→OA:=qo 0 (E_z34.cutb 0) (kSeq (evCP E_z34 (evLP E_z34 n) (sub C_z34 [1,1,1,1])) (kFnP E_z34 R_z34))
def qwS (c3:LU) (out4:LU) (i5:Int):Fr:=frOf [(3,(db c3 (some (3,5)))),(4,(db out4 (some (4,5)))),(5,dc i5)]
theorem qBf (K:Ex→Fr→OA):∀ (n:Nat) (c3:LU) (out4:LU) (i5:Int),evLP E_z34 n (sub C_z34 [1,1,1,0,1,0,0]) K (qwS c3 out4 i5)=qlp (qmV K) n c3 out4 i5:=by
 intro n;induction n with
 | zero=>intros; rfl
 | succ n IH =>
 intro c3 out4 i5;have ih:(fun c3 out4 i5=>evLP E_z34 n (sub C_z34 [1,1,1,0,1,0,0]) K (qwS c3 out4 i5))=qlp (qmV K) n:=by
  funext c3 out4 i5;exact IH c3 out4 i5
 show _=qfZ (qmV K) (qlp (qmV K) n) n c3 out4 i5;rw [← ih];kernel_rfl
theorem qsU (n:Nat) (out4:LU):(qqN n) (.exit 0) (frOf [(4,(db out4 (some (4,5))))])=qiG n out4:=by
 kernel_rfl
theorem qOk (n:Nat) (s0:LU) (o0:Lab):evFnP E_z34 n C_z34 R_z34 [db s0 o0]=qBR n s0:=by
 unfold qBR;rw [show qlp (qiG n) n=(fun c3 out4 i5=>evLP E_z34 n (sub C_z34 [1,1,1,0,1,0,0]) (qqN n) (qwS c3 out4 i5)) from by
  funext c3 out4 i5;refine Eq.trans ?_ (qBf (qqN n) n c3 out4 i5).symm;rw [show (qmV (qqN n))=(qiG n) from by
   funext out4;exact qsU n out4]
  all_goals kernel_rfl]
 kernel_rfl
theorem qBg:qe G Tryz.prog 34 s_z34:=by
 refine sQ (E:=E_z34) (c:=C_z34) rfl (fun w S hg=>(qa (qBe w S hg) qc)) Tryz.func34 ?_;intro avs r h;unfold s_z34 at h;split at h
 ·obtain ⟨hp,rfl⟩:=yj h;obtain ⟨n,hn⟩:=qFw _ hp;exact ⟨n,_,(qOk n _ _).trans hn,.inl rfl⟩
 ·cases h
def E_z75:EnvP:=eQ [] 53 (some [2]) (fun x=>if x=3 then some [0,3,4] else none) (fun x=>if x=0 then some [3] else if x=1 then some [0,3,4] else none) nP
def C_z75:Code:=cO Tryz.f75
def R_z75:Array ResultVar:=Tryz.f75.results
noncomputable def qmW (K:Ex→Fr→OA):=fun n3=>K (.exit 0) (frOf [(3,dc n3)])
def qqO (n:Nat):Ex→Fr→OA:=qo 0 (E_z75.cutb 0) (kSeq (evCP E_z75 (evLP E_z75 n) (sub C_z75 [1,1,1])) (kFnP E_z75 R_z75))
def qwT (s0:LU) (n3:Int) (i4:Int):Fr:=frOf [(0,da s0),(3,dc n3),(4,dc i4)]
theorem qBh (K:Ex→Fr→OA):∀ (n:Nat) (s0:LU) (n3:Int) (i4:Int),evLP E_z75 n (sub C_z75 [1,1,0,1,0,0]) K (qwT s0 n3 i4)=qiH (qmW K) n s0 n3 i4:=by
 intro n;induction n with
 | zero=>intros; rfl
 | succ n IH =>
 intro s0 n3 i4;have ih:(fun s0 n3 i4=>evLP E_z75 n (sub C_z75 [1,1,0,1,0,0]) K (qwT s0 n3 i4))=qiH (qmW K) n:=by
  funext s0 n3 i4;exact IH s0 n3 i4
 show _=qga (qmW K) (qiH (qmW K) n) n s0 n3 i4;rw [← ih];kernel_rfl
theorem qsV (n:Nat) (n3:Int):(qqO n) (.exit 0) (frOf [(3,dc n3)])=qiI n n3:=by
 kernel_rfl
theorem qOl (n:Nat) (s0:LU) (o0:Lab):evFnP E_z75 n C_z75 R_z75 [db s0 o0]=qGa n s0:=by
 unfold qGa;rw [show qiH (qiI n) n=(fun s0 n3 i4=>evLP E_z75 n (sub C_z75 [1,1,0,1,0,0]) (qqO n) (qwT s0 n3 i4)) from by
  funext s0 n3 i4;refine Eq.trans ?_ (qBh (qqO n) n s0 n3 i4).symm;rw [show (qmW (qqO n))=(qiI n) from by
   funext n3;exact qsV n n3]
  all_goals kernel_rfl]
 kernel_rfl
theorem qBi:qe G Tryz.prog 75 s_z75:=by
 refine sQ (E:=E_z75) (c:=C_z75) rfl (fun w S hg=>qc) Tryz.func75 ?_;intro avs r h;unfold s_z75 at h;split at h
 ·obtain ⟨hp,rfl⟩:=yj h;obtain ⟨n,hn⟩:=qFq _ hp;exact ⟨n,_,(qOl n _ _).trans hn,.inl rfl⟩
 ·cases h
end
end
end Go.Av
