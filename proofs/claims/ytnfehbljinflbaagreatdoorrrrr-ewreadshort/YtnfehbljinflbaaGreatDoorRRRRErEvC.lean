import Derived.Test.YtnfehbljinflbaaGreatDoorRRRRErEvB
import Derived.Test.YtnfehbljinflbaaGreatDoorRRRREtN
import Derived.Test.YtnfehbljinflbaaGreatDoorRRRRProg
import Derived.KernelRfl
namespace Go.Av
set_option linter.unusedSimpArgs false
noncomputable section
open Go.Proofs
set_option maxRecDepth 100000
set_option linter.unusedVariables false
def qFV:EnvP:=eQ [] 19 (some [2]) nC (fun x=>if x=0 then some [] else none) nP
def qFW:Code:=cO Tryz.f117
def qJl:Array ResultVar:=Tryz.f117.results
theorem qFX (n:Nat) (charset0:Int) (o0:Lab):evFnP qFV n qFW qJl [de charset0 o0]=qvW n charset0:=by
 kernel_rfl
theorem qut:qg G Tryz.prog 117 s_z117:=by
 refine sQ (E:=qFV) (c:=qFW) rfl (fun w S hg=>qc) Tryz.func117 ?_;intro avs r h;unfold s_z117 at h;split at h <;> cases h
 obtain ⟨n,hn⟩:=qAt _;exact ⟨n,_,(qFX n _ _).trans hn,.inl rfl⟩
def E_z86:EnvP:=⟨⟨tiOf tis,fnsOf [(117,s_z117)],cnsOf [],[],22,(fun x=>if x=3 then some [1,2] else if x=6 then some [1,2,11,12,13] else none),(fun x=>if x=0 then some [1] else if x=1 then some [1,2] else if x=2 then some [1,2] else if x=3 then some [1,2,11,12,13] else none),none⟩,fun _=>none,fun _=>none,fun _=>[],fun _=>none,fun _=>none,fun _=>none,(fun x=>if x=99 then some (9,3) else none)⟩
def C_z86:Code:=cO Tryz.f86
def R_z86:Array ResultVar:=Tryz.f86.results
def qfA (m1:List ((List UInt8)×Int)) (n2:Int):Fr:=frOf [(1,(.abs (.sl (.pair .str (.int .i64))) (qjD .str (.int .i64)) m1)),(2,dc n2)]
noncomputable def qlX (K:Ex→Fr→Option AV):=fun m1 n2=>K (.exit 2) (qfA m1 n2)
noncomputable def qhi (K:Ex→Fr→Option AV):=fun m1=>K (.exit 0) (frOf [(1,(.abs (.sl (.pair .str (.int .i64))) (qjD .str (.int .i64)) m1))])
def qpO (n:Nat) (K:Ex→Fr→Option AV):Ex→Fr→Option AV:=qo 2 (E_z86.cutb 2) (qo 1 (E_z86.cutb 1) (kSeq (evCP E_z86 (evLP E_z86 n) (sub C_z86 [1,1,0,1,0,0,1,1])) (kSeq (fun K fr=>evLP E_z86 n (sub C_z86 [1,1,0,1,0,0]) K (cutFP (E_z86.cuts 3) fr)) K)))
def qpP (n:Nat):Ex→Fr→Option AV:=qo 0 (E_z86.cutb 0) (kSeq (evCP E_z86 (evLP E_z86 n) (sub C_z86 [1,1,1])) (kFnR R_z86))
def quu (m1:List ((List UInt8)×Int)) (n2:Int) (s11:List (List UInt8)) (s12:Int) (s13:Int):Fr:=frOf [(1,(.abs (.sl (.pair .str (.int .i64))) (qjD .str (.int .i64)) m1)),(2,dc n2),(11,(.dat (.sl .str) s11 (some (11,9)))),(12,dc s12),(13,dc s13)]
theorem qyV (K:Ex→Fr→Option AV):∀ (n:Nat) (m1:List ((List UInt8)×Int)) (n2:Int) (s11:List (List UInt8)) (s12:Int) (s13:Int),evLP E_z86 n (sub C_z86 [1,1,0,1,0,0,1,0,0,1,0,0]) K (quu m1 n2 s11 s12 s13)=qss (qlX K) n m1 n2 s11 s12 s13:=by
 intro n;induction n with
 | zero=>intros; rfl
 | succ n IH =>
 intro m1 n2 s11 s12 s13;have ih:(fun m1 n2 s11 s12 s13=>evLP E_z86 n (sub C_z86 [1,1,0,1,0,0,1,0,0,1,0,0]) K (quu m1 n2 s11 s12 s13))=qss (qlX K) n:=by
  funext m1 n2 s11 s12 s13;exact IH m1 n2 s11 s12 s13
 show _=qvX (qlX K) (qss (qlX K) n) n m1 n2 s11 s12 s13;rw [← ih];kernel_rfl
theorem qrD (K:Ex→Fr→Option AV) (n:Nat) (m1:List ((List UInt8)×Int)) (n2:Int):(qpO n K) (.exit 2) (qfA m1 n2)=qkT (fun m1=>K (.exit 0) (frOf [(1,(.abs (.sl (.pair .str (.int .i64))) (qjD .str (.int .i64)) m1))])) (fun m1 n2=>evLP E_z86 n (sub C_z86 [1,1,0,1,0,0]) K (qfA m1 n2)) n m1 n2:=by
 kernel_rfl
theorem qyW (K:Ex→Fr→Option AV):∀ (n:Nat) (m1:List ((List UInt8)×Int)) (n2:Int),evLP E_z86 n (sub C_z86 [1,1,0,1,0,0]) K (qfA m1 n2)=qst (qhi K) n m1 n2:=by
 intro n;induction n with
 | zero=>intros; rfl
 | succ n IH =>
 intro m1 n2;have ih:(fun m1 n2=>evLP E_z86 n (sub C_z86 [1,1,0,1,0,0]) K (qfA m1 n2))=qst (qhi K) n:=by
  funext m1 n2;exact IH m1 n2
 show _=qop (qhi K) (qst (qhi K) n) n m1 n2;rw [← ih];unfold qop;rw [show qss (qkT (qhi K) (fun m1 n2=>evLP E_z86 n (sub C_z86 [1,1,0,1,0,0]) K (qfA m1 n2)) n) n=(fun m1 n2 s11 s12 s13=>evLP E_z86 n (sub C_z86 [1,1,0,1,0,0,1,0,0,1,0,0]) (qpO n K) (quu m1 n2 s11 s12 s13)) from by
  funext m1 n2 s11 s12 s13;refine Eq.trans ?_ (qyV (qpO n K) n m1 n2 s11 s12 s13).symm;rw [show (qlX (qpO n K))=(qkT (qhi K) (fun m1 n2=>evLP E_z86 n (sub C_z86 [1,1,0,1,0,0]) K (qfA m1 n2)) n) from by
   funext m1 n2;exact qrD K n m1 n2]
  all_goals kernel_rfl]
 kernel_rfl
theorem qrE (n:Nat) (m1:List ((List UInt8)×Int)):(qpP n) (.exit 0) (frOf [(1,(.abs (.sl (.pair .str (.int .i64))) (qjD .str (.int .i64)) m1))])=qkU n m1:=by
 kernel_rfl
theorem qJm (n:Nat)  : evFnR E_z86 n C_z86 R_z86 []=qDC n  := by
 unfold qDC;rw [show qst (qkU n) n=(fun m1 n2=>evLP E_z86 n (sub C_z86 [1,1,0,1,0,0]) (qpP n) (qfA m1 n2)) from by
  funext m1 n2;refine Eq.trans ?_ (qyW (qpP n) n m1 n2).symm;rw [show (qhi (qpP n))=(qkU n) from by
   funext m1;exact qrE n m1]
  all_goals kernel_rfl]
 kernel_rfl
theorem qyX:qCy G Tryz.prog 86 s_z86:=by
 refine qgC G_stays (E:=E_z86) (fn:=Tryz.f86) (c:=C_z86) (qf rfl qaS) (fun w S hg=>⟨⟨(qb (qut w S hg) qc),fun f sp h=>qZ f sp h w S⟩,qae w S hg,(fun _ _ h=>by cases h),(fun f sp h=>qat f sp h),(fun f it h=>qau f it h),(fun t kt vt h=>(qsI (by kernel_rfl) qaa) t kt vt h)⟩) follows Tryz.func86 (by kernel_rfl) (by kernel_rfl) (by kernel_rfl) ?_;intro avs r h;unfold s_z86 at h;split at h <;> cases h
 obtain ⟨n,hn⟩:=qEy;exact ⟨n,(qJm n ).trans hn⟩
def qjW:EnvP:=eQ [] 21 (some [1000004]) (fun x=>if x=1 then some [0,1] else none) (fun x=>if x=0 then some [0] else if x=1 then some [0,1] else none) nP
def qrF:Code:=cO Tryz.f146
def qFY:Array ResultVar:=Tryz.f146.results
noncomputable def qhj (K:Ex→Fr→Option AV):=fun s0=>K (.exit 0) (frOf [(0,da s0)])
def qjX (n:Nat):Ex→Fr→Option AV:=qo 0 (qjW.cutb 0) (kSeq (evCP qjW (evLP qjW n) (sub qrF [1,1])) (kFnP qjW qFY))
def qnz (s0:List UInt8) (c1:UInt8):Fr:=frOf [(0,da s0),(1,(dm c1 none))]
theorem quv (K:Ex→Fr→Option AV):∀ (n:Nat) (s0:List UInt8) (c1:UInt8),evLP qjW n (sub qrF [1,0,0,0]) K (qnz s0 c1)=qiN (qhj K) n s0 c1:=by
 intro n;induction n with
 | zero=>intros; rfl
 | succ n IH =>
 intro s0 c1;have ih:(fun s0 c1=>evLP qjW n (sub qrF [1,0,0,0]) K (qnz s0 c1))=qiN (qhj K) n:=by
  funext s0 c1;exact IH s0 c1
 show _=qql (qhj K) (qiN (qhj K) n) n s0 c1;rw [← ih];kernel_rfl
theorem qnA (n:Nat) (s0:List UInt8):(qjX n) (.exit 0) (frOf [(0,da s0)])=qgm n s0:=by
 kernel_rfl
theorem qFZ (n:Nat) (s0:List UInt8) (o0:Lab) (c1:UInt8) (o1:Lab):evFnP qjW n qrF qFY [db s0 o0,dm c1 o1]=qvY n s0 c1:=by
 unfold qvY;rw [show qiN (qgm n) n=(fun s0 c1=>evLP qjW n (sub qrF [1,0,0,0]) (qjX n) (qnz s0 c1)) from by
  funext s0 c1;refine Eq.trans ?_ (quv (qjX n) n s0 c1).symm;rw [show (qhj (qjX n))=(qgm n) from by
   funext s0;exact qnA n s0]
  all_goals kernel_rfl]
 kernel_rfl
theorem qlY:qg G Tryz.prog 146 s_z146:=by
 refine sQ (E:=qjW) (c:=qrF) rfl (fun w S hg=>qc) Tryz.func146 ?_;intro avs r h;unfold s_z146 at h;split at h
 ·obtain ⟨hp,rfl⟩:=yj h;obtain ⟨n,hn⟩:=qAa _ _ hp;exact ⟨n,_,(qFZ n _ _ _ _).trans hn,.inl rfl⟩
 ·cases h
def qjY:EnvP:=eQ [] 21 (some [2,3]) (fun x=>if x=2 then some [0,2,4] else none) (fun x=>if x=0 then some [2] else if x=1 then some [0,2,4] else none) nP
def qrG:Code:=cO Tryz.f147
def qGa:Array ResultVar:=Tryz.f147.results
noncomputable def qjZ (K:Ex→Fr→Option AV):=fun as2 ok3=>K .ret (frOf [(2,(.box (.arr 256 .bool) as2)),(3,dg ok3)])
noncomputable def qhk (K:Ex→Fr→Option AV):=fun as2=>K (.exit 0) (frOf [(2,(.box (.arr 256 .bool) as2))])
def qka (n:Nat):Ex→Fr→Option AV:=qo 0 (qjY.cutb 0) (kSeq (evCP qjY (evLP qjY n) (sub qrG [1,1])) (kFnP qjY qGa))
def qnB (chars0:List UInt8) (as2:List Bool) (i4:Int):Fr:=frOf [(0,(df chars0 none)),(2,(.box (.arr 256 .bool) as2)),(4,dc i4)]
theorem quw (K:Ex→Fr→Option AV):∀ (n:Nat) (chars0:List UInt8) (as2:List Bool) (i4:Int),evLP qjY n (sub qrG [1,0,1,0,0]) K (qnB chars0 as2 i4)=qeF (qjZ K) (qhk K) n chars0 as2 i4:=by
 intro n;induction n with
 | zero=>intros; rfl
 | succ n IH =>
 intro chars0 as2 i4;have ih:(fun chars0 as2 i4=>evLP qjY n (sub qrG [1,0,1,0,0]) K (qnB chars0 as2 i4))=qeF (qjZ K) (qhk K) n:=by
  funext chars0 as2 i4;exact IH chars0 as2 i4
 show _=qds (qjZ K) (qhk K) (qeF (qjZ K) (qhk K) n) n chars0 as2 i4;rw [← ih];kernel_rfl
theorem qnC (n:Nat) (as2:List Bool):(qka n) (.exit 0) (frOf [(2,(.box (.arr 256 .bool) as2))])=qeG n as2:=by
 kernel_rfl
theorem qGb (n:Nat) (chars0:List UInt8) (o0:Lab):evFnP qjY n qrG qGa [df chars0 o0]=qvZ n chars0:=by
 unfold qvZ;rw [show qeF qhF (qeG n) n=(fun chars0 as2 i4=>evLP qjY n (sub qrG [1,0,1,0,0]) (qka n) (qnB chars0 as2 i4)) from by
  funext chars0 as2 i4;refine Eq.trans ?_ (quw (qka n) n chars0 as2 i4).symm;rw [show (qhk (qka n))=(qeG n) from by
   funext as2;exact qnC n as2]
  all_goals kernel_rfl]
 kernel_rfl
theorem qhl:qg G Tryz.prog 147 s_z147:=by
 refine sQ (E:=qjY) (c:=qrG) rfl (fun w S hg=>qc) Tryz.func147 ?_;intro avs r h;unfold s_z147 at h;split at h
 ·obtain ⟨hp,rfl⟩:=yj h;obtain ⟨n,hn⟩:=qzW _ hp;exact ⟨n,_,(qGb n _ _).trans hn,.inl rfl⟩
 ·cases h
def qGc:EnvP:=eQ [] 10 (some [4]) nC nC nP
def qGd:Code:=cO Tryz.f153
def qJn:Array ResultVar:=Tryz.f153.results
theorem qGe (n:Nat) (as0:List Bool) (c1:UInt8) (o1:Lab):evFnP qGc n qGd qJn [.adr (.arr 256 .bool) as0,dm c1 o1]=qwb n as0 c1:=by
 kernel_rfl
theorem qhm:qg G Tryz.prog 153 s_z153:=by
 refine sQ (E:=qGc) (c:=qGd) rfl (fun w S hg=>qc) Tryz.func153 ?_;intro avs r h;unfold s_z153 at h;split at h <;> cases h
 obtain ⟨n,hn⟩:=qzX _ _;exact ⟨n,_,(qGe n _ _ _).trans hn,.inl rfl⟩
def qkb:EnvP:=eQ [(153,s_z153)] 20 (some [1000004]) (fun x=>if x=1 then some [0,1] else none) (fun x=>if x=0 then some [0] else if x=1 then some [0,1] else none) nP
def qrH:Code:=cO Tryz.f148
def qGf:Array ResultVar:=Tryz.f148.results
noncomputable def qhn (K:Ex→Fr→Option AV):=fun s0=>K (.exit 0) (frOf [(0,da s0)])
def qkc (n:Nat):Ex→Fr→Option AV:=qo 0 (qkb.cutb 0) (kSeq (evCP qkb (evLP qkb n) (sub qrH [1,1])) (kFnP qkb qGf))
def qnD (s0:List UInt8) (as1:List Bool):Fr:=frOf [(0,da s0),(1,(.adr (.arr 256 .bool) as1))]
theorem qux (K:Ex→Fr→Option AV):∀ (n:Nat) (s0:List UInt8) (as1:List Bool),evLP qkb n (sub qrH [1,0,0,0]) K (qnD s0 as1)=qfC (qhn K) n s0 as1:=by
 intro n;induction n with
 | zero=>intros; rfl
 | succ n IH =>
 intro s0 as1;have ih:(fun s0 as1=>evLP qkb n (sub qrH [1,0,0,0]) K (qnD s0 as1))=qfC (qhn K) n:=by
  funext s0 as1;exact IH s0 as1
 show _=qgn (qhn K) (qfC (qhn K) n) n s0 as1;rw [← ih];kernel_rfl
theorem qnE (n:Nat) (s0:List UInt8):(qkc n) (.exit 0) (frOf [(0,da s0)])=qeH n s0:=by
 kernel_rfl
theorem qGg (n:Nat) (s0:List UInt8) (o0:Lab) (as1:List Bool):evFnP qkb n qrH qGf [db s0 o0,.adr (.arr 256 .bool) as1]=qqm n s0 as1:=by
 unfold qqm;rw [show qfC (qeH n) n=(fun s0 as1=>evLP qkb n (sub qrH [1,0,0,0]) (qkc n) (qnD s0 as1)) from by
  funext s0 as1;refine Eq.trans ?_ (qux (qkc n) n s0 as1).symm;rw [show (qhn (qkc n))=(qeH n) from by
   funext s0;exact qnE n s0]
  all_goals kernel_rfl]
 kernel_rfl
theorem qlZ:qg G Tryz.prog 148 s_z148:=by
 refine sQ (E:=qkb) (c:=qrH) rfl (fun w S hg=>(qb (qhm w S hg) qc)) Tryz.func148 ?_;intro avs r h;unfold s_z148 at h;split at h
 ·obtain ⟨hp,rfl⟩:=yj h;obtain ⟨n,hn⟩:=qAd _ _ hp;exact ⟨n,_,(qGg n _ _ _).trans hn,.inl rfl⟩
 ·cases h
def qkd:EnvP:=eQ [] 24 (some [4]) (fun x=>if x=1 then some [0,1] else none) (fun x=>if x=0 then some [0] else if x=1 then some [0,1] else none) nP
def qrI:Code:=cO Tryz.f156
def qGh:Array ResultVar:=Tryz.f156.results
noncomputable def qho (K:Ex→Fr→Option AV):=fun s0=>K (.exit 0) (frOf [(0,da s0)])
def qke (n:Nat):Ex→Fr→Option AV:=qo 0 (qkd.cutb 0) (kSeq (evCP qkd (evLP qkd n) (sub qrI [1,1])) (kFnP qkd qGh))
def qnF (s0:List UInt8) (c1:UInt8):Fr:=frOf [(0,da s0),(1,(dm c1 none))]
theorem quy (K:Ex→Fr→Option AV):∀ (n:Nat) (s0:List UInt8) (c1:UInt8),evLP qkd n (sub qrI [1,0,0,0]) K (qnF s0 c1)=qiO (qho K) n s0 c1:=by
 intro n;induction n with
 | zero=>intros; rfl
 | succ n IH =>
 intro s0 c1;have ih:(fun s0 c1=>evLP qkd n (sub qrI [1,0,0,0]) K (qnF s0 c1))=qiO (qho K) n:=by
  funext s0 c1;exact IH s0 c1
 show _=qqn (qho K) (qiO (qho K) n) n s0 c1;rw [← ih];kernel_rfl
theorem qnG (n:Nat) (s0:List UInt8):(qke n) (.exit 0) (frOf [(0,da s0)])=qgo n s0:=by
 kernel_rfl
theorem qGi (n:Nat) (s0:List UInt8) (o0:Lab) (c1:UInt8) (o1:Lab):evFnP qkd n qrI qGh [db s0 o0,dm c1 o1]=qwd n s0 c1:=by
 unfold qwd;rw [show qiO (qgo n) n=(fun s0 c1=>evLP qkd n (sub qrI [1,0,0,0]) (qke n) (qnF s0 c1)) from by
  funext s0 c1;refine Eq.trans ?_ (quy (qke n) n s0 c1).symm;rw [show (qho (qke n))=(qgo n) from by
   funext s0;exact qnG n s0]
  all_goals kernel_rfl]
 kernel_rfl
theorem quz:qg G Tryz.prog 156 s_z156:=by
 refine sQ (E:=qkd) (c:=qrI) rfl (fun w S hg=>qc) Tryz.func156 ?_;intro avs r h;unfold s_z156 at h;split at h
 ·obtain ⟨hp,rfl⟩:=yj h;obtain ⟨n,hn⟩:=qAb _ _ hp;exact ⟨n,_,(qGi n _ _ _ _).trans hn,.inl rfl⟩
 ·cases h
def qkf:EnvP:=eQ [(153,s_z153)] 23 (some [4]) (fun x=>if x=1 then some [0,1] else none) (fun x=>if x=0 then some [0] else if x=1 then some [0,1] else none) nP
def qrJ:Code:=cO Tryz.f157
def qGj:Array ResultVar:=Tryz.f157.results
noncomputable def qhp (K:Ex→Fr→Option AV):=fun s0=>K (.exit 0) (frOf [(0,da s0)])
def qkg (n:Nat):Ex→Fr→Option AV:=qo 0 (qkf.cutb 0) (kSeq (evCP qkf (evLP qkf n) (sub qrJ [1,1])) (kFnP qkf qGj))
def qnH (s0:List UInt8) (as1:List Bool):Fr:=frOf [(0,da s0),(1,(.adr (.arr 256 .bool) as1))]
theorem quA (K:Ex→Fr→Option AV):∀ (n:Nat) (s0:List UInt8) (as1:List Bool),evLP qkf n (sub qrJ [1,0,0,0]) K (qnH s0 as1)=qfD (qhp K) n s0 as1:=by
 intro n;induction n with
 | zero=>intros; rfl
 | succ n IH =>
 intro s0 as1;have ih:(fun s0 as1=>evLP qkf n (sub qrJ [1,0,0,0]) K (qnH s0 as1))=qfD (qhp K) n:=by
  funext s0 as1;exact IH s0 as1
 show _=qgp (qhp K) (qfD (qhp K) n) n s0 as1;rw [← ih];kernel_rfl
theorem qnI (n:Nat) (s0:List UInt8):(qkg n) (.exit 0) (frOf [(0,da s0)])=qgq n s0:=by
 kernel_rfl
theorem qGk (n:Nat) (s0:List UInt8) (o0:Lab) (as1:List Bool):evFnP qkf n qrJ qGj [db s0 o0,.adr (.arr 256 .bool) as1]=qqo n s0 as1:=by
 unfold qqo;rw [show qfD (qgq n) n=(fun s0 as1=>evLP qkf n (sub qrJ [1,0,0,0]) (qkg n) (qnH s0 as1)) from by
  funext s0 as1;refine Eq.trans ?_ (quA (qkg n) n s0 as1).symm;rw [show (qhp (qkg n))=(qgq n) from by
   funext s0;exact qnI n s0]
  all_goals kernel_rfl]
 kernel_rfl
theorem quB:qg G Tryz.prog 157 s_z157:=by
 refine sQ (E:=qkf) (c:=qrJ) rfl (fun w S hg=>(qb (qhm w S hg) qc)) Tryz.func157 ?_;intro avs r h;unfold s_z157 at h;split at h
 ·obtain ⟨hp,rfl⟩:=yj h;obtain ⟨n,hn⟩:=qAc _ _ hp;exact ⟨n,_,(qGk n _ _ _).trans hn,.inl rfl⟩
 ·cases h
end
end Go.Av
