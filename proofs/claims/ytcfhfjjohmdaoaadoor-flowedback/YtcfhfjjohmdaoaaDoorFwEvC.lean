import Derived.Test.YtcfhfjjohmdaoaaDoorFwEvB
import Derived.Test.YtcfhfjjohmdaoaaDoorFwWalk
import Derived.Test.YtcfhfjjohmdaoaaDoorProg
import Derived.KernelRfl
namespace Go.Av
set_option linter.unusedSimpArgs false
noncomputable section
open Go.Proofs
set_option maxRecDepth 100000
set_option linter.unusedVariables false
def E_z36:EnvP:=⟨⟨tiOf tis,fnsOf [(70,s_z70)],cnsOf [],[],26,(fun x=>if x=4 then some [3,4,12,13,14] else none),(fun x=>if x=0 then some [3] else if x=1 then some [3,4,12,13,14] else none),some [2]⟩,(fun x=>if x=7 then some (.ppair (.psl 77 (.ppair (.leaf (.int .i64)) (.ppair (.osl 5 .byte) (.leaf .unit)))) (.ppair (.leaf .bool) (.leaf .unit))) else if x=8 then some (.ppair (.psl 77 (.ppair (.leaf (.int .i64)) (.ppair (.osl 5 .byte) (.leaf .unit)))) (.ppair (.leaf .bool) (.leaf .unit))) else none),fun _=>none,fun _=>[],(fun x=>if x=69 then some s_z69 else none),fun _=>none,fun _=>none,fun _=>none⟩
def C_z36:Code:=cO Tryd.f36
def R_z36:Array ResultVar:=Tryd.f36.results
noncomputable def qjM (K:Ex→Fr→Option AV):=fun r3=>K (.exit 0) (frOf [(3,(.pbox (.ppair (.psl 77 (.ppair (.leaf (.int .i64)) (.ppair (.osl 5 .byte) (.leaf .unit)))) (.ppair (.leaf .bool) (.leaf .unit))) r3 none))])
def qmm (n:Nat):Ex→Fr→Option AV:=qL 0 (E_z36.cutb 0) (kSeq (evCP E_z36 (evLP E_z36 n) (sub C_z36 [1,1,1,1])) (kFnP E_z36 R_z36))
def qqc (r3:(List (Int×((List UInt8)×Unit)))×(Bool×Unit)) (s12:List (List UInt8)) (s13:Int) (s14:Int):Fr:=frOf [(3,(.pbox (.ppair (.psl 77 (.ppair (.leaf (.int .i64)) (.ppair (.osl 5 .byte) (.leaf .unit)))) (.ppair (.leaf .bool) (.leaf .unit))) r3 none)),(4,(.padr 3 [.clo 69 true])),(12,(.dat (.sl (.sl .byte)) s12 (some (12,22)))),(13,dc s13),(14,dc s14)]
theorem qsq (K:Ex→Fr→Option AV):∀ (n:Nat) (r3:(List (Int×((List UInt8)×Unit)))×(Bool×Unit)) (s12:List (List UInt8)) (s13:Int) (s14:Int),evLP E_z36 n (sub C_z36 [1,1,1,0,1,0,0]) K (qqc r3 s12 s13 s14)=qgs (qjM K) n r3 s12 s13 s14:=by
 intro n;induction n with
 | zero=>intros; rfl
 | succ n IH =>
 intro r3 s12 s13 s14;have ih:(fun r3 s12 s13 s14=>evLP E_z36 n (sub C_z36 [1,1,1,0,1,0,0]) K (qqc r3 s12 s13 s14))=qgs (qjM K) n:=by
  funext r3 s12 s13 s14;exact IH r3 s12 s13 s14
 show _=qet (qjM K) (qgs (qjM K) n) n r3 s12 s13 s14;rw [← ih];kernel_rfl
theorem qnQ (n:Nat) (r3:(List (Int×((List UInt8)×Unit)))×(Bool×Unit)):(qmm n) (.exit 0) (frOf [(3,(.pbox (.ppair (.psl 77 (.ppair (.leaf (.int .i64)) (.ppair (.osl 5 .byte) (.leaf .unit)))) (.ppair (.leaf .bool) (.leaf .unit))) r3 none))])=qgt n r3:=by
 kernel_rfl
theorem qxE (n:Nat) (s0:List UInt8) (o0:Lab):evFnP E_z36 n C_z36 R_z36 [db s0 o0]=qte n s0:=by
 unfold qte;rw [show qgs (qgt n) n=(fun r3 s12 s13 s14=>evLP E_z36 n (sub C_z36 [1,1,1,0,1,0,0]) (qmm n) (qqc r3 s12 s13 s14)) from by
  funext r3 s12 s13 s14;refine Eq.trans ?_ (qsq (qmm n) n r3 s12 s13 s14).symm;rw [show (qjM (qmm n))=(qgt n) from by
   funext r3;exact qnQ n r3]
  all_goals kernel_rfl]
 kernel_rfl
theorem qil:qp G Tryd.prog 36 s_z36:=by
 refine qF G_stays (E:=E_z36) (fn:=Tryd.f36) (c:=C_z36) (qn rfl qeo) (fun w S hg=>⟨⟨(qb (qsp w S hg) ql),fun f sp h=>qbT f sp h w S⟩,qjE w S hg,(fun f sp h=>(qua (qsm w S hg) qwe) f sp h),(fun f sp h=>qcQ f sp h),(fun f it h=>qcS f it h),(fun t kt vt h=>qcR t kt vt h)⟩) follows Tryd.func36 (by kernel_rfl) (by kernel_rfl) (by kernel_rfl) ?_;intro avs r h;unfold s_z36 at h;split at h
 ·obtain ⟨hp,rfl⟩:=yj h;obtain ⟨n,hn⟩:=qva _ hp;exact ⟨n,_,(qxE n _ _).trans hn,.inl rfl⟩
 ·cases h
def qwO:EnvP:=eQ [] 5 (some [2]) nC nC nP
def qwP:Code:=cO Tryd.f107
def qxF:Array ResultVar:=Tryd.f107.results
theorem qwQ (n:Nat) (bufLen0:Int) (o0:Lab):evFnP qwO n qwP qxF [de bufLen0 o0]=qtL n bufLen0:=by
 kernel_rfl
theorem qqd:qp G Tryd.prog 107 s_z107:=by
 refine sQ (E:=qwO) (c:=qwP) rfl (fun w S hg=>ql) Tryd.func107 ?_;intro avs r h;unfold s_z107 at h;split at h <;> cases h
 obtain ⟨n,hn⟩:=qtw _;exact ⟨n,_,(qwQ n _ _).trans hn,.inl rfl⟩
def E_z83 (m0:Int):EnvP:=⟨⟨tiOf tis,fnsOf [(92,s_z92),(105,s_z105),(106,s_z106),(107,s_z107),(108,s_z108),(109,s_z109),(110,(s_z110 m0))],cnsOf [],[],129,(fun x=>if x=7 then some [28] else if x=24 then some [7,60,61,62] else if x=32 then some [0,1,12] else if x=48 then some [0,1,11,12,13,121] else none),(fun x=>if x=0 then some [] else if x=1 then some [28] else if x=2 then some [] else if x=3 then some [7,60,61,62] else if x=4 then some [] else if x=5 then some [0,1,11,12] else if x=6 then some [0,1,11,12] else if x=7 then some [0,1,11,12,13,121] else none),some [4]⟩,fun _=>none,glm m0,(fun x=>if x=24 then [7] else []),fun _=>none,fun _=>none,fun _=>none,fun _=>none⟩
def C_z83:Code:=cO Tryd.f83
def R_z83:Array ResultVar:=Tryd.f83.results
def qmn (m0:Int) (n:Nat):Ex→Fr→Option AV:=qL 0 ((E_z83 m0).cutb 0) (kSeq (evCP (E_z83 m0) (evLP (E_z83 m0) n) (sub C_z83 [1,1,0,1,0,1,0,1,0,1])) (kSeq (evCP (E_z83 m0) (evLP (E_z83 m0) n) (sub C_z83 [1,1,0,1,0,1,1])) (kSeq (evCP (E_z83 m0) (evLP (E_z83 m0) n) (sub C_z83 [1,1,1])) (kFnP (E_z83 m0) R_z83))))
def qmo (m0:Int) (n:Nat) (K:Ex→Fr→Option AV):Ex→Fr→Option AV:=qL 6 ((E_z83 m0).cutb 6) (qL 5 ((E_z83 m0).cutb 5) (kSeq (evCP (E_z83 m0) (evLP (E_z83 m0) n) (sub C_z83 [1,1,1,1,1,1,0,1,0,0,1,1])) (kSeq (fun K fr=>evLP (E_z83 m0) n (sub C_z83 [1,1,1,1,1,1,0,1,0,0]) K (cutFP ((E_z83 m0).cuts 32) fr)) K)))
def qmp (m0:Int) (n:Nat):Ex→Fr→Option AV:=qL 2 ((E_z83 m0).cutb 2) (kSeq (evCP (E_z83 m0) (evLP (E_z83 m0) n) (sub C_z83 [1,1,1,1,0,1,0,1,1,0,1])) (kSeq (evCP (E_z83 m0) (evLP (E_z83 m0) n) (sub C_z83 [1,1,1,1,1])) (kFnP (E_z83 m0) R_z83)))
def qmq (m0:Int) (n:Nat):Ex→Fr→Option AV:=qL 4 ((E_z83 m0).cutb 4) (kSeq (evCP (E_z83 m0) (evLP (E_z83 m0) n) (sub C_z83 [1,1,1,1,1,1,1])) (kFnP (E_z83 m0) R_z83))
def qqe (s0:List UInt8) (chars1:List UInt8) (width11:Int) (i12:Int) (r13:Int) (s121:List UInt8) (s121p:Nat):Fr:=frOf [(0,da s0),(1,(df chars1 none)),(11,dc width11),(12,dc i12),(13,(.dat (.int .i32) r13 none)),(121,(.itr s121 s121p))]
def qqf (as7:List Bool) (s60:List UInt8) (s61:Int) (s62:Int):Fr:=frOf [(7,(.adr (.arr 256 .bool) as7)),(60,da s60),(61,dc s61),(62,dc s62)]
def qhl (s0:List UInt8) (chars1:List UInt8) (width11:Int) (i12:Int):Fr:=frOf [(0,da s0),(1,(df chars1 none)),(11,dc width11),(12,dc i12)]
def qhm (s0:List UInt8) (chars1:List UInt8) (i12:Int):Fr:=frOf [(0,da s0),(1,(df chars1 none)),(12,dc i12)]
theorem qsr (m0:Int) (K:Ex→Fr→Option AV):∀ (n:Nat) (s28:List UInt8) (s28p:Nat),evLP (E_z83 m0) n (sub C_z83 [1,1,0,1,0,1,0,1,0,0,1,0,0]) K (frOf [(28,(.itr s28 s28p))])=(qiF m0) (fun s4=>K .ret (frOf [(4,dc s4)])) (K (.exit 0) (frOf [])) n s28 s28p:=by
 intro n;induction n with
 | zero=>intros; rfl
 | succ n IH =>
 intro s28 s28p;have ih:(fun s28 s28p=>evLP (E_z83 m0) n (sub C_z83 [1,1,0,1,0,1,0,1,0,0,1,0,0]) K (frOf [(28,(.itr s28 s28p))]))=(qiF m0) (fun s4=>K .ret (frOf [(4,dc s4)])) (K (.exit 0) (frOf [])) n:=by
  funext s28 s28p;exact IH s28 s28p
 show _=(qeu m0) (fun s4=>K .ret (frOf [(4,dc s4)])) (K (.exit 0) (frOf [])) ((qiF m0) (fun s4=>K .ret (frOf [(4,dc s4)])) (K (.exit 0) (frOf [])) n) n s28 s28p;rw [← ih];kernel_rfl
theorem qnR (m0:Int) (n:Nat)  : (qmn m0 n) (.exit 0) (frOf [])=(qiG m0) n  := by
 kernel_rfl
theorem qqg (m0:Int) (K:Ex→Fr→Option AV):∀ (n:Nat) (as7:List Bool) (s60:List UInt8) (s61:Int) (s62:Int),evLP (E_z83 m0) n (sub C_z83 [1,1,1,1,0,1,0,1,1,0,0,1,0,0]) K (qqf as7 s60 s61 s62)=(qdR m0) (fun s4=>K .ret (frOf [(4,dc s4)])) (K (.exit 2) (frOf [])) n as7 s60 s61 s62:=by
 intro n;induction n with
 | zero=>intros; rfl
 | succ n IH =>
 intro as7 s60 s61 s62;have ih:(fun as7 s60 s61 s62=>evLP (E_z83 m0) n (sub C_z83 [1,1,1,1,0,1,0,1,1,0,0,1,0,0]) K (qqf as7 s60 s61 s62))=(qdR m0) (fun s4=>K .ret (frOf [(4,dc s4)])) (K (.exit 2) (frOf [])) n:=by
  funext as7 s60 s61 s62;exact IH as7 s60 s61 s62
 show _=(qcD m0) (fun s4=>K .ret (frOf [(4,dc s4)])) (K (.exit 2) (frOf [])) ((qdR m0) (fun s4=>K .ret (frOf [(4,dc s4)])) (K (.exit 2) (frOf [])) n) n as7 s60 s61 s62;rw [← ih];kernel_rfl
theorem qlh (m0:Int) (n:Nat)  : (qmp m0 n) (.exit 2) (frOf [])=(qdS m0) n  := by
 kernel_rfl
theorem qqh (m0:Int) (K:Ex→Fr→Option AV):∀ (n:Nat) (s0:List UInt8) (chars1:List UInt8) (width11:Int) (i12:Int) (r13:Int) (s121:List UInt8) (s121p:Nat),evLP (E_z83 m0) n (sub C_z83 [1,1,1,1,1,1,0,1,0,0,1,0,0,1,1,1,1,1,0,0]) K (qqe s0 chars1 width11 i12 r13 s121 s121p)=(qcn m0) (fun s4=>K .ret (frOf [(4,dc s4)])) (fun s0 chars1 width11 i12=>K (.exit 6) (qhl s0 chars1 width11 i12)) n s0 chars1 width11 i12 r13 s121 s121p:=by
 intro n;induction n with
 | zero=>intros; rfl
 | succ n IH =>
 intro s0 chars1 width11 i12 r13 s121 s121p;have ih:(fun s0 chars1 width11 i12 r13 s121 s121p=>evLP (E_z83 m0) n (sub C_z83 [1,1,1,1,1,1,0,1,0,0,1,0,0,1,1,1,1,1,0,0]) K (qqe s0 chars1 width11 i12 r13 s121 s121p))=(qcn m0) (fun s4=>K .ret (frOf [(4,dc s4)])) (fun s0 chars1 width11 i12=>K (.exit 6) (qhl s0 chars1 width11 i12)) n:=by
  funext s0 chars1 width11 i12 r13 s121 s121p;exact IH s0 chars1 width11 i12 r13 s121 s121p
 show _=(qcE m0) (fun s4=>K .ret (frOf [(4,dc s4)])) (fun s0 chars1 width11 i12=>K (.exit 6) (qhl s0 chars1 width11 i12)) ((qcn m0) (fun s4=>K .ret (frOf [(4,dc s4)])) (fun s0 chars1 width11 i12=>K (.exit 6) (qhl s0 chars1 width11 i12)) n) n s0 chars1 width11 i12 r13 s121 s121p;rw [← ih];kernel_rfl
theorem qli (m0:Int) (K:Ex→Fr→Option AV) (n:Nat) (s0:List UInt8) (chars1:List UInt8) (width11:Int) (i12:Int):(qmo m0 n K) (.exit 6) (qhl s0 chars1 width11 i12)=(qcF m0) (fun s4=>K .ret (frOf [(4,dc s4)])) (K (.exit 4) (frOf [])) (fun s0 chars1 i12=>evLP (E_z83 m0) n (sub C_z83 [1,1,1,1,1,1,0,1,0,0]) K (qhm s0 chars1 i12)) n s0 chars1 width11 i12:=by
 kernel_rfl
theorem qqi (m0:Int) (K:Ex→Fr→Option AV):∀ (n:Nat) (s0:List UInt8) (chars1:List UInt8) (i12:Int),evLP (E_z83 m0) n (sub C_z83 [1,1,1,1,1,1,0,1,0,0]) K (qhm s0 chars1 i12)=(qco m0) (fun s4=>K .ret (frOf [(4,dc s4)])) (K (.exit 4) (frOf [])) n s0 chars1 i12:=by
 intro n;induction n with
 | zero=>intros; rfl
 | succ n IH =>
 intro s0 chars1 i12;have ih:(fun s0 chars1 i12=>evLP (E_z83 m0) n (sub C_z83 [1,1,1,1,1,1,0,1,0,0]) K (qhm s0 chars1 i12))=(qco m0) (fun s4=>K .ret (frOf [(4,dc s4)])) (K (.exit 4) (frOf [])) n:=by
  funext s0 chars1 i12;exact IH s0 chars1 i12
 show _=(qdT m0) (fun s4=>K .ret (frOf [(4,dc s4)])) (K (.exit 4) (frOf [])) ((qco m0) (fun s4=>K .ret (frOf [(4,dc s4)])) (K (.exit 4) (frOf [])) n) n s0 chars1 i12;rw [← ih];unfold qdT qt;rw [show (qcn m0) (fun s4=>K .ret (frOf [(4,dc s4)])) ((qcF m0) (fun s4=>K .ret (frOf [(4,dc s4)])) (K (.exit 4) (frOf [])) (fun s0 chars1 i12=>evLP (E_z83 m0) n (sub C_z83 [1,1,1,1,1,1,0,1,0,0]) K (qhm s0 chars1 i12)) n) n=(fun s0 chars1 width11 i12 r13 s121 s121p=>evLP (E_z83 m0) n (sub C_z83 [1,1,1,1,1,1,0,1,0,0,1,0,0,1,1,1,1,1,0,0]) (qmo m0 n K) (qqe s0 chars1 width11 i12 r13 s121 s121p)) from by
  funext s0 chars1 width11 i12 r13 s121 s121p;refine Eq.trans ?_ ((qqh m0) (qmo m0 n K) n s0 chars1 width11 i12 r13 s121 s121p).symm;rw [show (fun s0 chars1 width11 i12=>(qmo m0 n K) (.exit 6) (qhl s0 chars1 width11 i12))=((qcF m0) (fun s4=>K .ret (frOf [(4,dc s4)])) (K (.exit 4) (frOf [])) (fun s0 chars1 i12=>evLP (E_z83 m0) n (sub C_z83 [1,1,1,1,1,1,0,1,0,0]) K (qhm s0 chars1 i12)) n) from by
   funext s0 chars1 width11 i12;exact (qli m0) K n s0 chars1 width11 i12]
  all_goals kernel_rfl]
 kernel_rfl
theorem qlj (m0:Int) (n:Nat)  : (qmq m0 n) (.exit 4) (frOf [])=(qcG m0) n  := by
 kernel_rfl
theorem qxG (m0:Int) (n:Nat) (s0:List UInt8) (o0:Lab) (chars1:List UInt8) (o1:Lab):evFnP (E_z83 m0) n C_z83 R_z83 [db s0 o0,df chars1 o1]=(qtf m0) n s0 chars1:=by
 unfold qtf qdU;rw [show (qiF m0) qae ((qiG m0) n) n=(fun s28 s28p=>evLP (E_z83 m0) n (sub C_z83 [1,1,0,1,0,1,0,1,0,0,1,0,0]) (qmn m0 n) (frOf [(28,(.itr s28 s28p))])) from by
  funext s28 s28p;refine Eq.trans ?_ ((qsr m0) (qmn m0 n) n s28 s28p).symm;rw [show ((qmn m0 n) (.exit 0) (frOf []))=((qiG m0) n) from by
   exact (qnR m0) n ]
  all_goals kernel_rfl]
 rw [show (qdR m0) qae ((qdS m0) n) n=(fun as7 s60 s61 s62=>evLP (E_z83 m0) n (sub C_z83 [1,1,1,1,0,1,0,1,1,0,0,1,0,0]) (qmp m0 n) (qqf as7 s60 s61 s62)) from by
  funext as7 s60 s61 s62;refine Eq.trans ?_ ((qqg m0) (qmp m0 n) n as7 s60 s61 s62).symm;rw [show ((qmp m0 n) (.exit 2) (frOf []))=((qdS m0) n) from by
   exact (qlh m0) n ]
  all_goals kernel_rfl]
 rw [show (qco m0) qae ((qcG m0) n) n=(fun s0 chars1 i12=>evLP (E_z83 m0) n (sub C_z83 [1,1,1,1,1,1,0,1,0,0]) (qmq m0 n) (qhm s0 chars1 i12)) from by
  funext s0 chars1 i12;refine Eq.trans ?_ ((qqi m0) (qmq m0 n) n s0 chars1 i12).symm;rw [show ((qmq m0 n) (.exit 4) (frOf []))=((qcG m0) n) from by
   exact (qlj m0) n ]
  all_goals kernel_rfl]
 kernel_rfl
theorem qqj (m0:Int):qp (Gm m0) Tryd.prog 83 s_z83:=by
 refine qF (qpQ m0) (E:=E_z83 m0) (fn:=Tryd.f83) (c:=C_z83) (qn rfl qeo) (fun w S hg=>⟨⟨(qb (qmh w S (G_of m0 hg)) (qb (qpU w S (G_of m0 hg)) (qb (qpW w S (G_of m0 hg)) (qb (qqd w S (G_of m0 hg)) (qb (qjH w S (G_of m0 hg)) (qb (qpX w S (G_of m0 hg)) (qb (qpV m0 w S hg) ql))))))),fun f sp h=>qbT f sp h w S⟩,hg.2,(fun _ _ h=>by cases h),(fun _ _ h=>by cases h),(fun _ _ h=>by cases h),(fun _ _ _ h=>by cases h)⟩) follows Tryd.func83 (by kernel_rfl) (by kernel_rfl) (by kernel_rfl) ?_;intro avs r h;unfold s_z83 at h;split at h
 ·obtain ⟨hp,rfl⟩:=yj h;obtain ⟨n,hn⟩:=qvT m0 _ _ hp;exact ⟨n,_,(qxG m0 n _ _ _ _).trans hn,.inl rfl⟩
 ·cases h
theorem qss:qp G Tryd.prog 83 s_z83:=fun w S hg=>by obtain ⟨m,h⟩:=G_to hg; exact qqj m w S h
def E_z53:EnvP:=eQ [(83,s_z83)] 9 (some [4]) nC nC nP
def C_z53:Code:=cO Tryd.f53
def R_z53:Array ResultVar:=Tryd.f53.results
theorem qxH (n:Nat) (b0:List UInt8) (o0:Lab) (chars1:List UInt8) (o1:Lab):evFnP E_z53 n C_z53 R_z53 [db b0 o0,df chars1 o1]=qvF n b0 chars1:=by
 kernel_rfl
theorem qst:qp G Tryd.prog 53 s_z53:=by
 refine sQ (E:=E_z53) (c:=C_z53) rfl (fun w S hg=>(qb (qss w S hg) ql)) Tryd.func53 ?_;intro avs r h;unfold s_z53 at h;split at h
 ·obtain ⟨hp,rfl⟩:=yj h;obtain ⟨n,hn⟩:=qvU _ _ hp;exact ⟨n,_,(qxH n _ _ _ _).trans hn,.inl rfl⟩
 ·cases h
def E_z88:EnvP:=eQ [(81,s_z81)] 9 (some [4]) nC nC nP
def C_z88:Code:=cO Tryd.f88
def R_z88:Array ResultVar:=Tryd.f88.results
theorem qxI (n:Nat) (b0:List UInt8) (o0:Lab) (subslice1:List UInt8) (o1:Lab):evFnP E_z88 n C_z88 R_z88 [db b0 o0,db subslice1 o1]=qvG n b0 subslice1:=by
 kernel_rfl
theorem qsu:qp G Tryd.prog 88 s_z88:=by
 refine sQ (E:=E_z88) (c:=C_z88) rfl (fun w S hg=>(qb (qmd w S hg) ql)) Tryd.func88 ?_;intro avs r h;unfold s_z88 at h;split at h
 ·obtain ⟨hp,rfl⟩:=yj h;obtain ⟨n,hn⟩:=qvX _ _ hp;exact ⟨n,_,(qxI n _ _ _ _).trans hn,.inl rfl⟩
 ·cases h
end
end Go.Av
