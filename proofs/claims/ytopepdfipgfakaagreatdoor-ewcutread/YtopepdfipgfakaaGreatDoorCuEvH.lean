import Derived.Test.YtopepdfipgfakaaGreatDoorCuEvG
import Derived.Test.YtopepdfipgfakaaGreatDoorCuC
import Derived.Test.YtopepdfipgfakaaGreatDoorProg
import Derived.KernelRfl
namespace Go.Av
set_option linter.unusedSimpArgs false
noncomputable section
open Go.Proofs
set_option maxRecDepth 100000
set_option linter.unusedVariables false
theorem qAW:qMS Gc Tryz.prog 67 s_z67:=fun w S hg vals avs s V x h hS ha=>by
 unfold s_z67 at h
 split at h
 ·cases h
  exact qyY hS ha
 ·cases h
def E_z28:EnvP:=⟨⟨tiOf tis,fnsOf [(66,s_z66),(68,s_z68)],cnsOf [],[],39,(fun x=>if x=2000007 then some [8,9,12] else none),(fun x=>if x=0 then some [8,9,12] else if x=1 then some [1047,1048,1051] else none),some [8,9,1047,1048,1051]⟩,(fun x=>if x=8 then some (.leaf (.sl (.sl (.int .i32)))) else if x=9 then some (.leaf (.int .i64)) else if x=12 then some (.osl 40 (.sl (.int .i32))) else if x=33 then some (.osl 40 (.sl (.int .i32))) else if x=37 then some (.osl 40 (.sl (.int .i32))) else none),fun _=>none,fun _=>[],fun _=>none,(fun x=>if x=67 then some s_z67 else none),(fun x=>if x=113 then some qEf else none),fun _=>none⟩
def C_z28:Code:=cO Tryz.f28
def R_z28:Array ResultVar:=Tryz.f28.results
theorem qOy (n:Nat) (charset0:Int) (o0:Lab) (code1:Int) (o1:Lab) (t2:List Int) (o2:Lab) (first3:Int) (o3:Lab):evFnP E_z28 n C_z28 R_z28 [.dat (.int .i64) charset0 o0,.dat (.int .i64) code1 o1,.dat (.sl (.int .i32)) t2 o2,.dat (.int .i64) first3 o3]=qGv n charset0 code1 t2 first3:=by
 kernel_rfl
theorem qAX:qe Gc Tryz.prog 28 s_z28:=by
 refine qN qbc (E:=E_z28) (fn:=Tryz.f28) (c:=C_z28) (qw rfl qhU) (fun w S hg=>⟨⟨(qb (qqg w S hg) (qb (qAq w S hg) qc)),fun f sp h=>qdr f sp h w S⟩,qbr w S hg,(fun _ _ h=>by cases h),(fun f sp h=>(qEO (qAW w S hg) qoV) f sp h),(fun f it h=>(qEP (qwB w S hg) qoW) f it h),(fun t kt vt h=>qfe t kt vt h)⟩) follows Tryz.func28 (by kernel_rfl) (by kernel_rfl) (by kernel_rfl) ?_
 intro avs r h
 unfold s_z28 at h
 split at h
 ·obtain ⟨hp,rfl⟩:=Prod.mk.inj h
  obtain ⟨n,hn⟩:=qFL _ _ _ _ hp
  exact ⟨n,_,(qOy n _ _ _ _ _ _ _ _).trans hn,.inl rfl⟩
 ·cases h
def qkr:EnvP:=eQ [(157,s_z157)] 19 (some [2]) (fun x=>if x=3 then some [0,3,5] else none) (fun x=>if x=0 then some [3] else if x=1 then some [0,3,5] else none) nP
def qsT:Code:=cO Tryz.f116
def qLD:Array ResultVar:=Tryz.f116.results
noncomputable def qgU (K:Ex→Fr→Option AV):=fun s3=>K (.exit 0) (frOf [(3,(.dat (.int .i64) s3 none))])
def qks (n:Nat):Ex→Fr→Option AV:=qo 0 (qkr.cutb 0) (kSeq (evCP qkr (evLP qkr n) (sub qsT [1,1,1])) (kFnP qkr qLD))
def qnZ (c0:Int) (s3:Int) (s5:Int):Fr:=frOf [(0,(.dat (.int .i32) c0 none)),(3,(.dat (.int .i64) s3 none)),(5,(.dat (.int .i64) s5 none))]
theorem qwC (K:Ex→Fr→Option AV):∀ (n:Nat) (c0:Int) (s3:Int) (s5:Int),evLP qkr n (sub qsT [1,1,0,1,0,0]) K (qnZ c0 s3 s5)=qei (qgU K) n c0 s3 s5:=by
 intro n
 induction n with
 | zero=>intros; rfl
 | succ n IH =>
 intro c0 s3 s5
 have ih:(fun c0 s3 s5=>evLP qkr n (sub qsT [1,1,0,1,0,0]) K (qnZ c0 s3 s5))=qei (qgU K) n:=by
  funext c0 s3 s5
  exact IH c0 s3 s5
 show _=qcK (qgU K) (qei (qgU K) n) n c0 s3 s5
 rw [← ih]
 kernel_rfl
theorem qoa (n:Nat) (s3:Int):(qks n) (.exit 0) (frOf [(3,(.dat (.int .i64) s3 none))])=qbx n s3:=by
 kernel_rfl
theorem qLE (n:Nat) (c0:Int) (o0:Lab):evFnP qkr n qsT qLD [.dat (.int .i32) c0 o0]=qqY n c0:=by
 unfold qqY
 rw [show qei (qbx n) n=(fun c0 s3 s5=>evLP qkr n (sub qsT [1,1,0,1,0,0]) (qks n) (qnZ c0 s3 s5)) from by
  funext c0 s3 s5
  refine Eq.trans ?_ (qwC (qks n) n c0 s3 s5).symm
  rw [show (qgU (qks n))=(qbx n) from by
   funext s3
   exact qoa n s3]
  all_goals kernel_rfl]
 kernel_rfl
theorem qwD:qe Gc Tryz.prog 116 s_z116:=by
 refine sQ (E:=qkr) (c:=qsT) rfl (fun w S hg=>(qb (qlO w S hg) qc)) Tryz.func116 ?_
 intro avs r h
 unfold s_z116 at h
 split at h <;> cases h
 obtain ⟨n,hn⟩:=qBq _
 exact ⟨n,_,(qLE n _ _).trans hn,.inl rfl⟩
def qLF:EnvP:=eQ [(201,s_z201)] 8 (some [2]) nC nC nP
def qLG:Code:=cO Tryz.f158
def qOz:Array ResultVar:=Tryz.f158.results
theorem qLH (n:Nat) (x0:Int) (o0:Lab):evFnP qLF n qLG qOz [.dat (.int .u64) x0 o0]=qyj n x0:=by
 kernel_rfl
theorem qwE:qe Gc Tryz.prog 158 s_z158:=by
 refine sQ (E:=qLF) (c:=qLG) rfl (fun w S hg=>(qb (quR w S hg) qc)) Tryz.func158 ?_
 intro avs r h
 unfold s_z158 at h
 split at h
 ·obtain ⟨hp,rfl⟩:=Prod.mk.inj h
  obtain ⟨n,hn⟩:=qBo _ hp
  exact ⟨n,_,(qLH n _ _).trans hn,.inl rfl⟩
 ·cases h
def qLI:EnvP:=eQ [(158,s_z158)] 8 (some [2]) nC nC nP
def qLJ:Code:=cO Tryz.f117
def qOA:Array ResultVar:=Tryz.f117.results
theorem qLK (n:Nat) (sets0:Int) (o0:Lab):evFnP qLI n qLJ qOA [.dat (.int .i64) sets0 o0]=qyk n sets0:=by
 kernel_rfl
theorem qwF:qe Gc Tryz.prog 117 s_z117:=by
 refine sQ (E:=qLI) (c:=qLJ) rfl (fun w S hg=>(qb (qwE w S hg) qc)) Tryz.func117 ?_
 intro avs r h
 unfold s_z117 at h
 split at h
 ·obtain ⟨hp,rfl⟩:=Prod.mk.inj h
  obtain ⟨n,hn⟩:=qBp _ hp
  exact ⟨n,_,(qLK n _ _).trans hn,.inl rfl⟩
 ·cases h
def E_z71:EnvP:=eQ [(116,s_z116),(117,s_z117)] 22 (some [2,3]) (fun x=>if x=3 then some [4,7,8,9] else none) (fun x=>if x=0 then some [4] else if x=1 then some [4,7,8,9] else none) nP
def C_z71:Code:=cO Tryz.f71
def R_z71:Array ResultVar:=Tryz.f71.results
noncomputable def qlR (K:Ex→Fr→Option AV):=fun all4=>K (.exit 0) (frOf [(4,(.dat (.int .i64) all4 none))])
def qqh (n:Nat):Ex→Fr→Option AV:=qo 0 (E_z71.cutb 0) (kSeq (evCP E_z71 (evLP E_z71 n) (sub C_z71 [1,1,1])) (kFnP E_z71 R_z71))
def qwG (all4:Int) (s7:List Int) (s8:Int) (s9:Int):Fr:=frOf [(4,(.dat (.int .i64) all4 none)),(7,(.dat (.sl (.int .i32)) s7 none)),(8,(.dat (.int .i64) s8 none)),(9,(.dat (.int .i64) s9 none))]
theorem qAY (K:Ex→Fr→Option AV):∀ (n:Nat) (all4:Int) (s7:List Int) (s8:Int) (s9:Int),evLP E_z71 n (sub C_z71 [1,1,0,1,0,0]) K (qwG all4 s7 s8 s9)=qos (qlR K) n all4 s7 s8 s9:=by
 intro n
 induction n with
 | zero=>intros; rfl
 | succ n IH =>
 intro all4 s7 s8 s9
 have ih:(fun all4 s7 s8 s9=>evLP E_z71 n (sub C_z71 [1,1,0,1,0,0]) K (qwG all4 s7 s8 s9))=qos (qlR K) n:=by
  funext all4 s7 s8 s9
  exact IH all4 s7 s8 s9
 show _=qeW (qlR K) (qos (qlR K) n) n all4 s7 s8 s9
 rw [← ih]
 kernel_rfl
theorem qsU (n:Nat) (all4:Int):(qqh n) (.exit 0) (frOf [(4,(.dat (.int .i64) all4 none))])=qdm n all4:=by
 kernel_rfl
theorem qOB (n:Nat) (t0:List Int) (o0:Lab):evFnP E_z71 n C_z71 R_z71 [.dat (.sl (.int .i32)) t0 o0]=qBP n t0:=by
 unfold qBP
 rw [show qos (qdm n) n=(fun all4 s7 s8 s9=>evLP E_z71 n (sub C_z71 [1,1,0,1,0,0]) (qqh n) (qwG all4 s7 s8 s9)) from by
  funext all4 s7 s8 s9
  refine Eq.trans ?_ (qAY (qqh n) n all4 s7 s8 s9).symm
  rw [show (qlR (qqh n))=(qdm n) from by
   funext all4
   exact qsU n all4]
  all_goals kernel_rfl]
 kernel_rfl
theorem qAZ:qe Gc Tryz.prog 71 s_z71:=by
 refine sQ (E:=E_z71) (c:=C_z71) rfl (fun w S hg=>(qb (qwD w S hg) (qb (qwF w S hg) qc))) Tryz.func71 ?_
 intro avs r h
 unfold s_z71 at h
 split at h
 ·obtain ⟨hp,rfl⟩:=Prod.mk.inj h
  obtain ⟨n,hn⟩:=qFK _ hp
  exact ⟨n,_,(qOB n _ _).trans hn,.inl rfl⟩
 ·cases h
def qLL:EnvP:=eQ [(112,s_z112)] 17 (some [6]) nC nC nP
def qLM:Code:=cO Tryz.f159
def qOC:Array ResultVar:=Tryz.f159.results
theorem qLN (n:Nat) (charset0:Int) (o0:Lab) (code1:Int) (o1:Lab) (t2:List Int) (o2:Lab):evFnP qLL n qLM qOC [.dat (.int .i64) charset0 o0,.dat (.int .i64) code1 o1,.dat (.sl (.int .i32)) t2 o2]=qyn n charset0 code1 t2:=by
 kernel_rfl
theorem qwH:qe Gc Tryz.prog 159 s_z159:=by
 refine sQ (E:=qLL) (c:=qLM) rfl (fun w S hg=>(qb (qgS w S hg) qc)) Tryz.func159 ?_
 intro avs r h
 unfold s_z159 at h
 split at h
 ·obtain ⟨hp,rfl⟩:=Prod.mk.inj h
  obtain ⟨n,hn⟩:=qDs _ _ _ hp
  exact ⟨n,_,(qLN n _ _ _ _ _ _).trans hn,.inl rfl⟩
 ·cases h
def qLO:EnvP:=eQ [(159,s_z159)] 12 (some [4]) nC nC nP
def qLP:Code:=cO Tryz.f118
def qOD:Array ResultVar:=Tryz.f118.results
theorem qLQ (n:Nat) (charset0:Int) (o0:Lab) (t1:List Int) (o1:Lab):evFnP qLO n qLP qOD [.dat (.int .i64) charset0 o0,.dat (.sl (.int .i32)) t1 o1]=qyp n charset0 t1:=by
 kernel_rfl
theorem qwI:qe Gc Tryz.prog 118 s_z118:=by
 refine sQ (E:=qLO) (c:=qLP) rfl (fun w S hg=>(qb (qwH w S hg) qc)) Tryz.func118 ?_
 intro avs r h
 unfold s_z118 at h
 split at h
 ·obtain ⟨hp,rfl⟩:=Prod.mk.inj h
  obtain ⟨n,hn⟩:=qDt _ _ hp
  exact ⟨n,_,(qLQ n _ _ _ _).trans hn,.inl rfl⟩
 ·cases h
def E_z72:EnvP:=eQ [(112,s_z112),(118,s_z118)] 21 (some [4,5]) nC nC nP
def C_z72:Code:=cO Tryz.f72
def R_z72:Array ResultVar:=Tryz.f72.results
theorem qOE (n:Nat) (charset0:Int) (o0:Lab) (t1:List Int) (o1:Lab):evFnP E_z72 n C_z72 R_z72 [.dat (.int .i64) charset0 o0,.dat (.sl (.int .i32)) t1 o1]=qGw n charset0 t1:=by
 kernel_rfl
theorem qBa:qe Gc Tryz.prog 72 s_z72:=by
 refine sQ (E:=E_z72) (c:=C_z72) rfl (fun w S hg=>(qb (qgS w S hg) (qb (qwI w S hg) qc))) Tryz.func72 ?_
 intro avs r h
 unfold s_z72 at h
 split at h
 ·obtain ⟨hp,rfl⟩:=Prod.mk.inj h
  obtain ⟨n,hn⟩:=qHA _ _ hp
  exact ⟨n,_,(qOE n _ _ _ _).trans hn,.inl rfl⟩
 ·cases h
def E_z30:EnvP:=eQ [(71,s_z71),(72,s_z72)] 25 (some [2,3,4]) nC nC nP
def C_z30:Code:=cO Tryz.f30
def R_z30:Array ResultVar:=Tryz.f30.results
theorem qOF (n:Nat) (t0:List Int) (o0:Lab):evFnP E_z30 n C_z30 R_z30 [.dat (.sl (.int .i32)) t0 o0]=qGx n t0:=by
 kernel_rfl
theorem qBb:qe Gc Tryz.prog 30 s_z30:=by
 refine sQ (E:=E_z30) (c:=C_z30) rfl (fun w S hg=>(qb (qAZ w S hg) (qb (qBa w S hg) qc))) Tryz.func30 ?_
 intro avs r h
 unfold s_z30 at h
 split at h
 ·obtain ⟨hp,rfl⟩:=Prod.mk.inj h
  obtain ⟨n,hn⟩:=qFM _ hp
  exact ⟨n,_,(qOF n _ _).trans hn,.inl rfl⟩
 ·cases h
def qLR:EnvP:=eQ [] 6 (some [2]) nC nC nP
def qLS:Code:=cO Tryz.f181
def qOG:Array ResultVar:=Tryz.f181.results
theorem qLT (n:Nat) (n0:Int) (o0:Lab):evFnP qLR n qLS qOG [.dat (.int .i64) n0 o0]=qys n n0:=by
 kernel_rfl
theorem qwJ:qe Gc Tryz.prog 181 s_z181:=by
 refine sQ (E:=qLR) (c:=qLS) rfl (fun w S hg=>qc) Tryz.func181 ?_
 intro avs r h
 unfold s_z181 at h
 split at h
 ·obtain ⟨hp,rfl⟩:=Prod.mk.inj h
  obtain ⟨n,hn⟩:=qCe _ hp
  exact ⟨n,_,(qLT n _ _).trans hn,.inl rfl⟩
 ·cases h
def qLU:EnvP:=eQ [(181,s_z181)] 11 (some [2]) nC nC nP
def qLV:Code:=cO Tryz.f130
def qOH:Array ResultVar:=Tryz.f130.results
theorem qLW (n:Nat) (c0:UInt8) (o0:Lab):evFnP qLU n qLV qOH [.dat .byte c0 o0]=qyu n c0:=by
 kernel_rfl
theorem qwK:qe Gc Tryz.prog 130 s_z130:=by
 refine sQ (E:=qLU) (c:=qLV) rfl (fun w S hg=>(qb (qwJ w S hg) qc)) Tryz.func130 ?_
 intro avs r h
 unfold s_z130 at h
 split at h <;> cases h
 obtain ⟨n,hn⟩:=qCk _
 exact ⟨n,_,(qLW n _ _).trans hn,.inl rfl⟩
def E_z85:EnvP:=eQ [(38,s_z38),(130,s_z130)] 15 (some [6]) nC nC nP
def C_z85:Code:=cO Tryz.f85
def R_z85:Array ResultVar:=Tryz.f85.results
theorem qOI (n:Nat) (b0:List UInt8) (o0:Lab) (sign1:UInt8) (o1:Lab) (c2:UInt8) (o2:Lab):evFnP E_z85 n C_z85 R_z85 [.dat (.sl .byte) b0 o0,.dat .byte sign1 o1,.dat .byte c2 o2]=qGy n b0 sign1 c2:=by
 kernel_rfl
theorem qBc:qe Gc Tryz.prog 85 s_z85:=by
 refine sQ (E:=E_z85) (c:=C_z85) rfl (fun w S hg=>(qb (qpD w S hg) (qb (qwK w S hg) qc))) Tryz.func85 ?_
 intro avs r h
 unfold s_z85 at h
 split at h
 ·obtain ⟨hp,rfl⟩:=Prod.mk.inj h
  obtain ⟨n,hn⟩:=qGN _ _ _ hp
  exact ⟨n,_,(qOI n _ _ _ _ _ _).trans hn,.inl rfl⟩
 ·cases h
def E_z46:EnvP:=eQ [(83,s_z83),(84,s_z84),(85,s_z85)] 34 (some [2]) (fun x=>if x=3 then some [3,9,10,11] else none) (fun x=>if x=0 then some [3] else if x=1 then some [3,9,10,11] else if x=2 then some [3,9,10,11] else none) nP
def C_z46:Code:=cO Tryz.f46
def R_z46:Array ResultVar:=Tryz.f46.results
noncomputable def qlS (K:Ex→Fr→Option AV):=fun out3=>K (.exit 0) (frOf [(3,(.dat (.sl .byte) out3 (some (3,5))))])
def qqi (n:Nat):Ex→Fr→Option AV:=qo 0 (E_z46.cutb 0) (kSeq (evCP E_z46 (evLP E_z46 n) (sub C_z46 [1,1,1])) (kFnP E_z46 R_z46))
def qwL (out3:List UInt8) (s9:List UInt8) (s10:Int) (s11:Int):Fr:=frOf [(3,(.dat (.sl .byte) out3 (some (3,5)))),(9,(.dat (.sl .byte) s9 none)),(10,(.dat (.int .i64) s10 none)),(11,(.dat (.int .i64) s11 none))]
theorem qBd (K:Ex→Fr→Option AV):∀ (n:Nat) (out3:List UInt8) (s9:List UInt8) (s10:Int) (s11:Int),evLP E_z46 n (sub C_z46 [1,1,0,1,0,0]) K (qwL out3 s9 s10 s11)=qot (qlS K) n out3 s9 s10 s11:=by
 intro n
 induction n with
 | zero=>intros; rfl
 | succ n IH =>
 intro out3 s9 s10 s11
 have ih:(fun out3 s9 s10 s11=>evLP E_z46 n (sub C_z46 [1,1,0,1,0,0]) K (qwL out3 s9 s10 s11))=qot (qlS K) n:=by
  funext out3 s9 s10 s11
  exact IH out3 s9 s10 s11
 show _=qeX (qlS K) (qot (qlS K) n) n out3 s9 s10 s11
 rw [← ih]
 kernel_rfl
theorem qsV (n:Nat) (out3:List UInt8):(qqi n) (.exit 0) (frOf [(3,(.dat (.sl .byte) out3 (some (3,5))))])=qhE n out3:=by
 kernel_rfl
theorem qOJ (n:Nat) (s0:List UInt8) (o0:Lab):evFnP E_z46 n C_z46 R_z46 [.dat (.sl .byte) s0 o0]=qBQ n s0:=by
 unfold qBQ
 rw [show qot (qhE n) n=(fun out3 s9 s10 s11=>evLP E_z46 n (sub C_z46 [1,1,0,1,0,0]) (qqi n) (qwL out3 s9 s10 s11)) from by
  funext out3 s9 s10 s11
  refine Eq.trans ?_ (qBd (qqi n) n out3 s9 s10 s11).symm
  rw [show (qlS (qqi n))=(qhE n) from by
   funext out3
   exact qsV n out3]
  all_goals kernel_rfl]
 kernel_rfl
theorem qBe:qe Gc Tryz.prog 46 s_z46:=by
 refine sQ (E:=E_z46) (c:=C_z46) rfl (fun w S hg=>(qb (qpZ w S hg) (qb (qpX w S hg) (qb (qBc w S hg) qc)))) Tryz.func46 ?_
 intro avs r h
 unfold s_z46 at h
 split at h
 ·obtain ⟨hp,rfl⟩:=Prod.mk.inj h
  obtain ⟨n,hn⟩:=qHg _ hp
  exact ⟨n,_,(qOJ n _ _).trans hn,.inl rfl⟩
 ·cases h
def qLX:EnvP:=eQ [] 6 (some [2]) nC nC nP
def qLY:Code:=cO Tryz.f132
def qOK:Array ResultVar:=Tryz.f132.results
theorem qLZ (n:Nat) (n0:Int) (o0:Lab):evFnP qLX n qLY qOK [.dat (.int .i64) n0 o0]=qyw n n0:=by
 kernel_rfl
theorem qwM:qe Gc Tryz.prog 132 s_z132:=by
 refine sQ (E:=qLX) (c:=qLY) rfl (fun w S hg=>qc) Tryz.func132 ?_
 intro avs r h
 unfold s_z132 at h
 split at h <;> cases h
 obtain ⟨n,hn⟩:=qCs _
 exact ⟨n,_,(qLZ n _ _).trans hn,.inl rfl⟩
def E_z88:EnvP:=eQ [(132,s_z132)] 49 (some [2]) (fun x=>if x=4 then some [3,4,5,8,9,10] else if x=8 then some [3,4,5,8,9,10] else none) (fun x=>if x=0 then some [3,4,5] else if x=1 then some [3,4,5,8,9,10] else if x=2 then some [3,4,5,8,9,10] else if x=3 then some [3,4,5,8,9,10] else none) nP
def C_z88:Code:=cO Tryz.f88
def R_z88:Array ResultVar:=Tryz.f88.results
def qbR (out3:List UInt8) (held4:Int) (many5:Int) (s8:List UInt8) (s9:Int) (s10:Int):Fr:=frOf [(3,(.dat (.sl .byte) out3 (some (3,5)))),(4,(.dat (.int .i64) held4 none)),(5,(.dat (.int .i64) many5 none)),(8,(.dat (.sl .byte) s8 none)),(9,(.dat (.int .i64) s9 none)),(10,(.dat (.int .i64) s10 none))]
noncomputable def qlT (K:Ex→Fr→Option AV):=fun out3 held4 many5 s8 s9 s10=>K (.exit 2) (qbR out3 held4 many5 s8 s9 s10)
def qwN (out3:List UInt8) (held4:Int) (many5:Int):Fr:=frOf [(3,(.dat (.sl .byte) out3 (some (3,5)))),(4,(.dat (.int .i64) held4 none)),(5,(.dat (.int .i64) many5 none))]
noncomputable def qgV (K:Ex→Fr→Option AV):=fun out3 held4 many5=>K (.exit 0) (qwN out3 held4 many5)
def qqj (n:Nat) (K:Ex→Fr→Option AV):Ex→Fr→Option AV:=qo 2 (E_z88.cutb 2) (kSeq (evCP E_z88 (evLP E_z88 n) (sub C_z88 [1,1,1,0,1,0,0,1,1,0,0,1,1,1,1])) (qo 1 (E_z88.cutb 1) (kSeq (evCP E_z88 (evLP E_z88 n) (sub C_z88 [1,1,1,0,1,0,0,1,1,1])) (kSeq (fun K fr=>evLP E_z88 n (sub C_z88 [1,1,1,0,1,0,0]) K (cutFP (E_z88.cuts 4) fr)) K))))
def qqk (n:Nat):Ex→Fr→Option AV:=qo 0 (E_z88.cutb 0) (kSeq (evCP E_z88 (evLP E_z88 n) (sub C_z88 [1,1,1,1])) (kFnP E_z88 R_z88))
theorem qBf (K:Ex→Fr→Option AV):∀ (n:Nat) (out3:List UInt8) (held4:Int) (many5:Int) (s8:List UInt8) (s9:Int) (s10:Int),evLP E_z88 n (sub C_z88 [1,1,1,0,1,0,0,1,1,0,0,1,1,1,0,0,0]) K (qbR out3 held4 many5 s8 s9 s10)=qeY (qlT K) n out3 held4 many5 s8 s9 s10:=by
 intro n
 induction n with
 | zero=>intros; rfl
 | succ n IH =>
 intro out3 held4 many5 s8 s9 s10
 have ih:(fun out3 held4 many5 s8 s9 s10=>evLP E_z88 n (sub C_z88 [1,1,1,0,1,0,0,1,1,0,0,1,1,1,0,0,0]) K (qbR out3 held4 many5 s8 s9 s10))=qeY (qlT K) n:=by
  funext out3 held4 many5 s8 s9 s10
  exact IH out3 held4 many5 s8 s9 s10
 show _=qyx (qlT K) (qeY (qlT K) n) n out3 held4 many5 s8 s9 s10
 rw [← ih]
 kernel_rfl
theorem qsW (K:Ex→Fr→Option AV) (n:Nat) (out3:List UInt8) (held4:Int) (many5:Int) (s8:List UInt8) (s9:Int) (s10:Int):(qqj n K) (.exit 2) (qbR out3 held4 many5 s8 s9 s10)=qbU (fun out3 held4 many5=>K (.exit 0) (qwN out3 held4 many5)) (fun out3 held4 many5 s8 s9 s10=>evLP E_z88 n (sub C_z88 [1,1,1,0,1,0,0]) K (qbR out3 held4 many5 s8 s9 s10)) n out3 held4 many5 s8 s9 s10:=by
 kernel_rfl
theorem qBg (K:Ex→Fr→Option AV):∀ (n:Nat) (out3:List UInt8) (held4:Int) (many5:Int) (s8:List UInt8) (s9:Int) (s10:Int),evLP E_z88 n (sub C_z88 [1,1,1,0,1,0,0]) K (qbR out3 held4 many5 s8 s9 s10)=qou (qgV K) n out3 held4 many5 s8 s9 s10:=by
 intro n
 induction n with
 | zero=>intros; rfl
 | succ n IH =>
 intro out3 held4 many5 s8 s9 s10
 have ih:(fun out3 held4 many5 s8 s9 s10=>evLP E_z88 n (sub C_z88 [1,1,1,0,1,0,0]) K (qbR out3 held4 many5 s8 s9 s10))=qou (qgV K) n:=by
  funext out3 held4 many5 s8 s9 s10
  exact IH out3 held4 many5 s8 s9 s10
 show _=qdn (qgV K) (qou (qgV K) n) n out3 held4 many5 s8 s9 s10
 rw [← ih]
 unfold qdn
 rw [show qeY (qbU (qgV K) (fun out3 held4 many5 s8 s9 s10=>evLP E_z88 n (sub C_z88 [1,1,1,0,1,0,0]) K (qbR out3 held4 many5 s8 s9 s10)) n) n=(fun out3 held4 many5 s8 s9 s10=>evLP E_z88 n (sub C_z88 [1,1,1,0,1,0,0,1,1,0,0,1,1,1,0,0,0]) (qqj n K) (qbR out3 held4 many5 s8 s9 s10)) from by
  funext out3 held4 many5 s8 s9 s10
  refine Eq.trans ?_ (qBf (qqj n K) n out3 held4 many5 s8 s9 s10).symm
  rw [show (qlT (qqj n K))=(qbU (qgV K) (fun out3 held4 many5 s8 s9 s10=>evLP E_z88 n (sub C_z88 [1,1,1,0,1,0,0]) K (qbR out3 held4 many5 s8 s9 s10)) n) from by
   funext out3 held4 many5 s8 s9 s10
   exact qsW K n out3 held4 many5 s8 s9 s10]
  all_goals kernel_rfl]
 kernel_rfl
theorem qsX (n:Nat) (out3:List UInt8) (held4:Int) (many5:Int):(qqk n) (.exit 0) (qwN out3 held4 many5)=qdo n out3 held4 many5:=by
 kernel_rfl
theorem qOL (n:Nat) (s0:List UInt8) (o0:Lab):evFnP E_z88 n C_z88 R_z88 [.dat (.sl .byte) s0 o0]=qBR n s0:=by
 unfold qBR
 rw [show qou (qdo n) n=(fun out3 held4 many5 s8 s9 s10=>evLP E_z88 n (sub C_z88 [1,1,1,0,1,0,0]) (qqk n) (qbR out3 held4 many5 s8 s9 s10)) from by
  funext out3 held4 many5 s8 s9 s10
  refine Eq.trans ?_ (qBg (qqk n) n out3 held4 many5 s8 s9 s10).symm
  rw [show (qgV (qqk n))=(qdo n) from by
   funext out3 held4 many5
   exact qsX n out3 held4 many5]
  all_goals kernel_rfl]
 kernel_rfl
theorem qBh:qe Gc Tryz.prog 88 s_z88:=by
 refine sQ (E:=E_z88) (c:=C_z88) rfl (fun w S hg=>(qb (qwM w S hg) qc)) Tryz.func88 ?_
 intro avs r h
 unfold s_z88 at h
 split at h
 ·obtain ⟨hp,rfl⟩:=Prod.mk.inj h
  obtain ⟨n,hn⟩:=qHd _ hp
  exact ⟨n,_,(qOL n _ _).trans hn,.inl rfl⟩
 ·cases h
end
end Go.Av
