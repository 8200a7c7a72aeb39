import Derived.Test.YtcfhfjjohmdaoaaDoorFwEvA
import Derived.Test.YtcfhfjjohmdaoaaDoorFwWalk
import Derived.Test.YtcfhfjjohmdaoaaDoorProg
import Derived.KernelRfl
namespace Go.Av
set_option linter.unusedSimpArgs false
noncomputable section
open Go.Proofs
set_option maxRecDepth 100000
set_option linter.unusedVariables false
def E_z76:EnvP:=⟨⟨tiOf tis,fnsOf [(91,s_bytes_trimLeftByteF),(92,s_z92),(93,s_z93),(94,s_z94)],cnsOf [],[],36,(fun _=>none),(fun _=>none),some [1000004]⟩,fun _=>none,fun _=>none,(fun x=>if x=500009 then [5] else []),fun _=>none,fun _=>none,fun _=>none,fun _=>none⟩
def C_z76:Code:=cO Tryd.f76
def R_z76:Array ResultVar:=Tryd.f76.results
theorem qxs (n:Nat) (s0:List UInt8) (o0:Lab) (cutset1:List UInt8) (o1:Lab):evFnP E_z76 n C_z76 R_z76 [db s0 o0,df cutset1 o1]=qvw n s0 cutset1:=by
 kernel_rfl
theorem qsi:qp G Tryd.prog 76 s_z76:=by
 refine qF G_stays (E:=E_z76) (fn:=Tryd.f76) (c:=C_z76) (qn rfl qeo) (fun w S hg=>⟨⟨(qb (qbD w S hg) (qb (qmh w S hg) (qb (qsh w S hg) (qb (qse w S hg) ql)))),fun f sp h=>qbT f sp h w S⟩,qjE w S hg,(fun _ _ h=>by cases h),(fun f sp h=>qcQ f sp h),(fun f it h=>qcS f it h),(fun t kt vt h=>qcR t kt vt h)⟩) follows Tryd.func76 (by kernel_rfl) (by kernel_rfl) (by kernel_rfl) ?_;intro avs r h;unfold s_z76 at h;split at h
 ·obtain ⟨hp,rfl⟩:=yj h;obtain ⟨n,hn⟩:=quP _ _ hp;exact ⟨n,_,(qxs n _ _ _ _).trans hn,.inl rfl⟩
 ·cases h
def E_z42:EnvP:=eQ [(76,s_z76)] 9 (some [2]) nC nC nP
def C_z42:Code:=cO Tryd.f42
def R_z42:Array ResultVar:=Tryd.f42.results
theorem qxt (n:Nat) (line0:List UInt8) (o0:Lab):evFnP E_z42 n C_z42 R_z42 [db line0 o0]=qvx n line0:=by
 kernel_rfl
theorem qij:qp G Tryd.prog 42 s_z42:=by
 refine sQ (E:=E_z42) (c:=C_z42) rfl (fun w S hg=>(qb (qsi w S hg) ql)) Tryd.func42 ?_;intro avs r h;unfold s_z42 at h;split at h
 ·obtain ⟨hp,rfl⟩:=yj h;obtain ⟨n,hn⟩:=quS _ hp;exact ⟨n,_,(qxt n _ _).trans hn,.inl rfl⟩
 ·cases h
def E_z96:EnvP:=eQ [] 10 (some [4]) nC nC nP
def C_z96:Code:=cO Tryd.f96
def R_z96:Array ResultVar:=Tryd.f96.results
theorem qxu (n:Nat) (a0:List UInt8) (o0:Lab) (b1:List UInt8) (o1:Lab):evFnP E_z96 n C_z96 R_z96 [db a0 o0,db b1 o1]=qwW n a0 b1:=by
 kernel_rfl
theorem qjJ:qp Any Tryd.prog 96 s_z96:=by
 refine qF qdr (E:=E_z96) (fn:=Tryd.f96) (c:=C_z96) (qn rfl qeo) (fun w S hg=>⟨⟨ql,fun f sp h=>qbT f sp h w S⟩,glAny w S hg,(fun _ _ h=>by cases h),(fun f sp h=>qcQ f sp h),(fun f it h=>qcS f it h),(fun t kt vt h=>qcR t kt vt h)⟩) follows Tryd.func96 (by kernel_rfl) (by kernel_rfl) (by kernel_rfl) ?_;intro avs r h;unfold s_z96 at h;split at h <;> cases h
 obtain ⟨n,hn⟩:=qvW _ _;exact ⟨n,_,(qxu n _ _ _ _).trans hn,.inl rfl⟩
theorem qsj:qp G Tryd.prog 96 s_z96:=fun w S _=>qjJ w S trivial
def E_z95:EnvP:=eQ [(96,s_z96)] 18 (some [4]) nC nC nP
def C_z95:Code:=cO Tryd.f95
def R_z95:Array ResultVar:=Tryd.f95.results
theorem qxv (n:Nat) (s0:List UInt8) (o0:Lab) (prefix1:List UInt8) (o1:Lab):evFnP E_z95 n C_z95 R_z95 [db s0 o0,db prefix1 o1]=qvy n s0 prefix1:=by
 kernel_rfl
theorem qjK:qp Any Tryd.prog 95 s_z95:=by
 refine qF qdr (E:=E_z95) (fn:=Tryd.f95) (c:=C_z95) (qn rfl qeo) (fun w S hg=>⟨⟨(qb (qjJ w S trivial) ql),fun f sp h=>qbT f sp h w S⟩,glAny w S hg,(fun _ _ h=>by cases h),(fun f sp h=>qcQ f sp h),(fun f it h=>qcS f it h),(fun t kt vt h=>qcR t kt vt h)⟩) follows Tryd.func95 (by kernel_rfl) (by kernel_rfl) (by kernel_rfl) ?_;intro avs r h;unfold s_z95 at h;split at h <;> cases h
 obtain ⟨n,hn⟩:=qwb _ _;exact ⟨n,_,(qxv n _ _ _ _).trans hn,.inl rfl⟩
theorem qsk:qp G Tryd.prog 95 s_z95:=fun w S _=>qjK w S trivial
def E_z77:EnvP:=eQ [(95,s_z95)] 13 (some [4]) nC nC nP
def C_z77:Code:=cO Tryd.f77
def R_z77:Array ResultVar:=Tryd.f77.results
theorem qxw (n:Nat) (s0:List UInt8) (o0:Lab) (prefix1:List UInt8) (o1:Lab):evFnP E_z77 n C_z77 R_z77 [db s0 o0,db prefix1 o1]=qvz n s0 prefix1:=by
 kernel_rfl
theorem qsl:qp G Tryd.prog 77 s_z77:=by
 refine sQ (E:=E_z77) (c:=C_z77) rfl (fun w S hg=>(qb (qsk w S hg) ql)) Tryd.func77 ?_;intro avs r h;unfold s_z77 at h;split at h <;> cases h
 obtain ⟨n,hn⟩:=quT _ _;exact ⟨n,_,(qxw n _ _ _ _).trans hn,.inl rfl⟩
def E_z44:EnvP:=eQ [(42,s_z42),(60,s_z60),(77,s_z77)] 10 (some [2]) nC nC nP
def C_z44:Code:=cO Tryd.f44
def R_z44:Array ResultVar:=Tryd.f44.results
theorem qxx (n:Nat) (line0:List UInt8) (o0:Lab):evFnP E_z44 n C_z44 R_z44 [db line0 o0]=qvA n line0:=by
 kernel_rfl
theorem qik:qp G Tryd.prog 44 s_z44:=by
 refine sQ (E:=E_z44) (c:=C_z44) rfl (fun w S hg=>(qb (qij w S hg) (qb (qme w S hg) (qb (qsl w S hg) ql)))) Tryd.func44 ?_;intro avs r h;unfold s_z44 at h;split at h
 ·obtain ⟨hp,rfl⟩:=yj h;obtain ⟨n,hn⟩:=quU _ hp;exact ⟨n,_,(qxx n _ _).trans hn,.inl rfl⟩
 ·cases h
def E_z78:EnvP:=eQ [(96,s_z96)] 21 (some [4]) nC nC nP
def C_z78:Code:=cO Tryd.f78
def R_z78:Array ResultVar:=Tryd.f78.results
theorem qxy (n:Nat) (s0:List UInt8) (o0:Lab) (suffix1:List UInt8) (o1:Lab):evFnP E_z78 n C_z78 R_z78 [db s0 o0,db suffix1 o1]=qvB n s0 suffix1:=by
 kernel_rfl
theorem qmj:qp G Tryd.prog 78 s_z78:=by
 refine sQ (E:=E_z78) (c:=C_z78) rfl (fun w S hg=>(qb (qsj w S hg) ql)) Tryd.func78 ?_;intro avs r h;unfold s_z78 at h;split at h
 ·obtain ⟨hp,rfl⟩:=yj h;obtain ⟨n,hn⟩:=qwa _ _ hp;exact ⟨n,_,(qxy n _ _ _ _).trans hn,.inl rfl⟩
 ·cases h
def E_z46:EnvP:=eQ [(44,s_z44),(78,s_z78)] 14 (some [2]) nC nC nP
def C_z46:Code:=cO Tryd.f46
def R_z46:Array ResultVar:=Tryd.f46.results
theorem qxz (n:Nat) (line0:List UInt8) (o0:Lab):evFnP E_z46 n C_z46 R_z46 [db line0 o0]=qvC n line0:=by
 kernel_rfl
theorem qmk:qp G Tryd.prog 46 s_z46:=by
 refine sQ (E:=E_z46) (c:=C_z46) rfl (fun w S hg=>(qb (qik w S hg) (qb (qmj w S hg) ql))) Tryd.func46 ?_;intro avs r h;unfold s_z46 at h;split at h
 ·obtain ⟨hp,rfl⟩:=yj h;obtain ⟨n,hn⟩:=quV _ hp;exact ⟨n,_,(qxz n _ _).trans hn,.inl rfl⟩
 ·cases h
def E_z69:EnvP:=eQ [(42,s_z42),(44,s_z44),(46,s_z46)] 68 (some [68]) (fun x=>if x=3999999 then some [33,54] else none) nC (fun x=>if x=44 then some (.osl 5 .byte) else if x=47 then some (.osl 5 .byte) else if x=54 then some (.psl 77 (.ppair (.leaf (.int .i64)) (.ppair (.osl 5 .byte) (.leaf .unit)))) else if x=58 then some (.ppair (.leaf (.int .i64)) (.ppair (.osl 5 .byte) (.leaf .unit))) else if x=59 then some (.psl 77 (.ppair (.leaf (.int .i64)) (.ppair (.osl 5 .byte) (.leaf .unit)))) else if x=60 then some (.psl 77 (.ppair (.leaf (.int .i64)) (.ppair (.osl 5 .byte) (.leaf .unit)))) else none)
def C_z69:Code:=cO Tryd.f69
def R_z69:Array ResultVar:=Tryd.f69.results
theorem qxA (n:Nat) (r0:(List (Int×((List UInt8)×Unit)))×(Bool×Unit)) (line1:List UInt8) (o1:Lab):evFnM E_z69 n C_z69 R_z69 [.pbox (.ppair (.psl 77 (.ppair (.leaf (.int .i64)) (.ppair (.osl 5 .byte) (.leaf .unit)))) (.ppair (.leaf .bool) (.leaf .unit))) r0 none,db line1 o1]=qvD n r0 line1:=by
 kernel_rfl
theorem qsm:qwA G Tryd.prog 69 s_z69:=by
 refine qkN G_stays (E:=E_z69) (fn:=Tryd.f69) (c:=C_z69) (qn rfl qeo) (fun w S hg=>⟨⟨(qb (qij w S hg) (qb (qik w S hg) (qb (qmk w S hg) ql))),fun f sp h=>qbT f sp h w S⟩,qjE w S hg,(fun _ _ h=>by cases h),(fun f sp h=>qcQ f sp h),(fun f it h=>qcS f it h),(fun t kt vt h=>qcR t kt vt h)⟩) follows Tryd.func69 (by kernel_rfl) (by kernel_rfl) (by kernel_rfl) ?_;intro avs r h;unfold s_z69 at h;split at h
 ·obtain ⟨hp,rfl⟩:=yj h;obtain ⟨n,hn⟩:=quY _ _ hp;exact ⟨n,(qxA n _ _ _).trans hn⟩
 ·cases h
def E_z99:EnvP:=eQ [(120,s_z120)] 8 (some [4]) nC nC nP
def C_z99:Code:=cO Tryd.f99
def R_z99:Array ResultVar:=Tryd.f99.results
theorem qxB (n:Nat) (b0:List UInt8) (o0:Lab) (c1:UInt8) (o1:Lab):evFnP E_z99 n C_z99 R_z99 [db b0 o0,.dat .byte c1 o1]=qwX n b0 c1:=by
 kernel_rfl
theorem qqa:qp Any Tryd.prog 99 s_z99:=by
 refine qF qdr (E:=E_z99) (fn:=Tryd.f99) (c:=C_z99) (qn rfl qeo) (fun w S hg=>⟨⟨(qb (qnM w S trivial) ql),fun f sp h=>qbT f sp h w S⟩,glAny w S hg,(fun _ _ h=>by cases h),(fun f sp h=>qcQ f sp h),(fun f it h=>qcS f it h),(fun t kt vt h=>qcR t kt vt h)⟩) follows Tryd.func99 (by kernel_rfl) (by kernel_rfl) (by kernel_rfl) ?_;intro avs r h;unfold s_z99 at h;split at h <;> cases h
 obtain ⟨n,hn⟩:=qwc _ _;exact ⟨n,_,(qxB n _ _ _ _).trans hn,.inl rfl⟩
def E_z51:EnvP:=eQ [(81,s_z81)] 23 (some [4,1000005,6]) nC nC nP
def C_z51:Code:=cO Tryd.f51
def R_z51:Array ResultVar:=Tryd.f51.results
theorem qxC (n:Nat) (s0:List UInt8) (o0:Lab) (sep1:List UInt8) (o1:Lab):evFnP E_z51 n C_z51 R_z51 [db s0 o0,db sep1 o1]=qvE n s0 sep1:=by
 kernel_rfl
theorem qsn:qp G Tryd.prog 51 s_z51:=by
 refine sQ (E:=E_z51) (c:=C_z51) rfl (fun w S hg=>(qb (qmd w S hg) ql)) Tryd.func51 ?_;intro avs r h;unfold s_z51 at h;split at h
 ·obtain ⟨hp,rfl⟩:=yj h;obtain ⟨n,hn⟩:=qvV _ _ hp;exact ⟨n,_,(qxC n _ _ _ _).trans hn,.inl rfl⟩
 ·cases h
def E_z70:EnvP:=eQ [(51,s_z51),(60,s_z60)] 25 (some [2]) (fun x=>if x=2 then some [0,3] else none) (fun x=>if x=0 then some [3] else if x=1 then some [0,3] else none) nP
def C_z70:Code:=cO Tryd.f70
def R_z70:Array ResultVar:=Tryd.f70.results
noncomputable def qjL (K:Ex→Fr→Option AV):=fun out3=>K (.exit 0) (frOf [(3,(.dat (.sl (.sl .byte)) out3 (some (3,22))))])
def qml (n:Nat):Ex→Fr→Option AV:=qL 0 (E_z70.cutb 0) (kSeq (evCP E_z70 (evLP E_z70 n) (sub C_z70 [1,1,1])) (kFnP E_z70 R_z70))
def qqb (s0:List UInt8) (out3:List (List UInt8)):Fr:=frOf [(0,da s0),(3,(.dat (.sl (.sl .byte)) out3 (some (3,22))))]
theorem qso (K:Ex→Fr→Option AV):∀ (n:Nat) (s0:List UInt8) (out3:List (List UInt8)),evLP E_z70 n (sub C_z70 [1,1,0,0,0]) K (qqb s0 out3)=qiD (qjL K) n s0 out3:=by
 intro n;induction n with
 | zero=>intros; rfl
 | succ n IH =>
 intro s0 out3;have ih:(fun s0 out3=>evLP E_z70 n (sub C_z70 [1,1,0,0,0]) K (qqb s0 out3))=qiD (qjL K) n:=by
  funext s0 out3;exact IH s0 out3
 show _=qiC (qjL K) (qiD (qjL K) n) n s0 out3;rw [← ih];kernel_rfl
theorem qnP (n:Nat) (out3:List (List UInt8)):(qml n) (.exit 0) (frOf [(3,(.dat (.sl (.sl .byte)) out3 (some (3,22))))])=qiE n out3:=by
 kernel_rfl
theorem qxD (n:Nat) (s0:List UInt8) (o0:Lab):evFnP E_z70 n C_z70 R_z70 [db s0 o0]=qtd n s0:=by
 unfold qtd;rw [show qiD (qiE n) n=(fun s0 out3=>evLP E_z70 n (sub C_z70 [1,1,0,0,0]) (qml n) (qqb s0 out3)) from by
  funext s0 out3;refine Eq.trans ?_ (qso (qml n) n s0 out3).symm;rw [show (qjL (qml n))=(qiE n) from by
   funext out3;exact qnP n out3]
  all_goals kernel_rfl]
 kernel_rfl
theorem qsp:qp G Tryd.prog 70 s_z70:=by
 refine sQ (E:=E_z70) (c:=C_z70) rfl (fun w S hg=>(qb (qsn w S hg) (qb (qme w S hg) ql))) Tryd.func70 ?_;intro avs r h;unfold s_z70 at h;split at h
 ·obtain ⟨hp,rfl⟩:=yj h;obtain ⟨n,hn⟩:=quZ _ hp;exact ⟨n,_,(qxD n _ _).trans hn,.inl rfl⟩
 ·cases h
end
end Go.Av
