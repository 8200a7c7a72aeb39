import Derived.Test.YtabdohophompiaaGreatDoorPxEvB
import Derived.Test.YtabdohophompiaaGreatDoorPxN
import Derived.Test.YtabdohophompiaaGreatDoorProg
import Derived.KernelRfl
namespace Go.Av
set_option linter.unusedSimpArgs false
noncomputable section
open Go.Proofs
set_option maxRecDepth 100000
set_option linter.unusedVariables false
def E_z88:EnvP:=eQ [(121,s_z121)] 5 (some [2]) nC nC nP
def C_z88:Code:=cO Tryz.f88
def R_z88:Array ResultVar:=Tryz.f88.results
theorem qId (n:Nat) (t0:List Int) (o0:Lab):evFnP E_z88 n C_z88 R_z88 [.dat (.sl (.int .i32)) t0 o0]=qCF n t0:=by
 kernel_rfl
theorem qwU:qe G Tryz.prog 88 s_z88:=by
 refine sQ (E:=E_z88) (c:=C_z88) rfl (fun w S hg=>(qa (qkm w S hg) qc)) Tryz.func88 ?_;intro avs r h;unfold s_z88 at h;split at h
 ·obtain ⟨hp,rfl⟩:=yj h;obtain ⟨n,hn⟩:=qDG _ hp;exact ⟨n,_,(qId n _ _).trans hn,.inl rfl⟩
 ·cases h
def E_z49:EnvP:=eQ [(88,s_z88)] 6 (some [2]) nC nC nP
def C_z49:Code:=cO Tryz.f49
def R_z49:Array ResultVar:=Tryz.f49.results
theorem qIe (n:Nat) (t0:List Int) (o0:Lab):evFnP E_z49 n C_z49 R_z49 [.dat (.sl (.int .i32)) t0 o0]=qCG n t0:=by
 kernel_rfl
theorem qnO:qe G Tryz.prog 49 s_z49:=by
 refine sQ (E:=E_z49) (c:=C_z49) rfl (fun w S hg=>(qa (qwU w S hg) qc)) Tryz.func49 ?_;intro avs r h;unfold s_z49 at h;split at h
 ·obtain ⟨hp,rfl⟩:=yj h;obtain ⟨n,hn⟩:=qDH _ hp;exact ⟨n,_,(qIe n _ _).trans hn,.inl rfl⟩
 ·cases h
def qFC:EnvP:=eQ [(108,s_z108)] 16 (some [2]) nC (fun x=>if x=0 then some [] else none) nP
def qFD:Code:=cO Tryz.f128
def qIf:Array ResultVar:=Tryz.f128.results
theorem qFE (n:Nat) (c0:Int) (o0:Lab):evFnP qFC n qFD qIf [di c0 o0]=quA n c0:=by
 kernel_rfl
theorem qsK:qe G Tryz.prog 128 s_z128:=by
 refine sQ (E:=qFC) (c:=qFD) rfl (fun w S hg=>(qa (qgD w S hg) qc)) Tryz.func128 ?_;intro avs r h;unfold s_z128 at h;split at h <;> cases h
 obtain ⟨n,hn⟩:=qzA _;exact ⟨n,_,(qFE n _ _).trans hn,.inl rfl⟩
def qFF:EnvP:=eQ [] 10 (some [2]) nC (fun x=>if x=0 then some [] else none) nP
def qFG:Code:=cO Tryz.f129
def qIg:Array ResultVar:=Tryz.f129.results
theorem qFH (n:Nat) (n0:Int) (o0:Lab):evFnP qFF n qFG qIg [de n0 o0]=quB n n0:=by
 kernel_rfl
theorem qsL:qe G Tryz.prog 129 s_z129:=by
 refine sQ (E:=qFF) (c:=qFG) rfl (fun w S hg=>qc) Tryz.func129 ?_;intro avs r h;unfold s_z129 at h;split at h <;> cases h
 obtain ⟨n,hn⟩:=qzp _;exact ⟨n,_,(qFH n _ _).trans hn,.inl rfl⟩
def qFI:EnvP:=eQ [(53,s_z53),(128,s_z128),(129,s_z129)] 56 (some [4,5]) nC (fun x=>if x=0 then some [7] else if x=1 then some [1,7] else if x=2 then some [1,7] else if x=3 then some [1,7] else none) nP
def qFJ:Code:=cO Tryz.f112
def qIh:Array ResultVar:=Tryz.f112.results
theorem qFK (n:Nat) (b0:List UInt8) (o0:Lab) (c1:Int) (o1:Lab):evFnP qFI n qFJ qIh [db b0 o0,di c1 o1]=quC n b0 c1:=by
 kernel_rfl
theorem qsM:qe G Tryz.prog 112 s_z112:=by
 refine sQ (E:=qFI) (c:=qFJ) rfl (fun w S hg=>(qa (qdF w S hg) (qa (qsK w S hg) (qa (qsL w S hg) qc)))) Tryz.func112 ?_;intro avs r h;unfold s_z112 at h;split at h
 ·obtain ⟨hp,rfl⟩:=yj h;obtain ⟨n,hn⟩:=qzB _ _ hp;exact ⟨n,_,(qFK n _ _ _ _).trans hn,.inl rfl⟩
 ·cases h
def E_z76:EnvP:=eQ [(49,s_z49),(112,s_z112)] 28 (some [2,3]) (fun x=>if x=5 then some [4,12,13,14] else none) (fun x=>if x=0 then some [4] else if x=1 then some [4,12,13,14] else none) nP
def C_z76:Code:=cO Tryz.f76
def R_z76:Array ResultVar:=Tryz.f76.results
noncomputable def qkn (K:Ex→Fr→Option AV):=fun out4=>K (.exit 0) (frOf [(4,(db out4 (some (4,5))))])
def qnP (n:Nat):Ex→Fr→Option AV:=qp 0 (E_z76.cutb 0) (kSeq (evCP E_z76 (evLP E_z76 n) (sub C_z76 [1,1,1,1])) (kFnP E_z76 R_z76))
def qsN (out4:List UInt8) (s12:List Int) (s13:Int) (s14:Int):Fr:=frOf [(4,(db out4 (some (4,5)))),(12,(.dat (.sl (.int .i32)) s12 none)),(13,dc s13),(14,dc s14)]
theorem qwV (K:Ex→Fr→Option AV):∀ (n:Nat) (out4:List UInt8) (s12:List Int) (s13:Int) (s14:Int),evLP E_z76 n (sub C_z76 [1,1,1,0,1,0,0]) K (qsN out4 s12 s13 s14)=qmc (qkn K) n out4 s12 s13 s14:=by
 intro n;induction n with
 | zero=>intros; rfl
 | succ n IH =>
 intro out4 s12 s13 s14;have ih:(fun out4 s12 s13 s14=>evLP E_z76 n (sub C_z76 [1,1,1,0,1,0,0]) K (qsN out4 s12 s13 s14))=qmc (qkn K) n:=by
  funext out4 s12 s13 s14;exact IH out4 s12 s13 s14
 show _=qev (qkn K) (qmc (qkn K) n) n out4 s12 s13 s14;rw [← ih];kernel_rfl
theorem qqj (n:Nat) (out4:List UInt8):(qnP n) (.exit 0) (frOf [(4,(db out4 (some (4,5))))])=qew n out4:=by
 kernel_rfl
theorem qIi (n:Nat) (t0:List Int) (o0:Lab):evFnP E_z76 n C_z76 R_z76 [.dat (.sl (.int .i32)) t0 o0]=qyD n t0:=by
 unfold qyD;rw [show qmc (qew n) n=(fun out4 s12 s13 s14=>evLP E_z76 n (sub C_z76 [1,1,1,0,1,0,0]) (qnP n) (qsN out4 s12 s13 s14)) from by
  funext out4 s12 s13 s14;refine Eq.trans ?_ (qwV (qnP n) n out4 s12 s13 s14).symm;rw [show (qkn (qnP n))=(qew n) from by
   funext out4;exact qqj n out4]
  all_goals kernel_rfl]
 kernel_rfl
theorem qwW:qe G Tryz.prog 76 s_z76:=by
 refine sQ (E:=E_z76) (c:=C_z76) rfl (fun w S hg=>(qa (qnO w S hg) (qa (qsM w S hg) qc))) Tryz.func76 ?_;intro avs r h;unfold s_z76 at h;split at h
 ·obtain ⟨hp,rfl⟩:=yj h;obtain ⟨n,hn⟩:=qDU _ hp;exact ⟨n,_,(qIi n _ _).trans hn,.inl rfl⟩
 ·cases h
def E_z77:EnvP:=eQ [(113,s_z113)] 28 (some [2,3]) (fun x=>if x=3 then some [4,9,10,11] else none) (fun x=>if x=0 then some [4] else if x=1 then some [4,9,10,11] else none) nP
def C_z77:Code:=cO Tryz.f77
def R_z77:Array ResultVar:=Tryz.f77.results
noncomputable def qnQ (K:Ex→Fr→Option AV):=fun s2 s3=>K .ret (frOf [(2,(db s2 (some (2,5)))),(3,dc s3)])
noncomputable def qko (K:Ex→Fr→Option AV):=fun s4=>K (.exit 0) (frOf [(4,(db s4 (some (4,5))))])
def qnR (n:Nat):Ex→Fr→Option AV:=qp 0 (E_z77.cutb 0) (kSeq (evCP E_z77 (evLP E_z77 n) (sub C_z77 [1,1,1])) (kFnP E_z77 R_z77))
def qsO (s4:List UInt8) (s9:List Int) (s10:Int) (s11:Int):Fr:=frOf [(4,(db s4 (some (4,5)))),(9,(.dat (.sl (.int .i32)) s9 none)),(10,dc s10),(11,dc s11)]
theorem qwX (K:Ex→Fr→Option AV):∀ (n:Nat) (s4:List UInt8) (s9:List Int) (s10:Int) (s11:Int),evLP E_z77 n (sub C_z77 [1,1,0,1,0,0]) K (qsO s4 s9 s10 s11)=qmd (qnQ K) (qko K) n s4 s9 s10 s11:=by
 intro n;induction n with
 | zero=>intros; rfl
 | succ n IH =>
 intro s4 s9 s10 s11;have ih:(fun s4 s9 s10 s11=>evLP E_z77 n (sub C_z77 [1,1,0,1,0,0]) K (qsO s4 s9 s10 s11))=qmd (qnQ K) (qko K) n:=by
  funext s4 s9 s10 s11;exact IH s4 s9 s10 s11
 show _=qex (qnQ K) (qko K) (qmd (qnQ K) (qko K) n) n s4 s9 s10 s11;rw [← ih];kernel_rfl
theorem qqk (n:Nat) (s4:List UInt8):(qnR n) (.exit 0) (frOf [(4,(db s4 (some (4,5))))])=qey n s4:=by
 kernel_rfl
theorem qIj (n:Nat) (t0:List Int) (o0:Lab):evFnP E_z77 n C_z77 R_z77 [.dat (.sl (.int .i32)) t0 o0]=qyE n t0:=by
 unfold qyE;rw [show qmd qhK (qey n) n=(fun s4 s9 s10 s11=>evLP E_z77 n (sub C_z77 [1,1,0,1,0,0]) (qnR n) (qsO s4 s9 s10 s11)) from by
  funext s4 s9 s10 s11;refine Eq.trans ?_ (qwX (qnR n) n s4 s9 s10 s11).symm;rw [show (qko (qnR n))=(qey n) from by
   funext s4;exact qqk n s4]
  all_goals kernel_rfl]
 kernel_rfl
theorem qwY:qe G Tryz.prog 77 s_z77:=by
 refine sQ (E:=E_z77) (c:=C_z77) rfl (fun w S hg=>(qa (qke w S hg) qc)) Tryz.func77 ?_;intro avs r h;unfold s_z77 at h;split at h
 ·obtain ⟨hp,rfl⟩:=yj h;obtain ⟨n,hn⟩:=qDS _ hp;exact ⟨n,_,(qIj n _ _).trans hn,.inl rfl⟩
 ·cases h
def qiH:EnvP:=eQ [(107,s_z107)] 17 (some [2]) (fun x=>if x=2 then some [5,6,7] else none) (fun x=>if x=0 then some [] else if x=1 then some [5,6,7] else none) nP
def qql:Code:=cO Tryz.f114
def qFL:Array ResultVar:=Tryz.f114.results
noncomputable def qiI (K:Ex→Fr→Option AV):=fun s2=>K .ret (frOf [(2,dc s2)])
def qiJ (n:Nat):Ex→Fr→Option AV:=qp 0 (qiH.cutb 0) (kSeq (evCP qiH (evLP qiH n) (sub qql [1,1])) (kFnP qiH qFL))
def qlL (s5:List Int) (s6:Int) (s7:Int):Fr:=frOf [(5,(.dat (.sl (.int .i32)) s5 none)),(6,dc s6),(7,dc s7)]
theorem qsP (K:Ex→Fr→Option AV):∀ (n:Nat) (s5:List Int) (s6:Int) (s7:Int),evLP qiH n (sub qql [1,0,1,0,0]) K (qlL s5 s6 s7)=qgP (qiI K) (K (.exit 0) (frOf [])) n s5 s6 s7:=by
 intro n;induction n with
 | zero=>intros; rfl
 | succ n IH =>
 intro s5 s6 s7;have ih:(fun s5 s6 s7=>evLP qiH n (sub qql [1,0,1,0,0]) K (qlL s5 s6 s7))=qgP (qiI K) (K (.exit 0) (frOf [])) n:=by
  funext s5 s6 s7;exact IH s5 s6 s7
 show _=qcx (qiI K) (K (.exit 0) (frOf [])) (qgP (qiI K) (K (.exit 0) (frOf [])) n) n s5 s6 s7;rw [← ih];kernel_rfl
theorem qlM (n:Nat)  : (qiJ n) (.exit 0) (frOf [])=qdK n  := by
 kernel_rfl
theorem qFM (n:Nat) (t0:List Int) (o0:Lab):evFnP qiH n qql qFL [.dat (.sl (.int .i32)) t0 o0]=qpb n t0:=by
 unfold qpb;rw [show qgP qgO (qdK n) n=(fun s5 s6 s7=>evLP qiH n (sub qql [1,0,1,0,0]) (qiJ n) (qlL s5 s6 s7)) from by
  funext s5 s6 s7;refine Eq.trans ?_ (qsP (qiJ n) n s5 s6 s7).symm;rw [show ((qiJ n) (.exit 0) (frOf []))=(qdK n) from by
   exact qlM n ]
  all_goals kernel_rfl]
 kernel_rfl
theorem qsQ:qe G Tryz.prog 114 s_z114:=by
 refine sQ (E:=qiH) (c:=qql) rfl (fun w S hg=>(qa (qkg w S hg) qc)) Tryz.func114 ?_;intro avs r h;unfold s_z114 at h;split at h
 ·obtain ⟨hp,rfl⟩:=yj h;obtain ⟨n,hn⟩:=qzy _ hp;exact ⟨n,_,(qFM n _ _).trans hn,.inl rfl⟩
 ·cases h
def E_z78:EnvP:=eQ [(114,s_z114),(115,s_z115)] 32 (some [2,3]) (fun x=>if x=5 then some [4,15,16,17] else none) (fun x=>if x=0 then some [4] else if x=1 then some [4,15,16,17] else none) nP
def C_z78:Code:=cO Tryz.f78
def R_z78:Array ResultVar:=Tryz.f78.results
noncomputable def qkp (K:Ex→Fr→Option AV):=fun s4=>K (.exit 0) (frOf [(4,(db s4 (some (4,5))))])
def qnS (n:Nat):Ex→Fr→Option AV:=qp 0 (E_z78.cutb 0) (kSeq (evCP E_z78 (evLP E_z78 n) (sub C_z78 [1,1,1,1])) (kFnP E_z78 R_z78))
def qsR (s4:List UInt8) (s15:List Int) (s16:Int) (s17:Int):Fr:=frOf [(4,(db s4 (some (4,5)))),(15,(.dat (.sl (.int .i32)) s15 none)),(16,dc s16),(17,dc s17)]
theorem qwZ (K:Ex→Fr→Option AV):∀ (n:Nat) (s4:List UInt8) (s15:List Int) (s16:Int) (s17:Int),evLP E_z78 n (sub C_z78 [1,1,1,0,1,0,0]) K (qsR s4 s15 s16 s17)=qme (qkp K) n s4 s15 s16 s17:=by
 intro n;induction n with
 | zero=>intros; rfl
 | succ n IH =>
 intro s4 s15 s16 s17;have ih:(fun s4 s15 s16 s17=>evLP E_z78 n (sub C_z78 [1,1,1,0,1,0,0]) K (qsR s4 s15 s16 s17))=qme (qkp K) n:=by
  funext s4 s15 s16 s17;exact IH s4 s15 s16 s17
 show _=qez (qkp K) (qme (qkp K) n) n s4 s15 s16 s17;rw [← ih];kernel_rfl
theorem qqm (n:Nat) (s4:List UInt8):(qnS n) (.exit 0) (frOf [(4,(db s4 (some (4,5))))])=qeA n s4:=by
 kernel_rfl
theorem qIk (n:Nat) (t0:List Int) (o0:Lab):evFnP E_z78 n C_z78 R_z78 [.dat (.sl (.int .i32)) t0 o0]=qyF n t0:=by
 unfold qyF;rw [show qme (qeA n) n=(fun s4 s15 s16 s17=>evLP E_z78 n (sub C_z78 [1,1,1,0,1,0,0]) (qnS n) (qsR s4 s15 s16 s17)) from by
  funext s4 s15 s16 s17;refine Eq.trans ?_ (qwZ (qnS n) n s4 s15 s16 s17).symm;rw [show (qkp (qnS n))=(qeA n) from by
   funext s4;exact qqm n s4]
  all_goals kernel_rfl]
 kernel_rfl
theorem qxa:qe G Tryz.prog 78 s_z78:=by
 refine sQ (E:=E_z78) (c:=C_z78) rfl (fun w S hg=>(qa (qsQ w S hg) (qa (qkf w S hg) qc))) Tryz.func78 ?_;intro avs r h;unfold s_z78 at h;split at h
 ·obtain ⟨hp,rfl⟩:=yj h;obtain ⟨n,hn⟩:=qDT _ hp;exact ⟨n,_,(qIk n _ _).trans hn,.inl rfl⟩
 ·cases h
def E_z44:EnvP:=eQ [(52,s_z52),(74,s_z74),(75,s_z75),(76,s_z76),(77,s_z77),(78,s_z78)] 38 (some [1000004,5]) nC (fun x=>if x=0 then some [0,1] else if x=1 then some [1] else none) nP
def C_z44:Code:=cO Tryz.f44
def R_z44:Array ResultVar:=Tryz.f44.results
theorem qIl (n:Nat) (charset0:Int) (o0:Lab) (t1:List Int) (o1:Lab):evFnP E_z44 n C_z44 R_z44 [de charset0 o0,.dat (.sl (.int .i32)) t1 o1]=qCH n charset0 t1:=by
 kernel_rfl
theorem qxb:qe G Tryz.prog 44 s_z44:=by
 refine sQ (E:=E_z44) (c:=C_z44) rfl (fun w S hg=>(qa (qnK w S hg) (qa (qnL w S hg) (qa (qwS w S hg) (qa (qwW w S hg) (qa (qwY w S hg) (qa (qxa w S hg) qc))))))) Tryz.func44 ?_;intro avs r h;unfold s_z44 at h;split at h
 ·obtain ⟨hp,rfl⟩:=yj h;obtain ⟨n,hn⟩:=qDV _ _ hp;exact ⟨n,_,(qIl n _ _ _ _).trans hn,.inl rfl⟩
 ·cases h
def qFN:EnvP:=eQ [] 46 (some [2]) nC (fun x=>if x=0 then some [3] else none) nP
def qFO:Code:=cO Tryz.f134
def qIm:Array ResultVar:=Tryz.f134.results
theorem qFP (n:Nat) (c0:UInt8) (o0:Lab):evFnP qFN n qFO qIm [dn c0 o0]=quF n c0:=by
 kernel_rfl
theorem qsS:qe G Tryz.prog 134 s_z134:=by
 refine sQ (E:=qFN) (c:=qFO) rfl (fun w S hg=>qc) Tryz.func134 ?_;intro avs r h;unfold s_z134 at h;split at h <;> cases h
 obtain ⟨n,hn⟩:=qzd _;exact ⟨n,_,(qFP n _ _).trans hn,.inl rfl⟩
def qFQ:EnvP:=eQ [(146,s_z146)] 8 (some [4]) nC nC nP
def qFR:Code:=cO Tryz.f145
def qIn:Array ResultVar:=Tryz.f145.results
theorem qFS (n:Nat) (s0:List UInt8) (o0:Lab) (c1:UInt8) (o1:Lab):evFnP qFQ n qFR qIn [df s0 o0,dn c1 o1]=qAh n s0 c1:=by
 kernel_rfl
theorem qsT:qe G Tryz.prog 145 s_z145:=by
 refine sQ (E:=qFQ) (c:=qFR) rfl (fun w S hg=>(qa (qst w S hg) qc)) Tryz.func145 ?_;intro avs r h;unfold s_z145 at h;split at h <;> cases h
 obtain ⟨n,hn⟩:=qze _ _;exact ⟨n,_,(qFS n _ _ _ _).trans hn,.inl rfl⟩
def qFT:EnvP:=eQ [(145,s_z145)] 8 (some [4]) nC nC nP
def qFU:Code:=cO Tryz.f140
def qIo:Array ResultVar:=Tryz.f140.results
theorem qFV (n:Nat) (s0:List UInt8) (o0:Lab) (c1:UInt8) (o1:Lab):evFnP qFT n qFU qIo [df s0 o0,dn c1 o1]=qAi n s0 c1:=by
 kernel_rfl
theorem qsU:qe G Tryz.prog 140 s_z140:=by
 refine sQ (E:=qFT) (c:=qFU) rfl (fun w S hg=>(qa (qsT w S hg) qc)) Tryz.func140 ?_;intro avs r h;unfold s_z140 at h;split at h <;> cases h
 obtain ⟨n,hn⟩:=qzf _ _;exact ⟨n,_,(qFV n _ _ _ _).trans hn,.inl rfl⟩
def qFW:EnvP:=eQ [(140,s_z140)] 9 (some [4]) nC nC nP
def qFX:Code:=cO Tryz.f135
def qIp:Array ResultVar:=Tryz.f135.results
theorem qFY (n:Nat) (s0:List UInt8) (o0:Lab) (c1:UInt8) (o1:Lab):evFnP qFW n qFX qIp [df s0 o0,dn c1 o1]=qAj n s0 c1:=by
 kernel_rfl
theorem qsV:qe G Tryz.prog 135 s_z135:=by
 refine sQ (E:=qFW) (c:=qFX) rfl (fun w S hg=>(qa (qsU w S hg) qc)) Tryz.func135 ?_;intro avs r h;unfold s_z135 at h;split at h <;> cases h
 obtain ⟨n,hn⟩:=qzg _ _;exact ⟨n,_,(qFY n _ _ _ _).trans hn,.inl rfl⟩
def qFZ:EnvP:=eQ [(134,s_z134),(135,s_z135)] 35 (some [2]) nC nC nP
def qGa:Code:=cO Tryz.f125
def qIq:Array ResultVar:=Tryz.f125.results
theorem qGb (n:Nat) (c0:UInt8) (o0:Lab):evFnP qFZ n qGa qIq [dn c0 o0]=quJ n c0:=by
 kernel_rfl
theorem qsW:qe G Tryz.prog 125 s_z125:=by
 refine sQ (E:=qFZ) (c:=qGa) rfl (fun w S hg=>(qa (qsS w S hg) (qa (qsV w S hg) qc))) Tryz.func125 ?_;intro avs r h;unfold s_z125 at h;split at h <;> cases h
 obtain ⟨n,hn⟩:=qzh _;exact ⟨n,_,(qGb n _ _).trans hn,.inl rfl⟩
end
end Go.Av
