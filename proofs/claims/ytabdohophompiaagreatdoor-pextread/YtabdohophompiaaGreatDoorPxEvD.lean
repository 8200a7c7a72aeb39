import Derived.Test.YtabdohophompiaaGreatDoorPxEvC
import Derived.Test.YtabdohophompiaaGreatDoorPxN
import Derived.Test.YtabdohophompiaaGreatDoorProg
import Derived.KernelRfl
namespace Go.Av
set_option linter.unusedSimpArgs false
noncomputable section
open Go.Proofs
set_option maxRecDepth 100000
set_option linter.unusedVariables false
def qiw:EnvP:=eQ [(107,s_z107)] 17 (some [2]) (fun x=>if x=2 then some [5,6,7] else none) (fun x=>if x=0 then some [] else if x=1 then some [5,6,7] else none) nP
def qoY:Code:=cO Tryz.f114
def qDs:Array ResultVar:=Tryz.f114.results
noncomputable def qix (K:Ex→Fr→Option AV):=fun s2=>K .ret (frOf [(2,dc s2)])
def qiy (n:Nat):Ex→Fr→Option AV:=qz 0 (qiw.cutb 0) (kSeq (evCP qiw (evLP qiw n) (sub qoY [1,1])) (kFnP qiw qDs))
def qlq (s5:List Int) (s6:Int) (s7:Int):Fr:=frOf [(5,(.dat (.sl (.int .i32)) s5 none)),(6,dc s6),(7,dc s7)]
theorem qry (K:Ex→Fr→Option AV):∀ (n:Nat) (s5:List Int) (s6:Int) (s7:Int),evLP qiw n (sub qoY [1,0,1,0,0]) K (qlq s5 s6 s7)=qgK (qix K) (K (.exit 0) (frOf [])) n s5 s6 s7:=by
 intro n;induction n with
 | zero=>intros; rfl
 | succ n IH =>
 intro s5 s6 s7;have ih:(fun s5 s6 s7=>evLP qiw n (sub qoY [1,0,1,0,0]) K (qlq s5 s6 s7))=qgK (qix K) (K (.exit 0) (frOf [])) n:=by
  funext s5 s6 s7;exact IH s5 s6 s7
 show _=qcu (qix K) (K (.exit 0) (frOf [])) (qgK (qix K) (K (.exit 0) (frOf [])) n) n s5 s6 s7;rw [← ih];kernel_rfl
theorem qlr (n:Nat)  : (qiy n) (.exit 0) (frOf [])=qdH n  := by
 kernel_rfl
theorem qDt (n:Nat) (t0:List Int) (o0:Lab):evFnP qiw n qoY qDs [.dat (.sl (.int .i32)) t0 o0]=qnW n t0:=by
 unfold qnW;rw [show qgK qgJ (qdH n) n=(fun s5 s6 s7=>evLP qiw n (sub qoY [1,0,1,0,0]) (qiy n) (qlq s5 s6 s7)) from by
  funext s5 s6 s7;refine Eq.trans ?_ (qry (qiy n) n s5 s6 s7).symm;rw [show ((qiy n) (.exit 0) (frOf []))=(qdH n) from by
   exact qlr n ]
  all_goals kernel_rfl]
 kernel_rfl
theorem qrz:qh G Tryz.prog 114 s_z114:=by
 refine sQ (E:=qiw) (c:=qoY) rfl (fun w S hg=>(qb (qjU w S hg) qc)) Tryz.func114 ?_;intro avs r h;unfold s_z114 at h;split at h
 ·obtain ⟨hp,rfl⟩:=yj h;obtain ⟨n,hn⟩:=qxA _ hp;exact ⟨n,_,(qDt n _ _).trans hn,.inl rfl⟩
 ·cases h
def E_z78:EnvP:=eQ [(114,s_z114),(115,s_z115)] 32 (some [2,3]) (fun x=>if x=5 then some [4,15,16,17] else none) (fun x=>if x=0 then some [4] else if x=1 then some [4,15,16,17] else none) nP
def C_z78:Code:=cO Tryz.f78
def R_z78:Array ResultVar:=Tryz.f78.results
noncomputable def qkd (K:Ex→Fr→Option AV):=fun s4=>K (.exit 0) (frOf [(4,(db s4 (some (4,5))))])
def qnh (n:Nat):Ex→Fr→Option AV:=qz 0 (E_z78.cutb 0) (kSeq (evCP E_z78 (evLP E_z78 n) (sub C_z78 [1,1,1,1])) (kFnP E_z78 R_z78))
def qrA (s4:List UInt8) (s15:List Int) (s16:Int) (s17:Int):Fr:=frOf [(4,(db s4 (some (4,5)))),(15,(.dat (.sl (.int .i32)) s15 none)),(16,dc s16),(17,dc s17)]
theorem qvu (K:Ex→Fr→Option AV):∀ (n:Nat) (s4:List UInt8) (s15:List Int) (s16:Int) (s17:Int),evLP E_z78 n (sub C_z78 [1,1,1,0,1,0,0]) K (qrA s4 s15 s16 s17)=qlK (qkd K) n s4 s15 s16 s17:=by
 intro n;induction n with
 | zero=>intros; rfl
 | succ n IH =>
 intro s4 s15 s16 s17;have ih:(fun s4 s15 s16 s17=>evLP E_z78 n (sub C_z78 [1,1,1,0,1,0,0]) K (qrA s4 s15 s16 s17))=qlK (qkd K) n:=by
  funext s4 s15 s16 s17;exact IH s4 s15 s16 s17
 show _=qeA (qkd K) (qlK (qkd K) n) n s4 s15 s16 s17;rw [← ih];kernel_rfl
theorem qoZ (n:Nat) (s4:List UInt8):(qnh n) (.exit 0) (frOf [(4,(db s4 (some (4,5))))])=qeB n s4:=by
 kernel_rfl
theorem qFN (n:Nat) (t0:List Int) (o0:Lab):evFnP E_z78 n C_z78 R_z78 [.dat (.sl (.int .i32)) t0 o0]=qwV n t0:=by
 unfold qwV;rw [show qlK (qeB n) n=(fun s4 s15 s16 s17=>evLP E_z78 n (sub C_z78 [1,1,1,0,1,0,0]) (qnh n) (qrA s4 s15 s16 s17)) from by
  funext s4 s15 s16 s17;refine Eq.trans ?_ (qvu (qnh n) n s4 s15 s16 s17).symm;rw [show (qkd (qnh n))=(qeB n) from by
   funext s4;exact qoZ n s4]
  all_goals kernel_rfl]
 kernel_rfl
theorem qvv:qh G Tryz.prog 78 s_z78:=by
 refine sQ (E:=E_z78) (c:=C_z78) rfl (fun w S hg=>(qb (qrz w S hg) (qb (qjT w S hg) qc))) Tryz.func78 ?_;intro avs r h;unfold s_z78 at h;split at h
 ·obtain ⟨hp,rfl⟩:=yj h;obtain ⟨n,hn⟩:=qBH _ hp;exact ⟨n,_,(qFN n _ _).trans hn,.inl rfl⟩
 ·cases h
def E_z44:EnvP:=eQ [(52,s_z52),(74,s_z74),(75,s_z75),(76,s_z76),(77,s_z77),(78,s_z78)] 38 (some [1000004,5]) nC (fun x=>if x=0 then some [0,1] else if x=1 then some [1] else none) nP
def C_z44:Code:=cO Tryz.f44
def R_z44:Array ResultVar:=Tryz.f44.results
theorem qFO (n:Nat) (charset0:Int) (o0:Lab) (t1:List Int) (o1:Lab):evFnP E_z44 n C_z44 R_z44 [de charset0 o0,.dat (.sl (.int .i32)) t1 o1]=qAP n charset0 t1:=by
 kernel_rfl
theorem qvw:qh G Tryz.prog 44 s_z44:=by
 refine sQ (E:=E_z44) (c:=C_z44) rfl (fun w S hg=>(qb (qmZ w S hg) (qb (qna w S hg) (qb (qvn w S hg) (qb (qvr w S hg) (qb (qvt w S hg) (qb (qvv w S hg) qc))))))) Tryz.func44 ?_;intro avs r h;unfold s_z44 at h;split at h
 ·obtain ⟨hp,rfl⟩:=yj h;obtain ⟨n,hn⟩:=qBJ _ _ hp;exact ⟨n,_,(qFO n _ _ _ _).trans hn,.inl rfl⟩
 ·cases h
def qDu:EnvP:=eQ [] 46 (some [2]) nC (fun x=>if x=0 then some [3] else none) nP
def qDv:Code:=cO Tryz.f134
def qFP:Array ResultVar:=Tryz.f134.results
theorem qDw (n:Nat) (c0:UInt8) (o0:Lab):evFnP qDu n qDv qFP [dm c0 o0]=qtk n c0:=by
 kernel_rfl
theorem qrB:qh G Tryz.prog 134 s_z134:=by
 refine sQ (E:=qDu) (c:=qDv) rfl (fun w S hg=>qc) Tryz.func134 ?_;intro avs r h;unfold s_z134 at h;split at h <;> cases h
 obtain ⟨n,hn⟩:=qxj _;exact ⟨n,_,(qDw n _ _).trans hn,.inl rfl⟩
def qDx:EnvP:=eQ [(146,s_z146)] 8 (some [4]) nC nC nP
def qDy:Code:=cO Tryz.f145
def qFQ:Array ResultVar:=Tryz.f145.results
theorem qDz (n:Nat) (s0:List UInt8) (o0:Lab) (c1:UInt8) (o1:Lab):evFnP qDx n qDy qFQ [df s0 o0,dm c1 o1]=qyn n s0 c1:=by
 kernel_rfl
theorem qrC:qh G Tryz.prog 145 s_z145:=by
 refine sQ (E:=qDx) (c:=qDy) rfl (fun w S hg=>(qb (qrb w S hg) qc)) Tryz.func145 ?_;intro avs r h;unfold s_z145 at h;split at h <;> cases h
 obtain ⟨n,hn⟩:=qxk _ _;exact ⟨n,_,(qDz n _ _ _ _).trans hn,.inl rfl⟩
def qDA:EnvP:=eQ [(145,s_z145)] 8 (some [4]) nC nC nP
def qDB:Code:=cO Tryz.f140
def qFR:Array ResultVar:=Tryz.f140.results
theorem qDC (n:Nat) (s0:List UInt8) (o0:Lab) (c1:UInt8) (o1:Lab):evFnP qDA n qDB qFR [df s0 o0,dm c1 o1]=qyo n s0 c1:=by
 kernel_rfl
theorem qrD:qh G Tryz.prog 140 s_z140:=by
 refine sQ (E:=qDA) (c:=qDB) rfl (fun w S hg=>(qb (qrC w S hg) qc)) Tryz.func140 ?_;intro avs r h;unfold s_z140 at h;split at h <;> cases h
 obtain ⟨n,hn⟩:=qxl _ _;exact ⟨n,_,(qDC n _ _ _ _).trans hn,.inl rfl⟩
def qDD:EnvP:=eQ [(140,s_z140)] 9 (some [4]) nC nC nP
def qDE:Code:=cO Tryz.f135
def qFS:Array ResultVar:=Tryz.f135.results
theorem qDF (n:Nat) (s0:List UInt8) (o0:Lab) (c1:UInt8) (o1:Lab):evFnP qDD n qDE qFS [df s0 o0,dm c1 o1]=qyp n s0 c1:=by
 kernel_rfl
theorem qrE:qh G Tryz.prog 135 s_z135:=by
 refine sQ (E:=qDD) (c:=qDE) rfl (fun w S hg=>(qb (qrD w S hg) qc)) Tryz.func135 ?_;intro avs r h;unfold s_z135 at h;split at h <;> cases h
 obtain ⟨n,hn⟩:=qxm _ _;exact ⟨n,_,(qDF n _ _ _ _).trans hn,.inl rfl⟩
def qDG:EnvP:=eQ [(134,s_z134),(135,s_z135)] 35 (some [2]) nC nC nP
def qDH:Code:=cO Tryz.f125
def qFT:Array ResultVar:=Tryz.f125.results
theorem qDI (n:Nat) (c0:UInt8) (o0:Lab):evFnP qDG n qDH qFT [dm c0 o0]=qto n c0:=by
 kernel_rfl
theorem qrF:qh G Tryz.prog 125 s_z125:=by
 refine sQ (E:=qDG) (c:=qDH) rfl (fun w S hg=>(qb (qrB w S hg) (qb (qrE w S hg) qc))) Tryz.func125 ?_;intro avs r h;unfold s_z125 at h;split at h <;> cases h
 obtain ⟨n,hn⟩:=qxn _;exact ⟨n,_,(qDI n _ _).trans hn,.inl rfl⟩
def qDJ:EnvP:=eQ [(125,s_z125)] 10 (some [4]) nC nC nP
def qDK:Code:=cO Tryz.f100
def qFU:Array ResultVar:=Tryz.f100.results
theorem qDL (n:Nat) (c0:UInt8) (o0:Lab) (kinds1:Int) (o1:Lab):evFnP qDJ n qDK qFU [dm c0 o0,de kinds1 o1]=qyq n c0 kinds1:=by
 kernel_rfl
theorem qke:qh G Tryz.prog 100 s_z100:=by
 refine sQ (E:=qDJ) (c:=qDK) rfl (fun w S hg=>(qb (qrF w S hg) qc)) Tryz.func100 ?_;intro avs r h;unfold s_z100 at h;split at h <;> cases h
 obtain ⟨n,hn⟩:=qxo _ _;exact ⟨n,_,(qDL n _ _ _ _).trans hn,.inl rfl⟩
def E_z79:EnvP:=eQ [(100,s_z100)] 5 (some [2]) nC nC nP
def C_z79:Code:=cO Tryz.f79
def R_z79:Array ResultVar:=Tryz.f79.results
theorem qFV (n:Nat) (c0:UInt8) (o0:Lab):evFnP E_z79 n C_z79 R_z79 [dm c0 o0]=qAQ n c0:=by
 kernel_rfl
theorem qvx:qh G Tryz.prog 79 s_z79:=by
 refine sQ (E:=E_z79) (c:=C_z79) rfl (fun w S hg=>(qb (qke w S hg) qc)) Tryz.func79 ?_;intro avs r h;unfold s_z79 at h;split at h <;> cases h
 obtain ⟨n,hn⟩:=qzJ _;exact ⟨n,_,(qFV n _ _).trans hn,.inl rfl⟩
def qDM:EnvP:=eQ [] 6 (some [2]) nC nC nP
def qDN:Code:=cO Tryz.f132
def qFW:Array ResultVar:=Tryz.f132.results
theorem qDO (n:Nat) (n0:Int) (o0:Lab):evFnP qDM n qDN qFW [de n0 o0]=qts n n0:=by
 kernel_rfl
theorem qrG:qh G Tryz.prog 132 s_z132:=by
 refine sQ (E:=qDM) (c:=qDN) rfl (fun w S hg=>qc) Tryz.func132 ?_;intro avs r h;unfold s_z132 at h;split at h
 ·obtain ⟨hp,rfl⟩:=yj h;obtain ⟨n,hn⟩:=qxr _ hp;exact ⟨n,_,(qDO n _ _).trans hn,.inl rfl⟩
 ·cases h
def qDP:EnvP:=eQ [(132,s_z132)] 11 (some [2]) nC nC nP
def qDQ:Code:=cO Tryz.f116
def qFX:Array ResultVar:=Tryz.f116.results
theorem qDR (n:Nat) (c0:UInt8) (o0:Lab):evFnP qDP n qDQ qFX [dm c0 o0]=qtu n c0:=by
 kernel_rfl
theorem qrH:qh G Tryz.prog 116 s_z116:=by
 refine sQ (E:=qDP) (c:=qDQ) rfl (fun w S hg=>(qb (qrG w S hg) qc)) Tryz.func116 ?_;intro avs r h;unfold s_z116 at h;split at h <;> cases h
 obtain ⟨n,hn⟩:=qxs _;exact ⟨n,_,(qDR n _ _).trans hn,.inl rfl⟩
def E_z80:EnvP:=eQ [(53,s_z53),(116,s_z116)] 15 (some [6]) nC nC nP
def C_z80:Code:=cO Tryz.f80
def R_z80:Array ResultVar:=Tryz.f80.results
theorem qFY (n:Nat) (b0:List UInt8) (o0:Lab) (sign1:UInt8) (o1:Lab) (c2:UInt8) (o2:Lab):evFnP E_z80 n C_z80 R_z80 [db b0 o0,dm sign1 o1,dm c2 o2]=qAR n b0 sign1 c2:=by
 kernel_rfl
theorem qvy:qh G Tryz.prog 80 s_z80:=by
 refine sQ (E:=E_z80) (c:=C_z80) rfl (fun w S hg=>(qb (qdA w S hg) (qb (qrH w S hg) qc))) Tryz.func80 ?_;intro avs r h;unfold s_z80 at h;split at h
 ·obtain ⟨hp,rfl⟩:=yj h;obtain ⟨n,hn⟩:=qBu _ _ _ hp;exact ⟨n,_,(qFY n _ _ _ _ _ _).trans hn,.inl rfl⟩
 ·cases h
def E_z45:EnvP:=eQ [(79,s_z79),(80,s_z80)] 24 (some [2]) (fun x=>if x=3 then some [3,6,7,8] else none) (fun x=>if x=0 then some [3] else if x=1 then some [3,6,7,8] else none) nP
def C_z45:Code:=cO Tryz.f45
def R_z45:Array ResultVar:=Tryz.f45.results
noncomputable def qkf (K:Ex→Fr→Option AV):=fun out3=>K (.exit 0) (frOf [(3,(db out3 (some (3,5))))])
def qni (n:Nat):Ex→Fr→Option AV:=qz 0 (E_z45.cutb 0) (kSeq (evCP E_z45 (evLP E_z45 n) (sub C_z45 [1,1,1])) (kFnP E_z45 R_z45))
def qrI (out3:List UInt8) (s6:List UInt8) (s7:Int) (s8:Int):Fr:=frOf [(3,(db out3 (some (3,5)))),(6,da s6),(7,dc s7),(8,dc s8)]
theorem qvz (K:Ex→Fr→Option AV):∀ (n:Nat) (out3:List UInt8) (s6:List UInt8) (s7:Int) (s8:Int),evLP E_z45 n (sub C_z45 [1,1,0,1,0,0]) K (qrI out3 s6 s7 s8)=qlL (qkf K) n out3 s6 s7 s8:=by
 intro n;induction n with
 | zero=>intros; rfl
 | succ n IH =>
 intro out3 s6 s7 s8;have ih:(fun out3 s6 s7 s8=>evLP E_z45 n (sub C_z45 [1,1,0,1,0,0]) K (qrI out3 s6 s7 s8))=qlL (qkf K) n:=by
  funext out3 s6 s7 s8;exact IH out3 s6 s7 s8
 show _=qeC (qkf K) (qlL (qkf K) n) n out3 s6 s7 s8;rw [← ih];kernel_rfl
theorem qpa (n:Nat) (out3:List UInt8):(qni n) (.exit 0) (frOf [(3,(db out3 (some (3,5))))])=qeD n out3:=by
 kernel_rfl
theorem qFZ (n:Nat) (s0:List UInt8) (o0:Lab):evFnP E_z45 n C_z45 R_z45 [db s0 o0]=qwW n s0:=by
 unfold qwW;rw [show qlL (qeD n) n=(fun out3 s6 s7 s8=>evLP E_z45 n (sub C_z45 [1,1,0,1,0,0]) (qni n) (qrI out3 s6 s7 s8)) from by
  funext out3 s6 s7 s8;refine Eq.trans ?_ (qvz (qni n) n out3 s6 s7 s8).symm;rw [show (qkf (qni n))=(qeD n) from by
   funext out3;exact qpa n out3]
  all_goals kernel_rfl]
 kernel_rfl
theorem qvA:qh G Tryz.prog 45 s_z45:=by
 refine sQ (E:=E_z45) (c:=C_z45) rfl (fun w S hg=>(qb (qvx w S hg) (qb (qvy w S hg) qc))) Tryz.func45 ?_;intro avs r h;unfold s_z45 at h;split at h
 ·obtain ⟨hp,rfl⟩:=yj h;obtain ⟨n,hn⟩:=qzK _ hp;exact ⟨n,_,(qFZ n _ _).trans hn,.inl rfl⟩
 ·cases h
end
end Go.Av
