import Derived.Test.YtabdohophompiaaDoorPxEvE
import Derived.Test.YtabdohophompiaaDoorPxN
import Derived.Test.YtabdohophompiaaDoorProg
import Derived.KernelRfl
namespace Go.Av
set_option linter.unusedSimpArgs false
noncomputable section
open Go.Proofs
set_option maxRecDepth 100000
set_option linter.unusedVariables false
def E_z40:EnvP:=eQ [(39,s_z39),(57,s_z57)] 14 (some [4]) nC nC nP
def C_z40:Code:=cO Tryd.f40
def R_z40:Array ResultVar:=Tryd.f40.results
theorem qyc (n:Nat) (charset0:Int) (o0:Lab) (t1:List Int) (o1:Lab):evFnP E_z40 n C_z40 R_z40 [de charset0 o0,.dat (.sl (.int .i32)) t1 o1]=quz n charset0 t1:=by
 kernel_rfl
theorem qqx:qk G Tryd.prog 40 s_z40:=by
 refine sQ (E:=E_z40) (c:=C_z40) rfl (fun w S hg=>(qb (qkd w S hg) (qb (qqw w S hg) qe))) Tryd.func40 ?_;intro avs r h;unfold s_z40 at h;split at h
 ·obtain ⟨hp,rfl⟩:=yj h;obtain ⟨n,hn⟩:=qvy _ _ hp;exact ⟨n,_,(qyc n _ _ _ _).trans hn,.inl rfl⟩
 ·cases h
def E_z66:EnvP:=eQ [(51,s_z51)] 16 (some [2]) nC (fun x=>if x=0 then some [] else none) nP
def C_z66:Code:=cO Tryd.f66
def R_z66:Array ResultVar:=Tryd.f66.results
theorem qyd (n:Nat) (c0:Int) (o0:Lab):evFnP E_z66 n C_z66 R_z66 [dh c0 o0]=quA n c0:=by
 kernel_rfl
theorem qqy:qk G Tryd.prog 66 s_z66:=by
 refine sQ (E:=E_z66) (c:=C_z66) rfl (fun w S hg=>(qb (qgE w S hg) qe)) Tryd.func66 ?_;intro avs r h;unfold s_z66 at h;split at h <;> cases h
 obtain ⟨n,hn⟩:=qvo _;exact ⟨n,_,(qyd n _ _).trans hn,.inl rfl⟩
def E_z67:EnvP:=eQ [] 10 (some [2]) nC (fun x=>if x=0 then some [] else none) nP
def C_z67:Code:=cO Tryd.f67
def R_z67:Array ResultVar:=Tryd.f67.results
theorem qye (n:Nat) (n0:Int) (o0:Lab):evFnP E_z67 n C_z67 R_z67 [de n0 o0]=quB n n0:=by
 kernel_rfl
theorem qqz:qk G Tryd.prog 67 s_z67:=by
 refine sQ (E:=E_z67) (c:=C_z67) rfl (fun w S hg=>qe) Tryd.func67 ?_;intro avs r h;unfold s_z67 at h;split at h <;> cases h
 obtain ⟨n,hn⟩:=quZ _;exact ⟨n,_,(qye n _ _).trans hn,.inl rfl⟩
def E_z58:EnvP:=eQ [(19,s_z19),(66,s_z66),(67,s_z67)] 56 (some [4,5]) nC (fun x=>if x=0 then some [7] else if x=1 then some [1,7] else if x=2 then some [1,7] else if x=3 then some [1,7] else none) nP
def C_z58:Code:=cO Tryd.f58
def R_z58:Array ResultVar:=Tryd.f58.results
theorem qyf (n:Nat) (b0:List UInt8) (o0:Lab) (c1:Int) (o1:Lab):evFnP E_z58 n C_z58 R_z58 [db b0 o0,dh c1 o1]=quC n b0 c1:=by
 kernel_rfl
theorem qqA:qk G Tryd.prog 58 s_z58:=by
 refine sQ (E:=E_z58) (c:=C_z58) rfl (fun w S hg=>(qb (qcG w S hg) (qb (qqy w S hg) (qb (qqz w S hg) qe)))) Tryd.func58 ?_;intro avs r h;unfold s_z58 at h;split at h
 ·obtain ⟨hp,rfl⟩:=yj h;obtain ⟨n,hn⟩:=qvp _ _ hp;exact ⟨n,_,(qyf n _ _ _ _).trans hn,.inl rfl⟩
 ·cases h
def E_z41:EnvP:=eQ [(15,s_z15),(58,s_z58)] 28 (some [2,3]) (fun x=>if x=5 then some [4,12,13,14] else none) (fun x=>if x=0 then some [4] else if x=1 then some [4,12,13,14] else none) nP
def C_z41:Code:=cO Tryd.f41
def R_z41:Array ResultVar:=Tryd.f41.results
noncomputable def qhO (K:Ex→Fr→Option AV):=fun out4=>K (.exit 0) (frOf [(4,(db out4 (some (4,5))))])
def qkg (n:Nat):Ex→Fr→Option AV:=qL 0 (E_z41.cutb 0) (kSeq (evCP E_z41 (evLP E_z41 n) (sub C_z41 [1,1,1,1])) (kFnP E_z41 R_z41))
def qnt (out4:List UInt8) (s12:List Int) (s13:Int) (s14:Int):Fr:=frOf [(4,(db out4 (some (4,5)))),(12,(.dat (.sl (.int .i32)) s12 none)),(13,dc s13),(14,dc s14)]
theorem qqB (K:Ex→Fr→Option AV):∀ (n:Nat) (out4:List UInt8) (s12:List Int) (s13:Int) (s14:Int),evLP E_z41 n (sub C_z41 [1,1,1,0,1,0,0]) K (qnt out4 s12 s13 s14)=qiP (qhO K) n out4 s12 s13 s14:=by
 intro n;induction n with
 | zero=>intros; rfl
 | succ n IH =>
 intro out4 s12 s13 s14;have ih:(fun out4 s12 s13 s14=>evLP E_z41 n (sub C_z41 [1,1,1,0,1,0,0]) K (qnt out4 s12 s13 s14))=qiP (qhO K) n:=by
  funext out4 s12 s13 s14;exact IH out4 s12 s13 s14
 show _=qds (qhO K) (qiP (qhO K) n) n out4 s12 s13 s14;rw [← ih];kernel_rfl
theorem qlp (n:Nat) (out4:List UInt8):(qkg n) (.exit 0) (frOf [(4,(db out4 (some (4,5))))])=qdt n out4:=by
 kernel_rfl
theorem qyg (n:Nat) (t0:List Int) (o0:Lab):evFnP E_z41 n C_z41 R_z41 [.dat (.sl (.int .i32)) t0 o0]=qrv n t0:=by
 unfold qrv;rw [show qiP (qdt n) n=(fun out4 s12 s13 s14=>evLP E_z41 n (sub C_z41 [1,1,1,0,1,0,0]) (qkg n) (qnt out4 s12 s13 s14)) from by
  funext out4 s12 s13 s14;refine Eq.trans ?_ (qqB (qkg n) n out4 s12 s13 s14).symm;rw [show (qhO (qkg n))=(qdt n) from by
   funext out4;exact qlp n out4]
  all_goals kernel_rfl]
 kernel_rfl
theorem qqC:qk G Tryd.prog 41 s_z41:=by
 refine sQ (E:=E_z41) (c:=C_z41) rfl (fun w S hg=>(qb (qjM w S hg) (qb (qqA w S hg) qe))) Tryd.func41 ?_;intro avs r h;unfold s_z41 at h;split at h
 ·obtain ⟨hp,rfl⟩:=yj h;obtain ⟨n,hn⟩:=qvB _ hp;exact ⟨n,_,(qyg n _ _).trans hn,.inl rfl⟩
 ·cases h
def E_z42:EnvP:=eQ [(59,s_z59)] 28 (some [2,3]) (fun x=>if x=3 then some [4,9,10,11] else none) (fun x=>if x=0 then some [4] else if x=1 then some [4,9,10,11] else none) nP
def C_z42:Code:=cO Tryd.f42
def R_z42:Array ResultVar:=Tryd.f42.results
noncomputable def qkh (K:Ex→Fr→Option AV):=fun s2 s3=>K .ret (frOf [(2,(db s2 (some (2,5)))),(3,dc s3)])
noncomputable def qhP (K:Ex→Fr→Option AV):=fun s4=>K (.exit 0) (frOf [(4,(db s4 (some (4,5))))])
def qki (n:Nat):Ex→Fr→Option AV:=qL 0 (E_z42.cutb 0) (kSeq (evCP E_z42 (evLP E_z42 n) (sub C_z42 [1,1,1])) (kFnP E_z42 R_z42))
def qnu (s4:List UInt8) (s9:List Int) (s10:Int) (s11:Int):Fr:=frOf [(4,(db s4 (some (4,5)))),(9,(.dat (.sl (.int .i32)) s9 none)),(10,dc s10),(11,dc s11)]
theorem qqD (K:Ex→Fr→Option AV):∀ (n:Nat) (s4:List UInt8) (s9:List Int) (s10:Int) (s11:Int),evLP E_z42 n (sub C_z42 [1,1,0,1,0,0]) K (qnu s4 s9 s10 s11)=qiQ (qkh K) (qhP K) n s4 s9 s10 s11:=by
 intro n;induction n with
 | zero=>intros; rfl
 | succ n IH =>
 intro s4 s9 s10 s11;have ih:(fun s4 s9 s10 s11=>evLP E_z42 n (sub C_z42 [1,1,0,1,0,0]) K (qnu s4 s9 s10 s11))=qiQ (qkh K) (qhP K) n:=by
  funext s4 s9 s10 s11;exact IH s4 s9 s10 s11
 show _=qdu (qkh K) (qhP K) (qiQ (qkh K) (qhP K) n) n s4 s9 s10 s11;rw [← ih];kernel_rfl
theorem qlq (n:Nat) (s4:List UInt8):(qki n) (.exit 0) (frOf [(4,(db s4 (some (4,5))))])=qdv n s4:=by
 kernel_rfl
theorem qyh (n:Nat) (t0:List Int) (o0:Lab):evFnP E_z42 n C_z42 R_z42 [.dat (.sl (.int .i32)) t0 o0]=qrw n t0:=by
 unfold qrw;rw [show qiQ qfT (qdv n) n=(fun s4 s9 s10 s11=>evLP E_z42 n (sub C_z42 [1,1,0,1,0,0]) (qki n) (qnu s4 s9 s10 s11)) from by
  funext s4 s9 s10 s11;refine Eq.trans ?_ (qqD (qki n) n s4 s9 s10 s11).symm;rw [show (qhP (qki n))=(qdv n) from by
   funext s4;exact qlq n s4]
  all_goals kernel_rfl]
 kernel_rfl
theorem qqE:qk G Tryd.prog 42 s_z42:=by
 refine sQ (E:=E_z42) (c:=C_z42) rfl (fun w S hg=>(qb (qjY w S hg) qe)) Tryd.func42 ?_;intro avs r h;unfold s_z42 at h;split at h
 ·obtain ⟨hp,rfl⟩:=yj h;obtain ⟨n,hn⟩:=qvz _ hp;exact ⟨n,_,(qyh n _ _).trans hn,.inl rfl⟩
 ·cases h
def E_z60:EnvP:=eQ [(54,s_z54)] 17 (some [2]) (fun x=>if x=2 then some [5,6,7] else none) (fun x=>if x=0 then some [] else if x=1 then some [5,6,7] else none) nP
def C_z60:Code:=cO Tryd.f60
def R_z60:Array ResultVar:=Tryd.f60.results
noncomputable def qkj (K:Ex→Fr→Option AV):=fun s2=>K .ret (frOf [(2,dc s2)])
def qkk (n:Nat):Ex→Fr→Option AV:=qL 0 (E_z60.cutb 0) (kSeq (evCP E_z60 (evLP E_z60 n) (sub C_z60 [1,1])) (kFnP E_z60 R_z60))
def qnv (s5:List Int) (s6:Int) (s7:Int):Fr:=frOf [(5,(.dat (.sl (.int .i32)) s5 none)),(6,dc s6),(7,dc s7)]
theorem qqF (K:Ex→Fr→Option AV):∀ (n:Nat) (s5:List Int) (s6:Int) (s7:Int),evLP E_z60 n (sub C_z60 [1,0,1,0,0]) K (qnv s5 s6 s7)=qiR (qkj K) (K (.exit 0) (frOf [])) n s5 s6 s7:=by
 intro n;induction n with
 | zero=>intros; rfl
 | succ n IH =>
 intro s5 s6 s7;have ih:(fun s5 s6 s7=>evLP E_z60 n (sub C_z60 [1,0,1,0,0]) K (qnv s5 s6 s7))=qiR (qkj K) (K (.exit 0) (frOf [])) n:=by
  funext s5 s6 s7;exact IH s5 s6 s7
 show _=qdw (qkj K) (K (.exit 0) (frOf [])) (qiR (qkj K) (K (.exit 0) (frOf [])) n) n s5 s6 s7;rw [← ih];kernel_rfl
theorem qlr (n:Nat)  : (qkk n) (.exit 0) (frOf [])=qfk n  := by
 kernel_rfl
theorem qyi (n:Nat) (t0:List Int) (o0:Lab):evFnP E_z60 n C_z60 R_z60 [.dat (.sl (.int .i32)) t0 o0]=qrx n t0:=by
 unfold qrx;rw [show qiR qhZ (qfk n) n=(fun s5 s6 s7=>evLP E_z60 n (sub C_z60 [1,0,1,0,0]) (qkk n) (qnv s5 s6 s7)) from by
  funext s5 s6 s7;refine Eq.trans ?_ (qqF (qkk n) n s5 s6 s7).symm;rw [show ((qkk n) (.exit 0) (frOf []))=(qfk n) from by
   exact qlr n ]
  all_goals kernel_rfl]
 kernel_rfl
theorem qqG:qk G Tryd.prog 60 s_z60:=by
 refine sQ (E:=E_z60) (c:=C_z60) rfl (fun w S hg=>(qb (qka w S hg) qe)) Tryd.func60 ?_;intro avs r h;unfold s_z60 at h;split at h
 ·obtain ⟨hp,rfl⟩:=yj h;obtain ⟨n,hn⟩:=qvj _ hp;exact ⟨n,_,(qyi n _ _).trans hn,.inl rfl⟩
 ·cases h
def E_z43:EnvP:=eQ [(60,s_z60),(61,s_z61)] 32 (some [2,3]) (fun x=>if x=5 then some [4,15,16,17] else none) (fun x=>if x=0 then some [4] else if x=1 then some [4,15,16,17] else none) nP
def C_z43:Code:=cO Tryd.f43
def R_z43:Array ResultVar:=Tryd.f43.results
noncomputable def qhQ (K:Ex→Fr→Option AV):=fun s4=>K (.exit 0) (frOf [(4,(db s4 (some (4,5))))])
def qkl (n:Nat):Ex→Fr→Option AV:=qL 0 (E_z43.cutb 0) (kSeq (evCP E_z43 (evLP E_z43 n) (sub C_z43 [1,1,1,1])) (kFnP E_z43 R_z43))
def qnw (s4:List UInt8) (s15:List Int) (s16:Int) (s17:Int):Fr:=frOf [(4,(db s4 (some (4,5)))),(15,(.dat (.sl (.int .i32)) s15 none)),(16,dc s16),(17,dc s17)]
theorem qqH (K:Ex→Fr→Option AV):∀ (n:Nat) (s4:List UInt8) (s15:List Int) (s16:Int) (s17:Int),evLP E_z43 n (sub C_z43 [1,1,1,0,1,0,0]) K (qnw s4 s15 s16 s17)=qiS (qhQ K) n s4 s15 s16 s17:=by
 intro n;induction n with
 | zero=>intros; rfl
 | succ n IH =>
 intro s4 s15 s16 s17;have ih:(fun s4 s15 s16 s17=>evLP E_z43 n (sub C_z43 [1,1,1,0,1,0,0]) K (qnw s4 s15 s16 s17))=qiS (qhQ K) n:=by
  funext s4 s15 s16 s17;exact IH s4 s15 s16 s17
 show _=qdx (qhQ K) (qiS (qhQ K) n) n s4 s15 s16 s17;rw [← ih];kernel_rfl
theorem qls (n:Nat) (s4:List UInt8):(qkl n) (.exit 0) (frOf [(4,(db s4 (some (4,5))))])=qdy n s4:=by
 kernel_rfl
theorem qyj (n:Nat) (t0:List Int) (o0:Lab):evFnP E_z43 n C_z43 R_z43 [.dat (.sl (.int .i32)) t0 o0]=qry n t0:=by
 unfold qry;rw [show qiS (qdy n) n=(fun s4 s15 s16 s17=>evLP E_z43 n (sub C_z43 [1,1,1,0,1,0,0]) (qkl n) (qnw s4 s15 s16 s17)) from by
  funext s4 s15 s16 s17;refine Eq.trans ?_ (qqH (qkl n) n s4 s15 s16 s17).symm;rw [show (qhQ (qkl n))=(qdy n) from by
   funext s4;exact qls n s4]
  all_goals kernel_rfl]
 kernel_rfl
theorem qqI:qk G Tryd.prog 43 s_z43:=by
 refine sQ (E:=E_z43) (c:=C_z43) rfl (fun w S hg=>(qb (qqG w S hg) (qb (qjZ w S hg) qe))) Tryd.func43 ?_;intro avs r h;unfold s_z43 at h;split at h
 ·obtain ⟨hp,rfl⟩:=yj h;obtain ⟨n,hn⟩:=qvA _ hp;exact ⟨n,_,(qyj n _ _).trans hn,.inl rfl⟩
 ·cases h
end
end Go.Av
