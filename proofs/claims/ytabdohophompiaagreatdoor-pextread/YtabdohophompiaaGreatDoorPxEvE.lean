import Derived.Test.YtabdohophompiaaGreatDoorPxEvD
import Derived.Test.YtabdohophompiaaGreatDoorPxN
import Derived.Test.YtabdohophompiaaGreatDoorProg
import Derived.KernelRfl
namespace Go.Av
set_option linter.unusedSimpArgs false
noncomputable section
open Go.Proofs
set_option maxRecDepth 100000
set_option linter.unusedVariables false
def E_z23:EnvP:=eQ [(44,s_z44),(45,s_z45)] 31 (some [4]) (fun x=>if x=3 then some [0,1,5,10,11] else none) (fun x=>if x=0 then some [5] else if x=1 then some [0,1,5,10,11] else none) nP
def C_z23:Code:=cO Tryz.f23
def R_z23:Array ResultVar:=Tryz.f23.results
noncomputable def qkg (K:Ex→Fr→Option AV):=fun l5=>K (.exit 0) (frOf [(5,(.dat (.sl (.sl .byte)) l5 (some (5,22))))])
def qnj (n:Nat):Ex→Fr→Option AV:=qz 0 (E_z23.cutb 0) (kSeq (evCP E_z23 (evLP E_z23 n) (sub C_z23 [1,1,1])) (kFnP E_z23 R_z23))
def qrJ (charset0:Int) (t1:List Int) (l5:List (List UInt8)) (s10:Int) (s11:Int):Fr:=frOf [(0,dc charset0),(1,(.dat (.sl (.int .i32)) t1 none)),(5,(.dat (.sl (.sl .byte)) l5 (some (5,22)))),(10,dc s10),(11,dc s11)]
theorem qvB (K:Ex→Fr→Option AV):∀ (n:Nat) (charset0:Int) (t1:List Int) (l5:List (List UInt8)) (s10:Int) (s11:Int),evLP E_z23 n (sub C_z23 [1,1,0,1,0,0]) K (qrJ charset0 t1 l5 s10 s11)=qlM (qkg K) n charset0 t1 l5 s10 s11:=by
 intro n;induction n with
 | zero=>intros; rfl
 | succ n IH =>
 intro charset0 t1 l5 s10 s11;have ih:(fun charset0 t1 l5 s10 s11=>evLP E_z23 n (sub C_z23 [1,1,0,1,0,0]) K (qrJ charset0 t1 l5 s10 s11))=qlM (qkg K) n:=by
  funext charset0 t1 l5 s10 s11;exact IH charset0 t1 l5 s10 s11
 show _=qeE (qkg K) (qlM (qkg K) n) n charset0 t1 l5 s10 s11;rw [← ih];kernel_rfl
theorem qpb (n:Nat) (l5:List (List UInt8)):(qnj n) (.exit 0) (frOf [(5,(.dat (.sl (.sl .byte)) l5 (some (5,22))))])=qeF n l5:=by
 kernel_rfl
theorem qGa (n:Nat) (charset0:Int) (o0:Lab) (t1:List Int) (o1:Lab):evFnP E_z23 n C_z23 R_z23 [de charset0 o0,.dat (.sl (.int .i32)) t1 o1]=qwX n charset0 t1:=by
 unfold qwX;rw [show qlM (qeF n) n=(fun charset0 t1 l5 s10 s11=>evLP E_z23 n (sub C_z23 [1,1,0,1,0,0]) (qnj n) (qrJ charset0 t1 l5 s10 s11)) from by
  funext charset0 t1 l5 s10 s11;refine Eq.trans ?_ (qvB (qnj n) n charset0 t1 l5 s10 s11).symm;rw [show (qkg (qnj n))=(qeF n) from by
   funext l5;exact qpb n l5]
  all_goals kernel_rfl]
 kernel_rfl
theorem qvC:qh G Tryz.prog 23 s_z23:=by
 refine sQ (E:=E_z23) (c:=C_z23) rfl (fun w S hg=>(qb (qvw w S hg) (qb (qvA w S hg) qc))) Tryz.func23 ?_;intro avs r h;unfold s_z23 at h;split at h
 ·obtain ⟨hp,rfl⟩:=yj h;obtain ⟨n,hn⟩:=qAl _ _ hp;exact ⟨n,_,(qGa n _ _ _ _).trans hn,.inl rfl⟩
 ·cases h
def E_z64:EnvP:=eQ [(100,s_z100)] 21 (some [4]) (fun x=>if x=3 then some [1,5,8,9,10] else none) (fun x=>if x=0 then some [5] else if x=1 then some [1,5,8,9,10] else none) nP
def C_z64:Code:=cO Tryz.f64
def R_z64:Array ResultVar:=Tryz.f64.results
noncomputable def qkh (K:Ex→Fr→Option AV):=fun n5=>K (.exit 0) (frOf [(5,dc n5)])
def qnk (n:Nat):Ex→Fr→Option AV:=qz 0 (E_z64.cutb 0) (kSeq (evCP E_z64 (evLP E_z64 n) (sub C_z64 [1,1,1])) (kFnP E_z64 R_z64))
def qrK (kinds1:Int) (n5:Int) (s8:List UInt8) (s9:Int) (s10:Int):Fr:=frOf [(1,dc kinds1),(5,dc n5),(8,da s8),(9,dc s9),(10,dc s10)]
theorem qvD (K:Ex→Fr→Option AV):∀ (n:Nat) (kinds1:Int) (n5:Int) (s8:List UInt8) (s9:Int) (s10:Int),evLP E_z64 n (sub C_z64 [1,1,0,1,0,0]) K (qrK kinds1 n5 s8 s9 s10)=qiY (qkh K) n kinds1 n5 s8 s9 s10:=by
 intro n;induction n with
 | zero=>intros; rfl
 | succ n IH =>
 intro kinds1 n5 s8 s9 s10;have ih:(fun kinds1 n5 s8 s9 s10=>evLP E_z64 n (sub C_z64 [1,1,0,1,0,0]) K (qrK kinds1 n5 s8 s9 s10))=qiY (qkh K) n:=by
  funext kinds1 n5 s8 s9 s10;exact IH kinds1 n5 s8 s9 s10
 show _=qeG (qkh K) (qiY (qkh K) n) n kinds1 n5 s8 s9 s10;rw [← ih];kernel_rfl
theorem qpc (n:Nat) (n5:Int):(qnk n) (.exit 0) (frOf [(5,dc n5)])=qgM n n5:=by
 kernel_rfl
theorem qGb (n:Nat) (s0:List UInt8) (o0:Lab) (kinds1:Int) (o1:Lab):evFnP E_z64 n C_z64 R_z64 [db s0 o0,de kinds1 o1]=qwY n s0 kinds1:=by
 unfold qwY;rw [show qiY (qgM n) n=(fun kinds1 n5 s8 s9 s10=>evLP E_z64 n (sub C_z64 [1,1,0,1,0,0]) (qnk n) (qrK kinds1 n5 s8 s9 s10)) from by
  funext kinds1 n5 s8 s9 s10;refine Eq.trans ?_ (qvD (qnk n) n kinds1 n5 s8 s9 s10).symm;rw [show (qkh (qnk n))=(qgM n) from by
   funext n5;exact qpc n n5]
  all_goals kernel_rfl]
 kernel_rfl
theorem qvE:qh G Tryz.prog 64 s_z64:=by
 refine sQ (E:=E_z64) (c:=C_z64) rfl (fun w S hg=>(qb (qke w S hg) qc)) Tryz.func64 ?_;intro avs r h;unfold s_z64 at h;split at h
 ·obtain ⟨hp,rfl⟩:=yj h;obtain ⟨n,hn⟩:=qBQ _ _ hp;exact ⟨n,_,(qGb n _ _ _ _).trans hn,.inl rfl⟩
 ·cases h
def E_z36:EnvP:=eQ [(64,s_z64)] 11 (some [4]) nC nC nP
def C_z36:Code:=cO Tryz.f36
def R_z36:Array ResultVar:=Tryz.f36.results
theorem qGc (n:Nat) (s0:List UInt8) (o0:Lab) (kinds1:Int) (o1:Lab):evFnP E_z36 n C_z36 R_z36 [db s0 o0,de kinds1 o1]=qAS n s0 kinds1:=by
 kernel_rfl
theorem qnl:qh G Tryz.prog 36 s_z36:=by
 refine sQ (E:=E_z36) (c:=C_z36) rfl (fun w S hg=>(qb (qvE w S hg) qc)) Tryz.func36 ?_;intro avs r h;unfold s_z36 at h;split at h
 ·obtain ⟨hp,rfl⟩:=yj h;obtain ⟨n,hn⟩:=qBR _ _ hp;exact ⟨n,_,(qGc n _ _ _ _).trans hn,.inl rfl⟩
 ·cases h
def E_z18:EnvP:=eQ [(36,s_z36)] 15 (some [2]) nC nC nP
def C_z18:Code:=cO Tryz.f18
def R_z18:Array ResultVar:=Tryz.f18.results
theorem qGd (n:Nat) (name0:List UInt8) (o0:Lab):evFnP E_z18 n C_z18 R_z18 [db name0 o0]=qAT n name0:=by
 kernel_rfl
theorem qvF:qh G Tryz.prog 18 s_z18:=by
 refine sQ (E:=E_z18) (c:=C_z18) rfl (fun w S hg=>(qb (qnl w S hg) qc)) Tryz.func18 ?_;intro avs r h;unfold s_z18 at h;split at h
 ·obtain ⟨hp,rfl⟩:=yj h;obtain ⟨n,hn⟩:=qAa _ hp;exact ⟨n,_,(qGd n _ _).trans hn,.inl rfl⟩
 ·cases h
def E_z50:EnvP:=eQ [(89,s_z89)] 9 (some [4]) nC nC nP
def C_z50:Code:=cO Tryz.f50
def R_z50:Array ResultVar:=Tryz.f50.results
theorem qGe (n:Nat) (s0:List Int) (o0:Lab) (v1:Int) (o1:Lab):evFnP E_z50 n C_z50 R_z50 [.dat (.sl (.int .i32)) s0 o0,di v1 o1]=qAU n s0 v1:=by
 kernel_rfl
theorem qvG:qh G Tryz.prog 50 s_z50:=by
 refine sQ (E:=E_z50) (c:=C_z50) rfl (fun w S hg=>(qb (qmS w S hg) qc)) Tryz.func50 ?_;intro avs r h;unfold s_z50 at h;split at h
 ·obtain ⟨hp,rfl⟩:=yj h;obtain ⟨n,hn⟩:=qAb _ _ hp;exact ⟨n,_,(qGe n _ _ _ _).trans hn,.inl rfl⟩
 ·cases h
def E_z27:EnvP:=eQ [(18,s_z18),(49,s_z49),(50,s_z50)] 16 (some [4]) nC (fun x=>if x=0 then some [] else none) nP
def C_z27:Code:=cO Tryz.f27
def R_z27:Array ResultVar:=Tryz.f27.results
theorem qGf (n:Nat) (name0:List UInt8) (o0:Lab) (t1:List Int) (o1:Lab):evFnP E_z27 n C_z27 R_z27 [db name0 o0,.dat (.sl (.int .i32)) t1 o1]=qAV n name0 t1:=by
 kernel_rfl
theorem qnm:qh G Tryz.prog 27 s_z27:=by
 refine sQ (E:=E_z27) (c:=C_z27) rfl (fun w S hg=>(qb (qvF w S hg) (qb (qnd w S hg) (qb (qvG w S hg) qc)))) Tryz.func27 ?_;intro avs r h;unfold s_z27 at h;split at h
 ·obtain ⟨hp,rfl⟩:=yj h;obtain ⟨n,hn⟩:=qAf _ _ hp;exact ⟨n,_,(qGf n _ _ _ _).trans hn,.inl rfl⟩
 ·cases h
def E_z90:EnvP:=eQ [(121,s_z121)] 9 (some [4]) nC nC nP
def C_z90:Code:=cO Tryz.f90
def R_z90:Array ResultVar:=Tryz.f90.results
theorem qGg (n:Nat) (s0:List Int) (o0:Lab):evFnP E_z90 n C_z90 R_z90 [.dat (.sl (.int .i32)) s0 o0,.fn 91 []]=qAW n s0:=by
 kernel_rfl
theorem qvH:qh G Tryz.prog 90 s_z90:=by
 refine sQ (E:=E_z90) (c:=C_z90) rfl (fun w S hg=>(qb (qka w S hg) qc)) Tryz.func90 ?_;intro avs r h;unfold s_z90 at h;split at h
 ·obtain ⟨hp,rfl⟩:=yj h;obtain ⟨n,hn⟩:=qAd _ hp;exact ⟨n,_,(qGg n _ _).trans hn,.inl rfl⟩
 ·cases h
def E_z51:EnvP:=eQ [(90,s_z90)] 6 (some [2]) nC nC nP
def C_z51:Code:=cO Tryz.f51
def R_z51:Array ResultVar:=Tryz.f51.results
theorem qGh (n:Nat) (t0:List Int) (o0:Lab):evFnP E_z51 n C_z51 R_z51 [.dat (.sl (.int .i32)) t0 o0]=qAX n t0:=by
 kernel_rfl
theorem qvI:qh G Tryz.prog 51 s_z51:=by
 refine sQ (E:=E_z51) (c:=C_z51) rfl (fun w S hg=>(qb (qvH w S hg) qc)) Tryz.func51 ?_;intro avs r h;unfold s_z51 at h;split at h
 ·obtain ⟨hp,rfl⟩:=yj h;obtain ⟨n,hn⟩:=qAe _ hp;exact ⟨n,_,(qGh n _ _).trans hn,.inl rfl⟩
 ·cases h
def E_z93:EnvP:=eQ [(36,s_z36)] 10 (some [2]) nC nC nP
def C_z93:Code:=cO Tryz.f93
def R_z93:Array ResultVar:=Tryz.f93.results
theorem qGi (n:Nat) (s0:List UInt8) (o0:Lab):evFnP E_z93 n C_z93 R_z93 [db s0 o0]=qAY n s0:=by
 kernel_rfl
theorem qvJ:qh G Tryz.prog 93 s_z93:=by
 refine sQ (E:=E_z93) (c:=C_z93) rfl (fun w S hg=>(qb (qnl w S hg) qc)) Tryz.func93 ?_;intro avs r h;unfold s_z93 at h;split at h
 ·obtain ⟨hp,rfl⟩:=yj h;obtain ⟨n,hn⟩:=qzM _ hp;exact ⟨n,_,(qGi n _ _).trans hn,.inl rfl⟩
 ·cases h
def E_z94:EnvP:=eQ [] 28 (some [2]) (fun x=>if x=3 then some [3,7,8,9] else none) (fun x=>if x=0 then some [3] else if x=1 then some [3,7,8,9] else if x=2 then some [3,7,8,9] else if x=3 then some [3,5,7,8,9] else if x=4 then some [3,5,7,8,9] else none) nP
def C_z94:Code:=cO Tryz.f94
def R_z94:Array ResultVar:=Tryz.f94.results
noncomputable def qki (K:Ex→Fr→Option AV):=fun out3=>K (.exit 0) (frOf [(3,(db out3 (some (3,5))))])
def qnn (n:Nat):Ex→Fr→Option AV:=qz 0 (E_z94.cutb 0) (kSeq (evCP E_z94 (evLP E_z94 n) (sub C_z94 [1,1,1])) (kFnP E_z94 R_z94))
def qrL (out3:List UInt8) (s7:List UInt8) (s8:Int) (s9:Int):Fr:=frOf [(3,(db out3 (some (3,5)))),(7,da s7),(8,dc s8),(9,dc s9)]
theorem qvK (K:Ex→Fr→Option AV):∀ (n:Nat) (out3:List UInt8) (s7:List UInt8) (s8:Int) (s9:Int),evLP E_z94 n (sub C_z94 [1,1,0,1,0,0]) K (qrL out3 s7 s8 s9)=qlN (qki K) n out3 s7 s8 s9:=by
 intro n;induction n with
 | zero=>intros; rfl
 | succ n IH =>
 intro out3 s7 s8 s9;have ih:(fun out3 s7 s8 s9=>evLP E_z94 n (sub C_z94 [1,1,0,1,0,0]) K (qrL out3 s7 s8 s9))=qlN (qki K) n:=by
  funext out3 s7 s8 s9;exact IH out3 s7 s8 s9
 show _=qeH (qki K) (qlN (qki K) n) n out3 s7 s8 s9;rw [← ih];kernel_rfl
theorem qpd (n:Nat) (out3:List UInt8):(qnn n) (.exit 0) (frOf [(3,(db out3 (some (3,5))))])=qcV n out3:=by
 kernel_rfl
theorem qGj (n:Nat) (s0:List UInt8) (o0:Lab):evFnP E_z94 n C_z94 R_z94 [db s0 o0]=qwZ n s0:=by
 unfold qwZ;rw [show qlN (qcV n) n=(fun out3 s7 s8 s9=>evLP E_z94 n (sub C_z94 [1,1,0,1,0,0]) (qnn n) (qrL out3 s7 s8 s9)) from by
  funext out3 s7 s8 s9;refine Eq.trans ?_ (qvK (qnn n) n out3 s7 s8 s9).symm;rw [show (qki (qnn n))=(qcV n) from by
   funext out3;exact qpd n out3]
  all_goals kernel_rfl]
 kernel_rfl
theorem qvL:qh G Tryz.prog 94 s_z94:=by
 refine sQ (E:=E_z94) (c:=C_z94) rfl (fun w S hg=>qc) Tryz.func94 ?_;intro avs r h;unfold s_z94 at h;split at h
 ·obtain ⟨hp,rfl⟩:=yj h;obtain ⟨n,hn⟩:=qzL _ hp;exact ⟨n,_,(qGj n _ _).trans hn,.inl rfl⟩
 ·cases h
def E_z54:EnvP:=eQ [(53,s_z53),(93,s_z93),(94,s_z94)] 9 (some [2]) nC nC nP
def C_z54:Code:=cO Tryz.f54
def R_z54:Array ResultVar:=Tryz.f54.results
theorem qGk (n:Nat) (s0:List UInt8) (o0:Lab):evFnP E_z54 n C_z54 R_z54 [db s0 o0]=qAZ n s0:=by
 kernel_rfl
theorem qvM:qh G Tryz.prog 54 s_z54:=by
 refine sQ (E:=E_z54) (c:=C_z54) rfl (fun w S hg=>(qb (qdA w S hg) (qb (qvJ w S hg) (qb (qvL w S hg) qc)))) Tryz.func54 ?_;intro avs r h;unfold s_z54 at h;split at h
 ·obtain ⟨hp,rfl⟩:=yj h;obtain ⟨n,hn⟩:=qzN _ hp;exact ⟨n,_,(qGk n _ _).trans hn,.inl rfl⟩
 ·cases h
def E_z28:EnvP:=eQ [(51,s_z51),(52,s_z52),(53,s_z53),(54,s_z54)] 28 (some [4,5]) nC nC nP
def C_z28:Code:=cO Tryz.f28
def R_z28:Array ResultVar:=Tryz.f28.results
theorem qGl (n:Nat) (name0:List UInt8) (o0:Lab) (t1:List Int) (o1:Lab):evFnP E_z28 n C_z28 R_z28 [db name0 o0,.dat (.sl (.int .i32)) t1 o1]=qBa n name0 t1:=by
 kernel_rfl
theorem qno:qh G Tryz.prog 28 s_z28:=by
 refine sQ (E:=E_z28) (c:=C_z28) rfl (fun w S hg=>(qb (qvI w S hg) (qb (qmZ w S hg) (qb (qdA w S hg) (qb (qvM w S hg) qc))))) Tryz.func28 ?_;intro avs r h;unfold s_z28 at h;split at h
 ·obtain ⟨hp,rfl⟩:=yj h;obtain ⟨n,hn⟩:=qAh _ _ hp;exact ⟨n,_,(qGl n _ _ _ _).trans hn,.inl rfl⟩
 ·cases h
end
end Go.Av
