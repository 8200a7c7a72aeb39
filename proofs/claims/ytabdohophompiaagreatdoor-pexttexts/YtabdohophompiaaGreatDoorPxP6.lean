import Derived.Test.YtabdohophompiaaGreatDoorPxP5
namespace Go.Av
set_option linter.unusedSimpArgs false
set_option linter.unusedVariables false
theorem qzW {name:List UInt8} {t:List Int} (h1:name.length≤100) (h2:t.length≤100):ok36 name t=true:=by
 unfold ok36;rw [dT h1,dT h2];rfl
theorem qoX {l:List (List UInt8)}:z12 l l=true:=by unfold z12; exact dT rfl
theorem qoY {l m:List (List UInt8)} (h1:l.length≤1048576) (h2:∀ x∈l,x.length≤1048576):qlR l m=true:=by
 unfold qlR;rw [qv h1,List.all_eq_true.2 fun x hx=>qv (h2 x hx)];rfl
theorem qyw (t:List Int) (h:t.length≤100):(z9 t).1.length≤100∧∀ x∈(z9 t).1,x.length≤75:=by
 unfold z9;cases (z22 t).2 != 0 with
 | true=>exact ⟨Nat.zero_le _,fun x hx=>by cases hx⟩
 | false =>
  have:=qoU (z22 t).1 t;exact ⟨by simp only [yd]; omega,qfO _ t⟩
theorem qHc:∀ (name0:List UInt8) (t1:List Int),(z3_ok name0 t1=true)→∃ n,z3_sh n name0 t1=qkW (z3 name0 t1):=fun name t h=>⟨0,by
 unfold z3_sh
 by_cases h1:(100:Int) < ((name.length:Nat):Int)
 ·rw [dT h1]; rfl
 ·rw [dF h1]
  by_cases h2:(100:Int) < ((t.length:Nat):Int)
  ·rw [dT h2]; rfl
  ·rw [dF h2];have hi:i32s t=true:=h;have hok:=qzW (name:=name) (t:=t) (by omega) (by omega);obtain ⟨k1,k2⟩:=qiW hok;have k3:=qCq _ k2;obtain ⟨k4,k5⟩:=qyw t (by omega);rw [show z7_ok name t=true from hok,show z8_ok name t=true from by unfold z8_ok; rw [hok,hi]; rfl,
    show z9_ok t=true from qC (by omega),show qiS t=true from by unfold qiS; rw [qC (by omega),hi]; rfl,
    show z8 name t=z7 name t from rfl,show z10 t=z9 t from rfl,
    show qpV (z7 name t).1 (z7 name t).1=true from qv (l:=textL (qbg name t).1) (by omega),show z11 (z7 name t).1 (z7 name t).1=true from qzo _,
    beq_self_eq_true,qoY (l:=(z9 t).1) (by omega) (fun x hx=>by have:=k5 x hx; omega),qoX,beq_self_eq_true]
   rfl⟩
theorem qHd:∀ (name0:List UInt8) (t1:List Int),(z4_ok name0 t1=true)→∃ n,z4_sh n name0 t1=qjq (z4 name0 t1):=fun name t h=>⟨0,by
 unfold z4_sh
 by_cases h1:(100:Int) < ((name.length:Nat):Int)
 ·rw [dT h1]; rfl
 ·rw [dF h1]
  by_cases h2:(100:Int) < ((t.length:Nat):Int)
  ·rw [dT h2]; rfl
  ·rw [dF h2];have hi:i32s t=true:=h;have hok:=qzW (name:=name) (t:=t) (by omega) (by omega);obtain ⟨k1,k2⟩:=qiW hok;rw [show qhu name t=true from hok,show qkG name t=true from by unfold qkG; rw [hok,hi]; rfl,
    show qyp name t=true from hok,show qqL name t=true from by unfold qqL; rw [qC (by omega),qC (by omega)]; rfl,
    show qtQ name t=true from by unfold qtQ; rw [qC (by omega),qC (by omega),hi]; rfl,
    show qqJ name=true from qv (by omega),show qqK name=true from qv (by omega),
    show z14 name t=z13 name t from rfl,show z17 name t=z16 name t from rfl,show z19 name=z18 name from rfl,
    qoY (l:=(z13 name t).1) (show (qbg name t).1.length≤_ by omega) (fun x hx=>by have:=k2 x hx; omega),qoX,beq_self_eq_true,beq_self_eq_true,beq_self_eq_true,
    show (z15 name t==(((z13 name t).1.length:Nat):Int))=true from beq_self_eq_true _]
   rfl⟩
def qfk (s2:List UInt8):Option AV:=some (df s2 none)
def qiX (ok:Int→Bool) (n0:Int):Option AV :=
 bif (decide (n0 < (10:Int))) then
  qfk ([(UInt8.ofNat (Int.toNat (IntKind.wrap .u8 (IntKind.wrap .i64 ((48:Int)+n0)))))]:List UInt8)
 else
  bif ((ok (IntKind.wrap .i64 (Int.tdiv n0 (10:Int))))&&true) then
   bif ((ok (Int.tmod n0 (10:Int)))&&true) then
    bif (decide (List.length (digI (IntKind.wrap .i64 (Int.tdiv n0 (10:Int))))+List.length (digI (Int.tmod n0 (10:Int)))≤9223372036854775807)) then
     qfk ((digI (IntKind.wrap .i64 (Int.tdiv n0 (10:Int))))++(digI (Int.tmod n0 (10:Int))))
    else none
   else none
  else none
def ok10 (n:Int):Bool:=decide (0≤n∧n < 10)
theorem qyx:∀ i:Fin 10,(outS (qiX (fun _=>false) ((i.val:Nat):Int))==some (digI ((i.val:Nat):Int)))=true:=by decide +kernel
theorem qui:∀ i:Fin 100,(outS (qiX ok10 ((i.val:Nat):Int))==some (digI ((i.val:Nat):Int)))=true:=by decide +kernel
theorem qzX {ok:Int→Bool} {n:Int} {r:List UInt8} (h1:outS (qiX ok n)=some r):qiX ok n=qfk r:=by
 revert h1;unfold qiX;cases decide (n < 10) with
 | true=>intro h1; exact congrArg qfk (yp h1)
 | false =>
  simp only [yd];cases ok (IntKind.wrap .i64 (Int.tdiv n 10))&&true with
  | false=>intro h1; cases h1
  | true =>
   cases ok (Int.tmod n 10)&&true with
   | false=>intro h1; cases h1
   | true =>
    cases decide (List.length (digI (IntKind.wrap .i64 (Int.tdiv n 10)))+List.length (digI (Int.tmod n 10))≤9223372036854775807) with
    | false=>intro h1; cases h1
    | true=>intro h1; exact congrArg qfk (yp h1)
theorem dig10 (n:Int) (h:ok10 n=true):qiX (fun _=>false) n=qfk (digI n):=by
 have hr:0≤n∧n < 10:=of_decide_eq_true h;obtain ⟨k,rfl⟩:∃ k:Nat,n=(k:Int):=⟨n.toNat,by omega⟩;exact qzX (eq_of_beq (qyx ⟨k,by omega⟩))
theorem qJO (n:Int) (h:qtO n=true):qiX ok10 n=qfk (digI n):=by
 have hr:=qfL h;obtain ⟨k,rfl⟩:∃ k:Nat,n=(k:Int):=⟨n.toNat,by omega⟩;exact qzX (eq_of_beq (qui ⟨k,by omega⟩))
end Go.Av
