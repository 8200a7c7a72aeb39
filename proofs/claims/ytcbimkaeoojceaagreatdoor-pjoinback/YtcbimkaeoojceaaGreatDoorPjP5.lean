import Derived.Test.YtcbimkaeoojceaaGreatDoorPjP4
namespace Go.Av
set_option linter.unusedSimpArgs false
set_option linter.unusedVariables false
def outS:OA→Option LU
 | some (df s none)=>some s
 | _=>none
theorem qEt {n:Int} (h:qAZ n=true):0≤n∧n < 100:=by unfold qAZ at h; exact of_decide_eq_true h
def qgE (s2:LU):OA:=some (df s2 none)
def qlt (ok:Int→Bool) (n0:Int):OA :=
 bif (decide (n0 < (10:Int))) then
  qgE ([(UInt8.ofNat (Int.toNat (IntKind.wrap .u8 (IntKind.wrap .i64 ((48:Int)+n0)))))]:LU)
 else
  bif ((ok (IntKind.wrap .i64 (Int.tdiv n0 (10:Int))))&&true) then
   bif ((ok (Int.tmod n0 (10:Int)))&&true) then
    bif (decide (List.length (digI (IntKind.wrap .i64 (Int.tdiv n0 (10:Int))))+List.length (digI (Int.tmod n0 (10:Int)))≤9223372036854775807)) then
     qgE ((digI (IntKind.wrap .i64 (Int.tdiv n0 (10:Int))))++(digI (Int.tmod n0 (10:Int))))
    else none
   else none
  else none
def ok10 (n:Int):Bool:=decide (0≤n∧n < 10)
theorem qEu:∀ i:Fin 10,(outS (qlt (fun _=>false) ((i.val:Nat):Int))==some (digI ((i.val:Nat):Int)))=true:=by decide +kernel
theorem qyZ:∀ i:Fin 100,(outS (qlt ok10 ((i.val:Nat):Int))==some (digI ((i.val:Nat):Int)))=true:=by decide +kernel
theorem qGs {ok:Int→Bool} {n:Int} {r:LU} (h1:outS (qlt ok n)=some r):qlt ok n=qgE r:=by
 revert h1;unfold qlt;cases decide (n < 10) with
 | true=>intro h1; exact congrArg qgE (yp h1)
 | false =>
  simp only [yd];cases ok (IntKind.wrap .i64 (Int.tdiv n 10))&&true with
  | false=>intro h1; cases h1
  | true =>
   cases ok (Int.tmod n 10)&&true with
   | false=>intro h1; cases h1
   | true =>
    cases decide (List.length (digI (IntKind.wrap .i64 (Int.tdiv n 10)))+List.length (digI (Int.tmod n 10))≤9223372036854775807) with
    | false=>intro h1; cases h1
    | true=>intro h1; exact congrArg qgE (yp h1)
theorem dig10 (n:Int) (h:ok10 n=true):qlt (fun _=>false) n=qgE (digI n):=by
 have hr:0≤n∧n < 10:=of_decide_eq_true h;obtain ⟨k,rfl⟩:∃ k:Nat,n=(k:Int):=⟨n.toNat,by omega⟩;exact qGs (eq_of_beq (qEu ⟨k,by omega⟩))
theorem qRH (n:Int) (h:qBa n=true):qlt ok10 n=qgE (digI n):=by
 have hr:=qEt h;obtain ⟨k,rfl⟩:∃ k:Nat,n=(k:Int):=⟨n.toNat,by omega⟩;exact qGs (eq_of_beq (qyZ ⟨k,by omega⟩))
theorem qOu:∃ n,z5_sh n  = qAe z5:=⟨0,by kernel_rfl⟩
end Go.Av
