import Derived.Test.YtcbimkaeoojceaaGreatDoorEfR
namespace Go.Av
set_option linter.unusedVariables false
set_option linter.unusedSimpArgs false
theorem qzW {x:UInt8} {r:List UInt8} (h:(farN (x :: r)==0)=false):1≤farN (x :: r):=by
 have:=beq_eq_false_iff_ne.1 h; omega
theorem qrQ (x:UInt8) (r:List UInt8):1≤(z98 (x :: r)).2.1.toNat:=by
 show 1≤(bif farN (x :: r)==0 then ((0:Int),((1:Int),(3:Int))) else bif decide (farN (x :: r) < qe x)&&(farN (x :: r)==(x :: r).length) then (0,(farN (x :: r):Nat),4)
  else bif decide (farN (x :: r) < qe x) then (0,(farN (x :: r):Nat),3) else (signN (farN (x :: r)) (x :: r),(farN (x :: r):Nat),0)).2.1.toNat
 cases h:farN (x :: r)==0 with
 | true=>exact yv 1
 | false =>
  have:=qzW h;rw [yd];cases decide (farN (x :: r) < qe x)&&farN (x :: r)==(x :: r).length
  ·cases decide (farN (x :: r) < qe x) <;> exact this
  ·exact this
theorem qlB:∀ (n:Nat) (s:List UInt8),(utfR n s).length≤s.length
 | 0,_=>Nat.zero_le _
 | _+1,[]=>Nat.zero_le _
 | n+1,x :: r=>by
  show (utfR n ((x :: r).drop _)).length+1≤_;have h1:=qlB n ((x :: r).drop (z98 (x :: r)).2.1.toNat);have h2:=qrQ x r;rw [yK] at h1;simp only [yg] at h1 ⊢; omega
theorem qeV {α:Type} (p:α→Bool):∀ l:List α,(l.takeWhile p).length≤l.length
 | []=>yv _
 | x :: r=>by
  rw [List.takeWhile_cons];split
  ·simp only [yg]; have:=qeV p r; omega
  ·simp
theorem qix (cs:Int) (s:List UInt8):(z50 cs s).length≤s.length:=by
 unfold z50;cases cs==1
 ·cases cs==3
  ·cases cs==4
   ·cases cs==5
    ·simp [z72]
    ·exact qlB _ _
   ·simp [z71]
  ·simp [z70]
 ·simp [z69]
end Go.Av
