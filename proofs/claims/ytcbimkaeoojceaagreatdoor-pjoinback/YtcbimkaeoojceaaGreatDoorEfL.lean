import Derived.Test.YtcbimkaeoojceaaGreatDoorEfR
namespace Go.Av
set_option linter.unusedSimpArgs false
set_option linter.unusedVariables false
theorem qHX {x:UInt8} {r:LU} (h:(farN (x :: r)==0)=false):1≤farN (x :: r):=by
 have:=beq_eq_false_iff_ne.1 h; omega
theorem qHY (x:UInt8) (r:LU):1≤(z98 (x :: r)).2.1.toNat:=by
 show 1≤(bif farN (x :: r)==0 then ((0:Int),((1:Int),(3:Int))) else bif decide (farN (x :: r) < qp x)&&(farN (x :: r)==(x :: r).length) then (0,(farN (x :: r):Nat),4)
  else bif decide (farN (x :: r) < qp x) then (0,(farN (x :: r):Nat),3) else (signN (farN (x :: r)) (x :: r),(farN (x :: r):Nat),0)).2.1.toNat
 cases h:farN (x :: r)==0 with
 | true=>exact yv 1
 | false =>
  have:=qHX h;rw [yd];cases decide (farN (x :: r) < qp x)&&farN (x :: r)==(x :: r).length
  ·cases decide (farN (x :: r) < qp x) <;> exact this
  ·exact this
theorem qgz {α:Type} (p:α→Bool):∀ l:List α,(l.takeWhile p).length≤l.length
 | []=>yv _
 | x :: r=>by
  rw [List.takeWhile_cons];split
  ·simp only [yg]; have:=qgz p r; omega
  ·simp
end Go.Av
