import Derived.Test.YtnfehbljinflbaaGreatDoorRRRREfB3
namespace Go.Av
theorem qce {P:UInt8→Prop} (h:∀ i:Fin 256,P (UInt8.ofNat i.val)) (c:UInt8):P c:=by
 have:=h ⟨c.toNat,c.toNat_lt⟩;simpa using this
theorem qLL {x:UInt8} {r:LU} (h:(x==61)=false):(z144 (x :: r) 0 61).2=false:=by
 unfold z144;cases decide ((0:Int)≤0)&&decide ((0:Int)≤((x :: r).length:Int) - 3)
 ·rfl
 ·show (qpt (x :: r) 0 61).2=false;unfold qpt;rw [show ((x :: r).getD 0 0==61)=false from h];rfl
end Go.Av
