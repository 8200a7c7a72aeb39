import Derived.Test.YtcbimkaeoojceaaGreatDoorPjT
import Derived.Test.YtcbimkaeoojceaaGreatDoorAvE
import Derived.Lib.IndexAny
import Derived.Lib.IndexMore
import Derived.Lib.IndexBytes
import Derived.IntWalk
import Derived.KernelRfl
namespace Go.Av
set_option linter.unusedVariables false
set_option linter.unusedSimpArgs false
theorem low6E:∀ i:Fin 256,((UInt8.ofNat i.val) &&& 63).toNat < 64∧(z131 (UInt8.ofNat i.val)=true→(decide ((UInt8.ofNat i.val) < 160)=true→((UInt8.ofNat i.val) &&& 63).toNat < 32)∧(decide ((UInt8.ofNat i.val) < 144)=true→((UInt8.ofNat i.val) &&& 63).toNat < 16)):=by decide +kernel
theorem qEL:∀ i:Fin 256,qe (UInt8.ofNat i.val)=1→((UInt8.ofNat i.val) &&& (255 ^^^ z118 ((1:Nat):Int))).toNat < 128:=by decide +kernel
theorem qEM:∀ i:Fin 256,qe (UInt8.ofNat i.val)=2→((UInt8.ofNat i.val) &&& (255 ^^^ z118 ((2:Nat):Int))).toNat < 32:=by decide +kernel
theorem qEN:∀ i:Fin 256,qe (UInt8.ofNat i.val)=3→((UInt8.ofNat i.val) &&& (255 ^^^ z118 ((3:Nat):Int))).toNat < 16∧(((UInt8.ofNat i.val) &&& (255 ^^^ z118 ((3:Nat):Int))).toNat=13→UInt8.ofNat i.val=237):=by decide +kernel
theorem qEO:∀ i:Fin 256,qe (UInt8.ofNat i.val)=4→((UInt8.ofNat i.val) &&& (255 ^^^ z118 ((4:Nat):Int))).toNat≤4∧(((UInt8.ofNat i.val) &&& (255 ^^^ z118 ((4:Nat):Int))).toNat=4→UInt8.ofNat i.val=244):=by decide +kernel
theorem qtF:∀ i:Fin 256,qe (UInt8.ofNat i.val)≤4:=by decide +kernel
theorem fin8E {P:UInt8→Prop} (h:∀ i:Fin 256,P (UInt8.ofNat i.val)) (c:UInt8):P c:=by
 have:=h ⟨c.toNat,c.toNat_lt⟩;simpa using this
theorem qxx {n:Nat} (h:n≤1114111) (h2:¬ (55296≤n∧n≤57343)):z21 (n:Int)=true:=by
 unfold z21 z34;rw [yo (show (0:Int)≤(n:Int) by omega),yo (show (n:Int)≤1114111 by omega)];have:(decide ((55296:Int)≤(n:Int))&&decide ((n:Int)≤57343))=false:=by
  rw [← Bool.not_eq_true,yf,ym,ym];omega
 rw [this];rfl
theorem qtG (f:UInt8):∀ (n:Nat) (o:Bool) (s:List UInt8),runB f n o s≤n
 | 0,_,_=>yv _
 | n+1,_,[]=>Nat.zero_le _
 | n+1,o,x :: r=>by
  show (bif z131 x&&(!o||z132 f x) then runB f n false r+1 else 0)≤n+1;have:=qtG f n false r;cases (z131 x&&(!o||z132 f x)) with
  | true=>show runB f n false r+1≤n+1; omega
  | false=>exact Nat.zero_le _
theorem qbC (f:UInt8) (n:Nat) (o:Bool) (s:List UInt8) (h:runB f (n+1) o s=n+1):∃ x r,s=x :: r∧z131 x=true∧(o=true→z132 f x=true)∧runB f n false r=n:=by
 cases s with
 | nil=>exact absurd (show (0:Nat)=n+1 from h) (by omega)
 | cons x r =>
  have h:(bif z131 x&&(!o||z132 f x) then runB f n false r+1 else 0)=n+1:=h;cases hc:(z131 x&&(!o||z132 f x)) with
  | false=>rw [hc] at h; exact absurd (show (0:Nat)=n+1 from h) (by omega)
  | true =>
   rw [hc] at h;have h:runB f n false r+1=n+1:=h;rw [yf] at hc;exact ⟨x,r,rfl,hc.1,fun ho=>by subst ho; simpa using hc.2,by omega⟩
theorem qAU (x:UInt8) (r:List UInt8) (h:farN (x :: r)=qe x) (h0:qe x≠0):z21 (signN (qe x) (x :: r))=true:=by
 have hle:=fin8E (P:=fun x=>qe x≤4) qtF x;have hf:farN (x :: r)=bif qe x==0 then 0 else 1+runB x (qe x - 1) true r:=rfl
 rw [hf,beq_eq_false_iff_ne.2 h0] at h;have h:1+runB x (qe x - 1) true r=qe x:=h;obtain e | e | e | e:qe x=1∨qe x=2∨qe x=3∨qe x=4:=by omega
 ·have a:=fin8E (P:=fun x=>qe x=1→(x &&& (255 ^^^ z118 ((1:Nat):Int))).toNat < 128) qEL x e;rw [e];exact qxx (n:=(x &&& (255 ^^^ z118 ((1:Nat):Int))).toNat) (by omega) (by omega)
 ·have a:=fin8E (P:=fun x=>qe x=2→(x &&& (255 ^^^ z118 ((2:Nat):Int))).toNat < 32) qEM x e;rw [e] at h;obtain ⟨y,r1,rfl,b1,b2,_⟩:=qbC x 0 true r (show runB x (2 - 1) true r=1 by omega);have c:=fin8E (P:=fun y=>(y &&& 63).toNat < 64∧(z131 y=true→(decide (y < 160)=true→(y &&& 63).toNat < 32)∧(decide (y < 144)=true→(y &&& 63).toNat < 16))) low6E y;rw [e];show z21 ((((x &&& (255 ^^^ z118 ((2:Nat):Int))).toNat:Nat):Int)*64+((y &&& 63).toNat:Int))=true;have:=qxx (n:=(x &&& (255 ^^^ z118 ((2:Nat):Int))).toNat*64+(y &&& 63).toNat) (by omega) (by omega);rw [Int.natCast_add,Int.natCast_mul] at this;exact this
 ·have a:=fin8E (P:=fun x=>qe x=3→(x &&& (255 ^^^ z118 ((3:Nat):Int))).toNat < 16∧((x &&& (255 ^^^ z118 ((3:Nat):Int))).toNat=13→x=237)) qEN x e;rw [e] at h;obtain ⟨y,r1,rfl,b1,b2,b3⟩:=qbC x 1 true r (show runB x (3 - 1) true r=2 by omega);obtain ⟨z,r2,rfl,d1,d2,_⟩:=qbC x 0 false r1 b3;have c:=fin8E (P:=fun y=>(y &&& 63).toNat < 64∧(z131 y=true→(decide (y < 160)=true→(y &&& 63).toNat < 32)∧(decide (y < 144)=true→(y &&& 63).toNat < 16))) low6E y;have c':=fin8E (P:=fun y=>(y &&& 63).toNat < 64∧(z131 y=true→(decide (y < 160)=true→(y &&& 63).toNat < 32)∧(decide (y < 144)=true→(y &&& 63).toNat < 16))) low6E z;have hs:(x &&& (255 ^^^ z118 ((3:Nat):Int))).toNat=13→(y &&& 63).toNat < 32:=fun h13=>by
   obtain rfl:=a.2 h13;have:(decide (y < 160)&&z131 y)=true:=b2 rfl;rw [yf] at this;exact (c.2 b1).1 this.1
  rw [e];show z21 (((((x &&& (255 ^^^ z118 ((3:Nat):Int))).toNat:Nat):Int)*64+((y &&& 63).toNat:Int))*64+((z &&& 63).toNat:Int))=true;generalize (x &&& (255 ^^^ z118 ((3:Nat):Int))).toNat=p at a hs;generalize (y &&& 63).toNat=q at c hs;generalize (z &&& 63).toNat=o at c';have hns:¬ (55296≤(p*64+q)*64+o∧(p*64+q)*64+o≤57343):=fun ⟨k1,k2⟩=>by
   by_cases h13:p=13
   ·have:=hs h13; omega
   ·omega
  have:=qxx (n:=(p*64+q)*64+o) (by omega) hns;simpa using this
 ·have a:=fin8E (P:=fun x=>qe x=4→(x &&& (255 ^^^ z118 ((4:Nat):Int))).toNat≤4∧((x &&& (255 ^^^ z118 ((4:Nat):Int))).toNat=4→x=244)) qEO x e;rw [e] at h;obtain ⟨y,r1,rfl,b1,b2,b3⟩:=qbC x 2 true r (show runB x (4 - 1) true r=3 by omega);obtain ⟨z,r2,rfl,d1,d2,b4⟩:=qbC x 1 false r1 b3;obtain ⟨u,r3,rfl,g1,g2,_⟩:=qbC x 0 false r2 b4;have c:=fin8E (P:=fun y=>(y &&& 63).toNat < 64∧(z131 y=true→(decide (y < 160)=true→(y &&& 63).toNat < 32)∧(decide (y < 144)=true→(y &&& 63).toNat < 16))) low6E y;have c':=(fin8E (P:=fun y=>(y &&& 63).toNat < 64∧(z131 y=true→(decide (y < 160)=true→(y &&& 63).toNat < 32)∧(decide (y < 144)=true→(y &&& 63).toNat < 16))) low6E z).1;have c2:=(fin8E (P:=fun y=>(y &&& 63).toNat < 64∧(z131 y=true→(decide (y < 160)=true→(y &&& 63).toNat < 32)∧(decide (y < 144)=true→(y &&& 63).toNat < 16))) low6E u).1;have hs:(x &&& (255 ^^^ z118 ((4:Nat):Int))).toNat=4→(y &&& 63).toNat < 16:=fun h13=>by
   obtain rfl:=a.2 h13;have:(decide (y < 144)&&z131 y)=true:=b2 rfl;rw [yf] at this;exact (c.2 b1).2 this.1
  have h0:x=240→16≤(y &&& 63).toNat:=fun hx=>by
   subst hx;have:(decide (144≤y)&&z131 y)=true:=b2 rfl;rw [yf] at this;have k:=fin8E (P:=fun y=>decide (144≤y)=true→z131 y=true→16≤(y &&& 63).toNat) (by decide +kernel) y;exact k this.1 this.2
  have ha0:=fin8E (P:=fun x=>qe x=4→(x &&& (255 ^^^ z118 ((4:Nat):Int))).toNat=0→x=240) (by decide +kernel) x e;rw [e];show z21 ((((((x &&& (255 ^^^ z118 ((4:Nat):Int))).toNat:Nat):Int)*64+((y &&& 63).toNat:Int))*64+((z &&& 63).toNat:Int))*64+((u &&& 63).toNat:Int))=true;generalize (x &&& (255 ^^^ z118 ((4:Nat):Int))).toNat=p at a hs ha0;generalize (y &&& 63).toNat=q at c hs h0;generalize (z &&& 63).toNat=o at c';generalize (u &&& 63).toNat=v at c2;have hlo:p=0→16≤q:=fun hp=>h0 (ha0 hp);have hup:((p*64+q)*64+o)*64+v≤1114111:=by
   by_cases h4:p=4
   ·have:=hs h4; omega
   ·omega
  have hns:¬ (55296≤((p*64+q)*64+o)*64+v∧((p*64+q)*64+o)*64+v≤57343):=fun ⟨k1,k2⟩=>by
   by_cases hp:p=0
   ·have:=hlo hp; omega
   ·omega
  have:=qxx (n:=((p*64+q)*64+o)*64+v) hup hns;simpa using this
theorem qAV (x:UInt8) (r:List UInt8) (h:(z98 (x :: r)).2.2=0):z21 (z98 (x :: r)).1=true:=by
 have hle:farN (x :: r)≤qe x:=by
  show (bif qe x==0 then 0 else 1+runB x (qe x - 1) true r)≤qe x
  by_cases h0:qe x=0
  ·rw [h0]; exact yv _
  ·rw [beq_eq_false_iff_ne.2 h0];have:=qtG x (qe x - 1) true r;show 1+runB x (qe x - 1) true r≤qe x;omega
 have e:z98 (x :: r)=bif farN (x :: r)==0 then (0,1,3) else bif decide (farN (x :: r) < qe x)&&(farN (x :: r)==(x :: r).length) then (0,((farN (x :: r):Nat):Int),4)
  else bif decide (farN (x :: r) < qe x) then (0,((farN (x :: r):Nat):Int),3) else (signN (farN (x :: r)) (x :: r),((farN (x :: r):Nat):Int),0):=rfl
 rw [e] at h ⊢
 by_cases h1:farN (x :: r)=0
 ·rw [h1] at h; exact absurd (show (3:Int)=0 from h) (by decide)
 ·rw [beq_eq_false_iff_ne.2 h1] at h ⊢
  by_cases h2:farN (x :: r) < qe x
  ·rw [yo h2] at h;cases hb:(farN (x :: r)==(x :: r).length) with
   | true=>rw [hb] at h; exact absurd (show (4:Int)=0 from h) (by decide)
   | false=>rw [hb] at h; exact absurd (show (3:Int)=0 from h) (by decide)
  ·rw [yx h2];show z21 (signN (farN (x :: r)) (x :: r))=true;have he:farN (x :: r)=qe x:=by omega
   rw [he];exact qAU x r he (by omega)
theorem qmh:∀ (n:Nat) (s:List UInt8),(utfR n s).all z21=true
 | 0,_=>rfl
 | _+1,[]=>rfl
 | n+1,x :: r=>by
  show (((bif (z98 (x :: r)).2.2 != 0 then 65533 else (z98 (x :: r)).1) :: utfR n ((x :: r).drop (z98 (x :: r)).2.1.toNat)).all z21)=true;rw [List.all_cons,qmh n,yi]
  by_cases h:(z98 (x :: r)).2.2=0
  ·rw [show ((z98 (x :: r)).2.2 != 0)=false by simp [h]];exact qAV x r h
  ·rw [show ((z98 (x :: r)).2.2 != 0)=true by simp [h]];exact (show z21 65533=true by decide)
theorem qoD {g:UInt8→Int} (h:∀ i:Fin 256,z21 (g (UInt8.ofNat i.val))=true) (s:List UInt8):(s.map g).all z21=true:=by
 rw [List.all_map,List.all_eq_true];intro c _;exact fin8E (P:=fun c=>z21 (g c)=true) h c
theorem qAW (cs:Int) (s:List UInt8):(z50 cs s).all z21=true:=by
 unfold z50;cases cs==1 with
 | true=>exact qoD (g:=fun c=>z95 (c.toNat:Int)) (by decide +kernel) s
 | false =>
  cases cs==3 with
  | true=>exact qoD (g:=z105) (by decide +kernel) s
  | false =>
   cases cs==4 with
   | true=>exact qoD (g:=z106) (by decide +kernel) s
   | false =>
    cases cs==5 with
    | true=>exact qmh _ _
    | false=>exact qoD (g:=fun c=>(c.toNat:Int)) (by decide +kernel) s
set_option linter.unusedSimpArgs false
end Go.Av
