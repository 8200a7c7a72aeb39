import Derived.Test.YtnfehbljinflbaaGreatDoorRRRRErM
import Derived.Test.YtnfehbljinflbaaGreatDoorRRRREfL
namespace Go.Av
set_option linter.unusedVariables false
set_option linter.unusedSimpArgs false
theorem low6E:∀ i:Fin 256,((UInt8.ofNat i.val) &&& 63).toNat < 64∧(z159 (UInt8.ofNat i.val)=true→(decide ((UInt8.ofNat i.val) < 160)=true→((UInt8.ofNat i.val) &&& 63).toNat < 32)∧(decide ((UInt8.ofNat i.val) < 144)=true→((UInt8.ofNat i.val) &&& 63).toNat < 16)):=by decide +kernel
theorem qId:∀ i:Fin 256,qd (UInt8.ofNat i.val)=1→((UInt8.ofNat i.val) &&& (255 ^^^ z133 ((1:Nat):Int))).toNat < 128:=by decide +kernel
theorem qIe:∀ i:Fin 256,qd (UInt8.ofNat i.val)=2→((UInt8.ofNat i.val) &&& (255 ^^^ z133 ((2:Nat):Int))).toNat < 32:=by decide +kernel
theorem qIf:∀ i:Fin 256,qd (UInt8.ofNat i.val)=3→((UInt8.ofNat i.val) &&& (255 ^^^ z133 ((3:Nat):Int))).toNat < 16∧(((UInt8.ofNat i.val) &&& (255 ^^^ z133 ((3:Nat):Int))).toNat=13→UInt8.ofNat i.val=237):=by decide +kernel
theorem qIg:∀ i:Fin 256,qd (UInt8.ofNat i.val)=4→((UInt8.ofNat i.val) &&& (255 ^^^ z133 ((4:Nat):Int))).toNat≤4∧(((UInt8.ofNat i.val) &&& (255 ^^^ z133 ((4:Nat):Int))).toNat=4→UInt8.ofNat i.val=244):=by decide +kernel
theorem qvA:∀ i:Fin 256,qd (UInt8.ofNat i.val)≤4:=by decide +kernel
theorem fin8E {P:UInt8→Prop} (h:∀ i:Fin 256,P (UInt8.ofNat i.val)) (c:UInt8):P c:=by
 have:=h ⟨c.toNat,c.toNat_lt⟩;simpa using this
theorem qzI {n:Nat} (h:n≤1114111) (h2:¬ (55296≤n∧n≤57343)):z34 (n:Int)=true:=by
 unfold z34 z56;rw [yo (show (0:Int)≤(n:Int) by omega),yo (show (n:Int)≤1114111 by omega)];have:(decide ((55296:Int)≤(n:Int))&&decide ((n:Int)≤57343))=false:=by
  rw [← Bool.not_eq_true,yf,ym,ym];omega
 rw [this];rfl
theorem qvB (f:UInt8):∀ (n:Nat) (o:Bool) (s:List UInt8),runB f n o s≤n
 | 0,_,_=>yv _
 | n+1,_,[]=>Nat.zero_le _
 | n+1,o,x :: r=>by
  show (bif z159 x&&(!o||z160 f x) then runB f n false r+1 else 0)≤n+1;have:=qvB f n false r;cases (z159 x&&(!o||z160 f x)) with
  | true=>show runB f n false r+1≤n+1; omega
  | false=>exact Nat.zero_le _
theorem qbV (f:UInt8) (n:Nat) (o:Bool) (s:List UInt8) (h:runB f (n+1) o s=n+1):∃ x r,s=x :: r∧z159 x=true∧(o=true→z160 f x=true)∧runB f n false r=n:=by
 cases s with
 | nil=>exact absurd (show (0:Nat)=n+1 from h) (by omega)
 | cons x r =>
  have h:(bif z159 x&&(!o||z160 f x) then runB f n false r+1 else 0)=n+1:=h;cases hc:(z159 x&&(!o||z160 f x)) with
  | false=>rw [hc] at h; exact absurd (show (0:Nat)=n+1 from h) (by omega)
  | true =>
   rw [hc] at h;have h:runB f n false r+1=n+1:=h;rw [yf] at hc;exact ⟨x,r,rfl,hc.1,fun ho=>by subst ho; simpa using hc.2,by omega⟩
theorem qDb (x:UInt8) (r:List UInt8) (h:farN (x :: r)=qd x) (h0:qd x≠0):z34 (signN (qd x) (x :: r))=true:=by
 have hle:=fin8E (P:=fun x=>qd x≤4) qvA x;have hf:farN (x :: r)=bif qd x==0 then 0 else 1+runB x (qd x - 1) true r:=rfl
 rw [hf,beq_eq_false_iff_ne.2 h0] at h;have h:1+runB x (qd x - 1) true r=qd x:=h;obtain e | e | e | e:qd x=1∨qd x=2∨qd x=3∨qd x=4:=by omega
 ·have a:=fin8E (P:=fun x=>qd x=1→(x &&& (255 ^^^ z133 ((1:Nat):Int))).toNat < 128) qId x e;rw [e];exact qzI (n:=(x &&& (255 ^^^ z133 ((1:Nat):Int))).toNat) (by omega) (by omega)
 ·have a:=fin8E (P:=fun x=>qd x=2→(x &&& (255 ^^^ z133 ((2:Nat):Int))).toNat < 32) qIe x e;rw [e] at h;obtain ⟨y,r1,rfl,b1,b2,_⟩:=qbV x 0 true r (show runB x (2 - 1) true r=1 by omega);have c:=fin8E (P:=fun y=>(y &&& 63).toNat < 64∧(z159 y=true→(decide (y < 160)=true→(y &&& 63).toNat < 32)∧(decide (y < 144)=true→(y &&& 63).toNat < 16))) low6E y;rw [e];show z34 ((((x &&& (255 ^^^ z133 ((2:Nat):Int))).toNat:Nat):Int)*64+((y &&& 63).toNat:Int))=true;have:=qzI (n:=(x &&& (255 ^^^ z133 ((2:Nat):Int))).toNat*64+(y &&& 63).toNat) (by omega) (by omega);rw [Int.natCast_add,Int.natCast_mul] at this;exact this
 ·have a:=fin8E (P:=fun x=>qd x=3→(x &&& (255 ^^^ z133 ((3:Nat):Int))).toNat < 16∧((x &&& (255 ^^^ z133 ((3:Nat):Int))).toNat=13→x=237)) qIf x e;rw [e] at h;obtain ⟨y,r1,rfl,b1,b2,b3⟩:=qbV x 1 true r (show runB x (3 - 1) true r=2 by omega);obtain ⟨z,r2,rfl,d1,d2,_⟩:=qbV x 0 false r1 b3;have c:=fin8E (P:=fun y=>(y &&& 63).toNat < 64∧(z159 y=true→(decide (y < 160)=true→(y &&& 63).toNat < 32)∧(decide (y < 144)=true→(y &&& 63).toNat < 16))) low6E y;have c':=fin8E (P:=fun y=>(y &&& 63).toNat < 64∧(z159 y=true→(decide (y < 160)=true→(y &&& 63).toNat < 32)∧(decide (y < 144)=true→(y &&& 63).toNat < 16))) low6E z;have hs:(x &&& (255 ^^^ z133 ((3:Nat):Int))).toNat=13→(y &&& 63).toNat < 32:=fun h13=>by
   obtain rfl:=a.2 h13;have:(decide (y < 160)&&z159 y)=true:=b2 rfl;rw [yf] at this;exact (c.2 b1).1 this.1
  rw [e];show z34 (((((x &&& (255 ^^^ z133 ((3:Nat):Int))).toNat:Nat):Int)*64+((y &&& 63).toNat:Int))*64+((z &&& 63).toNat:Int))=true;generalize (x &&& (255 ^^^ z133 ((3:Nat):Int))).toNat=p at a hs;generalize (y &&& 63).toNat=q at c hs;generalize (z &&& 63).toNat=o at c';have hns:¬ (55296≤(p*64+q)*64+o∧(p*64+q)*64+o≤57343):=fun ⟨k1,k2⟩=>by
   by_cases h13:p=13
   ·have:=hs h13; omega
   ·omega
  have:=qzI (n:=(p*64+q)*64+o) (by omega) hns;simpa using this
 ·have a:=fin8E (P:=fun x=>qd x=4→(x &&& (255 ^^^ z133 ((4:Nat):Int))).toNat≤4∧((x &&& (255 ^^^ z133 ((4:Nat):Int))).toNat=4→x=244)) qIg x e;rw [e] at h;obtain ⟨y,r1,rfl,b1,b2,b3⟩:=qbV x 2 true r (show runB x (4 - 1) true r=3 by omega);obtain ⟨z,r2,rfl,d1,d2,b4⟩:=qbV x 1 false r1 b3;obtain ⟨u,r3,rfl,g1,g2,_⟩:=qbV x 0 false r2 b4;have c:=fin8E (P:=fun y=>(y &&& 63).toNat < 64∧(z159 y=true→(decide (y < 160)=true→(y &&& 63).toNat < 32)∧(decide (y < 144)=true→(y &&& 63).toNat < 16))) low6E y;have c':=(fin8E (P:=fun y=>(y &&& 63).toNat < 64∧(z159 y=true→(decide (y < 160)=true→(y &&& 63).toNat < 32)∧(decide (y < 144)=true→(y &&& 63).toNat < 16))) low6E z).1;have c2:=(fin8E (P:=fun y=>(y &&& 63).toNat < 64∧(z159 y=true→(decide (y < 160)=true→(y &&& 63).toNat < 32)∧(decide (y < 144)=true→(y &&& 63).toNat < 16))) low6E u).1;have hs:(x &&& (255 ^^^ z133 ((4:Nat):Int))).toNat=4→(y &&& 63).toNat < 16:=fun h13=>by
   obtain rfl:=a.2 h13;have:(decide (y < 144)&&z159 y)=true:=b2 rfl;rw [yf] at this;exact (c.2 b1).2 this.1
  have h0:x=240→16≤(y &&& 63).toNat:=fun hx=>by
   subst hx;have:(decide (144≤y)&&z159 y)=true:=b2 rfl;rw [yf] at this;have k:=fin8E (P:=fun y=>decide (144≤y)=true→z159 y=true→16≤(y &&& 63).toNat) (by decide +kernel) y;exact k this.1 this.2
  have ha0:=fin8E (P:=fun x=>qd x=4→(x &&& (255 ^^^ z133 ((4:Nat):Int))).toNat=0→x=240) (by decide +kernel) x e;rw [e];show z34 ((((((x &&& (255 ^^^ z133 ((4:Nat):Int))).toNat:Nat):Int)*64+((y &&& 63).toNat:Int))*64+((z &&& 63).toNat:Int))*64+((u &&& 63).toNat:Int))=true;generalize (x &&& (255 ^^^ z133 ((4:Nat):Int))).toNat=p at a hs ha0;generalize (y &&& 63).toNat=q at c hs h0;generalize (z &&& 63).toNat=o at c';generalize (u &&& 63).toNat=v at c2;have hlo:p=0→16≤q:=fun hp=>h0 (ha0 hp);have hup:((p*64+q)*64+o)*64+v≤1114111:=by
   by_cases h4:p=4
   ·have:=hs h4; omega
   ·omega
  have hns:¬ (55296≤((p*64+q)*64+o)*64+v∧((p*64+q)*64+o)*64+v≤57343):=fun ⟨k1,k2⟩=>by
   by_cases hp:p=0
   ·have:=hlo hp; omega
   ·omega
  have:=qzI (n:=((p*64+q)*64+o)*64+v) hup hns;simpa using this
theorem qDc (x:UInt8) (r:List UInt8) (h:(z102 (x :: r)).2.2=0):z34 (z102 (x :: r)).1=true:=by
 have hle:farN (x :: r)≤qd x:=by
  show (bif qd x==0 then 0 else 1+runB x (qd x - 1) true r)≤qd x
  by_cases h0:qd x=0
  ·rw [h0]; exact yv _
  ·rw [beq_eq_false_iff_ne.2 h0];have:=qvB x (qd x - 1) true r;show 1+runB x (qd x - 1) true r≤qd x;omega
 have e:z102 (x :: r)=bif farN (x :: r)==0 then (0,1,3) else bif decide (farN (x :: r) < qd x)&&(farN (x :: r)==(x :: r).length) then (0,((farN (x :: r):Nat):Int),4)
  else bif decide (farN (x :: r) < qd x) then (0,((farN (x :: r):Nat):Int),3) else (signN (farN (x :: r)) (x :: r),((farN (x :: r):Nat):Int),0):=rfl
 rw [e] at h ⊢
 by_cases h1:farN (x :: r)=0
 ·rw [h1] at h; exact absurd (show (3:Int)=0 from h) (by decide)
 ·rw [beq_eq_false_iff_ne.2 h1] at h ⊢
  by_cases h2:farN (x :: r) < qd x
  ·rw [yo h2] at h;cases hb:(farN (x :: r)==(x :: r).length) with
   | true=>rw [hb] at h; exact absurd (show (4:Int)=0 from h) (by decide)
   | false=>rw [hb] at h; exact absurd (show (3:Int)=0 from h) (by decide)
  ·rw [yx h2];show z34 (signN (farN (x :: r)) (x :: r))=true;have he:farN (x :: r)=qd x:=by omega
   rw [he];exact qDb x r he (by omega)
theorem qok:∀ (n:Nat) (s:List UInt8),(utfR n s).all z34=true
 | 0,_=>rfl
 | _+1,[]=>rfl
 | n+1,x :: r=>by
  show (((bif (z102 (x :: r)).2.2 != 0 then 65533 else (z102 (x :: r)).1) :: utfR n ((x :: r).drop (z102 (x :: r)).2.1.toNat)).all z34)=true;rw [List.all_cons,qok n,yi]
  by_cases h:(z102 (x :: r)).2.2=0
  ·rw [show ((z102 (x :: r)).2.2 != 0)=false by simp [h]];exact qDc x r h
  ·rw [show ((z102 (x :: r)).2.2 != 0)=true by simp [h]];exact (show z34 65533=true by decide)
theorem qqf {g:UInt8→Int} (h:∀ i:Fin 256,z34 (g (UInt8.ofNat i.val))=true) (s:List UInt8):(s.map g).all z34=true:=by
 rw [List.all_map,List.all_eq_true];intro c _;exact fin8E (P:=fun c=>z34 (g c)=true) h c
theorem qDd (cs:Int) (s:List UInt8):(z63 cs s).all z34=true:=by
 unfold z63;cases cs==1 with
 | true=>exact qqf (g:=fun c=>z134 (c.toNat:Int)) (by decide +kernel) s
 | false =>
  cases cs==3 with
  | true=>exact qqf (g:=z74) (by decide +kernel) s
  | false =>
   cases cs==4 with
   | true=>exact qqf (g:=z75) (by decide +kernel) s
   | false =>
    cases cs==5 with
    | true=>exact qok _ _
    | false=>exact qqf (g:=fun c=>(c.toNat:Int)) (by decide +kernel) s
theorem qzJ (p:qF):(qaU p).all z34=true:=by
 unfold qaU;cases p.1==3 with
 | false=>exact qok _ _
 | true =>
  show ((z39 p.2.1).1).all z34=true;unfold z39;cases (z51 p.2.1).2 != 0 with
  | true=>rfl
  | false=>exact qDd _ _
theorem qhz (p:qF):(qaU p).length≤p.2.1.length:=by
 unfold qaU;cases p.1==3 with
 | false=>exact qnt _ _
 | true=>exact qtW _
theorem qhA:∀ (n:Nat) (s:List UInt8),s.length≤n→joinP (qcj n s)=s
 | 0,s,h=>by
  obtain rfl:s=[]:=yF (by omega);rfl
 | n+1,[],_=>rfl
 | n+1,c :: r,h=>by
  show joinP ((kindB ((c :: r).take (alike (c :: r))),((c :: r).take (alike (c :: r)),())) :: qcj n ((c :: r).drop (alike (c :: r))))=c :: r;have hl:alike (c :: r)=(r.takeWhile fun x=>gapB x==gapB c).length+1:=rfl;have ih:=qhA n ((c :: r).drop (alike (c :: r))) (by rw [yK,hl]; simp only [yg] at h ⊢; omega);have e:joinP ((kindB ((c :: r).take (alike (c :: r))),((c :: r).take (alike (c :: r)),())) :: qcj n ((c :: r).drop (alike (c :: r))))=(c :: r).take (alike (c :: r))++joinP (qcj n ((c :: r).drop (alike (c :: r)))):=rfl;rw [e,ih,yX]
theorem qvC (l:List qF):∀ (d i:Nat),i+d=l.length→((showF l d i).map fun p=>p.2.1.length).sum≤((l.drop i).map fun p=>p.2.1.length).sum
 | 0,i,h=>Nat.zero_le _
 | d+1,i,h=>by
  have hlt:i < l.length:=by omega
  have ih:=qvC l d (i+1) (by omega);rw [List.drop_eq_getElem_cons hlt,yI,List.sum_cons];show ((bif qbI l i then showF l d (i+1) else l.getD i (0,([],())) :: showF l d (i+1)).map fun p=>p.2.1.length).sum≤_;cases qbI l i with
  | true=>show ((showF l d (i+1)).map fun p=>p.2.1.length).sum≤_; omega
  | false =>
   have e:l.getD i (0,([],()))=l[i]:=by rw [yY,yO hlt]; rfl
   rw [e];show ((l[i] :: showF l d (i+1)).map fun p=>p.2.1.length).sum≤_;rw [yI,List.sum_cons];omega
theorem qzK (l:List qF):(l.map fun p=>p.2.1.length).sum=(joinP l).length:=by
 unfold joinP;rw [List.length_flatMap]
theorem qkN (s:List UInt8):((z37 s).map fun p=>p.2.1.length).sum≤s.length:=by
 have h:=qvC (qeR s) (qeR s).length 0 (yE _);rw [yw,qzK (qeR s),show joinP (qeR s)=s from qhA _ s (yv _)] at h;exact h
theorem qDe (l:List qF):(l.flatMap qaU).length≤(l.map fun p=>p.2.1.length).sum:=by
 induction l with
 | nil=>exact yv _
 | cons p l ih =>
  rw [List.flatMap_cons,yn,yI,List.sum_cons];have:=qhz p;omega
theorem qIh (s:List UInt8):(z11 s).length≤s.length:=yL (qDe _) (qkN s)
theorem qKn (s:List UInt8):(z11 s).all z34=true:=by
 unfold z11;rw [List.all_flatMap,List.all_eq_true];exact fun p _=>qzJ p
theorem qex:∀ (s:List UInt8) (k:Nat),(unfS k s).length≤s.length
 | [],k=>by cases k <;> exact yv _
 | x :: r,0=>by
  show (bif qix (x :: r) then unfS 1 r else x :: unfS 0 r).length≤_;have h1:=qex r 1;have h0:=qex r 0;cases qix (x :: r) with
  | true=>show (unfS 1 r).length≤_; rw [yg]; omega
  | false=>show (x :: unfS 0 r).length≤_; rw [yg,yg]; omega
 | x :: r,k+1=>by
  show (unfS k r).length≤_;have:=qex r k;rw [yg];omega
theorem qDf (s:List UInt8):(z9 s).length≤s.length:=yL (qIh _) (qex s 0)
theorem qmq (p:Int→Bool):∀ (t:List Int) (i:Int),t.all p=true→qdU p t i = -1
 | [],_,_=>rfl
 | x :: r,i,h=>by
  rw [List.all_cons,yf] at h;show (bif p x then qdU p r (i+1) else i) = -1;rw [h.1];exact qmq p r (i+1) h.2
theorem qKo (l:List (List UInt8)):oddOf l≤((l.map z31).length:Nat):=by
 unfold oddOf;rw [yP];have:=List.countP_le_length (p:=fun w => !(z33 w)) (l:=l);omega
theorem qvD (s:List UInt8):(z15 s).flatten=z9 s:=by
 unfold z15 z9 z11;rw [List.flatMap_def]
end Go.Av
