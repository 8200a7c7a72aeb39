import Derived.Test.YtcfhfjjohmdaoaaDoorFwL
namespace Go.Av
set_option linter.unusedVariables false
set_option linter.unusedSimpArgs false
def blkN:List UInt8→Nat
 | []=>0
 | x :: r=>if x=32 then 1 else if blkN r=0 then 0 else blkN r+1
theorem qig:∀ s:List UInt8,Lib.indexByte s 32+1=(blkN s:Nat)
 | []=>rfl
 | x :: r=>by
  have ih:=qig r;unfold Lib.indexByte blkN
  by_cases h:x=32
  ·subst h; rfl
  ·rw [if_neg h];have hx:(x==32)=false:=beq_eq_false_iff_ne.2 h;simp only [hx,yq,if_false]
   by_cases h2:blkN r=0
   ·rw [if_pos h2];have:Lib.indexByte r 32 = -1:=by omega
    rw [this];rfl
   ·rw [if_neg h2];have:¬ Lib.indexByte r 32 = -1:=by omega
    simp only [beq_iff_eq,this,if_false];omega
theorem qnL:∀ s:List UInt8,blkN s≤s.length
 | []=>yv _
 | x :: r=>by
  have:=qnL r;unfold blkN;rw [yg];split
  ·omega
  ·split <;> omega
theorem qih (f:Nat→Bool):∀ (r:List UInt8) (m best:Nat),scanC f r m best=if blkN r=0∨blkN r=r.length then best else scanC f (r.drop (blkN r)) (m+blkN r) (bif (best==0)||f (m+blkN r) then m+blkN r else best)
 | [],m,best=>rfl
 | x :: r,m,best=>by
  have hstep:scanC f (x :: r) m best=bif (x==32)&&(!r.isEmpty&&((best==0)||f (m+1))) then scanC f r (m+1) (m+1) else scanC f r (m+1) best:=rfl
  rw [hstep]
  by_cases h:x=32
  ·subst h;have hb:blkN (32 :: r)=1:=rfl;rw [hb,yg];cases r with
   | nil=>rfl
   | cons y r =>
    rw [if_neg (by simp)];show (bif true&&(true&&((best==0)||f (m+1))) then scanC f (y :: r) (m+1) (m+1) else scanC f (y :: r) (m+1) best)=scanC f (y :: r) (m+1) _;cases ((best==0)||f (m+1)) <;> rfl
  ·have hx:(x==32)=false:=beq_eq_false_iff_ne.2 h;rw [hx];show scanC f r (m+1) best=_;have hb:blkN (x :: r)=if blkN r=0 then 0 else blkN r+1:=by
    show (if x=32 then 1 else if blkN r=0 then 0 else blkN r+1)=_;rw [if_neg h]
   rw [hb,qih f r (m+1) best,yg]
   by_cases h2:blkN r=0
   ·rw [if_pos (.inl h2),if_pos h2,if_pos (.inl rfl)]
   ·rw [if_neg h2]
    by_cases h3:blkN r=r.length
    ·rw [if_pos (.inr h3),if_pos (.inr (by omega))]
    ·rw [if_neg (by omega),if_neg (by omega),List.drop_succ_cons,show m+1+blkN r=m+(blkN r+1) by omega]
def cutL (f:Nat→Bool) (t:List UInt8):Nat→Nat→Nat→Nat
 | 0,at1,_=>at1
 | k+1,at1,n=>bif decide (0 < n)&&decide (n < t.length) then
  (bif blkN (t.drop n)==0 then (bif f n then n else at1) else cutL f t k (bif f n then n else at1) (n+blkN (t.drop n)))
  else at1
theorem qmb (f:Nat→Bool) (t:List UInt8):∀ (k n at1:Nat),0 < n→n < t.length→0 < at1→t.length < k+n→cutL f t k at1 n=scanC f (t.drop n) n (bif f n then n else at1)
 | 0,n,at1,h0,h1,h2,h3=>by omega
 | k+1,n,at1,h0,h1,h2,h3=>by
  have hb:=qnL (t.drop n);rw [yK] at hb;have hd:(decide (0 < n)&&decide (n < t.length))=true:=by rw [yo h0,yo h1]; rfl
  unfold cutL;rw [hd,qih];simp only [yc];generalize ha:(bif f n then n else at1)=a;have hapos:0 < a:=by rw [← ha]; cases f n <;> assumption
  by_cases h4:blkN (t.drop n)=0
  ·rw [h4]; rfl
  ·rw [beq_eq_false_iff_ne.2 h4];simp only [yd];have hz:(a==0)=false:=beq_eq_false_iff_ne.2 (by omega)
   by_cases h5:blkN (t.drop n)=(t.drop n).length
   ·rw [if_pos (.inr h5),h5,yK];cases k with
    | zero=>rfl
    | succ k =>
     unfold cutL;rw [show decide (n+(t.length - n) < t.length)=false from yx (by omega),y3];rfl
   ·rw [if_neg (by omega),List.drop_drop,hz,Bool.false_or];rw [yK] at h5;exact qmb f t k (n+blkN (t.drop n)) a (by omega) (by omega) hapos (by omega)
theorem qmc:∀ t:List UInt8,(blkN t=0→endSp t=false)∧(blkN t=t.length→t≠[]→endSp t=true)
 | []=>⟨fun _=>rfl,fun _ h=>absurd rfl h⟩
 | x :: r=>by
  obtain ⟨i1,i2⟩:=qmc r;have hle:=qnL r;have hb:blkN (x :: r)=if x=32 then 1 else if blkN r=0 then 0 else blkN r+1:=rfl
  rw [hb,yg];have he:r≠[]→endSp (x :: r)=endSp r:=fun hr=>by
   unfold endSp;cases r with
   | nil=>exact absurd rfl hr
   | cons y r=>rfl
  by_cases h:x=32
  ·rw [if_pos h];refine ⟨fun e=>absurd e (by decide),fun e _=>?_⟩;have:r=[]:=yF (by omega);subst this;subst h;rfl
  ·rw [if_neg h]
   by_cases h2:blkN r=0
   ·rw [if_pos h2];refine ⟨fun _=>?_,fun e _=>by omega⟩
    by_cases hr:r=[]
    ·subst hr;unfold endSp;show (some x==some 32)=false;rw [yB];intro e;exact h (yp e)
    ·rw [he hr]; exact i1 h2
   ·rw [if_neg h2];refine ⟨fun e=>by omega,fun e _=>?_⟩;have hr:r≠[]:=fun e=>by subst e; exact h2 rfl
    rw [he hr];exact i2 (by omega) hr
theorem qii (f:Nat→Bool):∀ (r:List UInt8) (n best:Nat),0 < best→0 < scanC f r n best
 | [],_,_,h=>h
 | x :: r,n,best,h=>by
  have hstep:scanC f (x :: r) n best=bif (x==32)&&(!r.isEmpty&&((best==0)||f (n+1))) then scanC f r (n+1) (n+1) else scanC f r (n+1) best:=rfl
  rw [hstep];cases ((x==32)&&(!r.isEmpty&&((best==0)||f (n+1)))) with
  | true=>exact qii f r _ _ (by omega)
  | false=>exact qii f r _ _ h
theorem quL {d:Int} {t:List UInt8} {w:Int} {k:Nat} (hk:t.length < k):((cutL (fitB d t w) t k (blkN t) (blkN t):Nat):Int)=z90 d t w:=by
 unfold z90 cutN;have hle:=qnL t;obtain ⟨e1,e2⟩:=qmc t;rw [qih]
 by_cases h0:blkN t=0
 ·rw [if_pos (.inl h0),e1 h0,h0];cases k with
  | zero=>omega
  | succ k=>rfl
 ·by_cases h1:blkN t=t.length
  ·rw [if_pos (.inr h1),e2 h1 (fun e=>by subst e; exact h0 rfl),h1];cases k with
   | zero=>omega
   | succ k =>
    unfold cutL;rw [show decide (t.length < t.length)=false from yx (by omega),y3];rfl
  ·rw [if_neg (by omega),qmb _ t k (blkN t) (blkN t) (by omega) (by omega) (by omega) (by omega),yE];have hp:0 < scanC (fitB d t w) (t.drop (blkN t)) (blkN t) (blkN t):=qii _ _ _ _ (by omega);rw [show (bif fitB d t w (blkN t) then blkN t else blkN t)=blkN t by cases fitB d t w (blkN t) <;> rfl,show ((0:Nat)==0)=true from rfl,Bool.true_or];simp only [yc];rw [beq_eq_false_iff_ne.2 (by omega)];rfl
end Go.Av
