import Derived.Test.YtopepdfipgfakaaGreatDoorEfP5
namespace Go.Av
set_option linter.unusedVariables false
set_option linter.unusedSimpArgs false
theorem qmr (m:Nat) (s:List UInt8) (hl:s.length≤262144):∀ (d i n:Nat) (out:List UInt8),i+d=s.length→d < n→out.length≤3*i →
 qkQ (qgc m) n out s (s.length:Nat) (i:Nat)=qjv (out++z50 (s.drop i))
 | d,i,0,out,hi,hn,_=>by omega
 | 0,i,n+1,out,hi,hn,ho=>by
  obtain rfl:i=s.length:=by omega
  show qef _ _ n _ _ _ _=_
  unfold qef
  rw [dF (by omega),cond_false,List.drop_length]
  show qjv out=qjv (out++[])
  rw [List.append_nil]
 | d+1,i,n+1,out,hi,hn,ho=>by
  show qef _ _ n _ _ _ _=_
  unfold qef
  have hlt:i < s.length:=by omega
  have e:z50 (s.drop i)=z91 (s.getD i 0)++z50 (s.drop (i+1)):=by rw [qad hlt]; rfl
  have hlen:(z91 (s.getD i 0)).length≤3:=by rw [qmV]; exact (qwT _).1
  have ih:=qmr m s hl d (i+1) n (out++z91 (s.getD i 0)) (by omega) (by omega) (by rw [List.length_append]; omega)
  rw [e,← List.append_assoc,← ih]
  simp (disch:=omega) only [dT,cond_true,Bool.and_true,tn]
  have hroom:∀ y:UInt8,out.length+([y]:List UInt8).length≤room:=fun y=>by show out.length+1≤room; unfold room; omega
  have hd:z91 (s.getD i 0)=bif s.getD i 0==32 then [95] else bif z82 (s.getD i 0) 128 then [s.getD i 0] else z137 [] 61 (s.getD i 0):=rfl
  have hq:z84 (s.getD i 0)=bif (s.getD i 0==32)||z129 (s.getD i 0) 128 then 1 else 3:=rfl
  rw [qv (by omega),hd,hq]
  cases h32:s.getD i 0==32 with
  | true=>rw [cond_true,dT (hroom 95)]; rfl
  | false =>
   rw [Bool.false_or]
   cases hw:z129 (s.getD i 0) 128 with
   | true=>rw [show z82 (s.getD i 0) 128=true from hw,cond_false,cond_true,show ((1:Int)==1)=true from rfl,cond_true,dT (hroom _)]; rfl
   | false =>
    rw [show z82 (s.getD i 0) 128=false from hw,cond_false,cond_false,show ((3:Int)==1)=false from rfl,cond_false]
    have hok:qvf out 61 (s.getD i 0)=true:=qt (by omega)
    rw [hok]
    rfl
theorem qxj:∀ s:List UInt8,qLen s≤3*s.length
 | []=>Nat.le_refl _
 | c :: r=>by
  have h1:=qxj r
  have h2:=(qwT c).1
  unfold qLen at h1 ⊢
  simp only [List.map_cons,List.sum_cons,List.length_cons]
  omega
theorem qzk:∀ (s0:List UInt8),(qvr s0=true)→∃ n,qwg n s0=qjv (z46 s0):=fun s h=>⟨s.length+1,by
 have hl:s.length≤262144:=of_decide_eq_true h
 have hq:=qxj s
 unfold qwg
 rw [show qnP s=true from by unfold qnP; exact decide_eq_true (by omega)]
 have h1:(0:Int)≤z83 s:=by show (0:Int)≤((qLen s:Nat):Int); omega
 have h2:z83 s≤(room:Int):=by show ((qLen s:Nat):Int)≤_; unfold room; omega
 rw [dT h1,dT h2]
 have:=qmr (s.length+1) s hl s.length 0 (s.length+1) [] (by omega) (by omega) (by simp)
 rw [List.drop_zero,List.nil_append] at this
 exact this⟩
theorem qvQ:∀ (c0:UInt8),∃ n,qsw n c0=qcV (z217 c0):=fun c=>⟨0,by
 unfold qsw z217 qf
 cases decide (c < 128) <;> cases decide (c < 194) <;> cases decide (244 < c) <;> cases decide (c < 224) <;> cases decide (c < 240) <;> rfl⟩
theorem qjq:∀ i:Fin 256,(((UInt8.ofNat i.val) &&& ~~~ (63:UInt8))==(128:UInt8))=z235 (UInt8.ofNat i.val):=by decide +kernel
theorem qvR:∀ (c0:UInt8),∃ n,qsy n c0=qsx (z235 c0):=fun c=>⟨0,by
 unfold qsy
 rw [qat (P:=fun c=>((c &&& ~~~ (63:UInt8))==(128:UInt8))=z235 c) qjq c]⟩
theorem qvS:∀ (first0:UInt8) (c1:UInt8),∃ n,qsz n first0 c1=qbh (z236 first0 c1):=fun f c=>⟨0,by
 unfold qsz z236
 cases (f==224) <;> cases (f==237) <;> cases (f==240) <;> cases (f==244) <;> cases decide (160≤c) <;> cases decide (c < 160) <;> cases decide (144≤c) <;> cases decide (c < 144) <;> rfl⟩
theorem qxk:∀ (f:UInt8) (n:Nat) (one:Bool) (s:List UInt8),runB f n one s≤n∧runB f n one s≤s.length
 | f,0,one,s=>by cases s <;> exact ⟨Nat.le_refl _,Nat.zero_le _⟩
 | f,n+1,one,[]=>⟨Nat.zero_le _,Nat.zero_le _⟩
 | f,n+1,one,x :: r=>by
  have ih:=qxk f n false r
  show (bif z235 x&&(!one||z236 f x) then runB f n false r+1 else 0)≤n+1∧(bif z235 x&&(!one||z236 f x) then runB f n false r+1 else 0)≤r.length+1
  cases z235 x&&(!one||z236 f x)
  ·exact ⟨Nat.zero_le _,Nat.zero_le _⟩
  ·simp only [cond_true]; omega
theorem qfe (c:UInt8):qf c≤4:=by
 unfold qf
 cases decide (c < 128) <;> cases decide (c < 194)||decide (244 < c) <;> cases decide (c < 224) <;> cases decide (c < 240) <;> decide
theorem qrF (m:Nat) (x:UInt8) (r:List UInt8) (hl:r.length≤1048576):∀ (d i n:Nat),qf x=i+d→1≤i→i≤r.length+1→d < n →
 qeA qan (qR m) n (x :: r) (i:Nat)=qan ((i+runB x d (i==1) (r.drop (i - 1)):Nat):Int)
 | d,i,0,_,_,_,hn=>by omega
 | 0,i,n+1,hs,hi,hr,hn=>by
  show qaR _ _ _ n _ _=_
  unfold qaR
  have e0:z217 (List.getD (x :: r) (Int.toNat 0) 0)=((qf x:Nat):Int):=rfl
  have h0:decide ((0:Int) < (((x :: r).length:Nat):Int))=true:=dT (by simp only [List.length_cons]; omega)
  rw [e0,h0,dF (show ¬ ((i:Nat):Int) < ((qf x:Nat):Int) by omega)]
  have hr0:runB x 0 (i==1) (r.drop (i - 1))=0:=by cases r.drop (i - 1) <;> rfl
  rw [hr0]
  show qR m (x :: r) ((i:Nat):Int)=_
  unfold qR
  rw [e0,h0]
  show qan (bif decide (((qf x:Nat):Int) < ((i:Nat):Int)) then _ else _)=_
  rw [dF (by omega)]; rfl
 | d+1,i,n+1,hs,hi,hr,hn=>by
  show qaR _ _ _ n _ _=_
  unfold qaR
  have e0:z217 (List.getD (x :: r) (Int.toNat 0) 0)=((qf x:Nat):Int):=rfl
  have h0:decide ((0:Int) < (((x :: r).length:Nat):Int))=true:=dT (by simp only [List.length_cons]; omega)
  rw [e0,h0,dT (show ((i:Nat):Int) < ((qf x:Nat):Int) by omega)]
  simp only [cond_true,Bool.and_true,show decide ((0:Int)≤0)=true from rfl]
  by_cases hlt:i < (x :: r).length
  ·have hlt':i - 1 < r.length:=by simp only [List.length_cons] at hlt; omega
   obtain ⟨y,hy⟩:∃ y,r.getD (i - 1) 0=y:=⟨_,rfl⟩
   have hg:(x :: r).getD i 0=y:=by
    obtain ⟨k,rfl⟩:∃ k,i=k+1:=⟨i - 1,by omega⟩
    exact hy
   have hdr:r.drop (i - 1)=y :: r.drop i:=by
    have:=qad hlt'
    rw [this,hy,show i - 1+1=i by omega]
   rw [dT (show ((i:Nat):Int) < (((x :: r).length:Nat):Int) by omega),dT (show (0:Int)≤((i:Nat):Int) by omega),tn,hg,hdr]
   simp only [cond_true,Bool.and_true]
   have hrun:runB x (d+1) (i==1) (y :: r.drop i)=bif z235 y&&(!(i==1)||z236 x y) then runB x d false (r.drop i)+1 else 0:=rfl
   have ih:=qrF m x r hl d (i+1) n (by omega) (by omega) (by simp only [List.length_cons] at hlt; omega) (by omega)
   rw [show i+1 - 1=i by omega,show (i+1==1)=false by simp; omega] at ih
   rw [hrun]
   cases hf:z235 y with
   | false=>simp only [Bool.not_false,cond_true,Bool.false_and,cond_false,Nat.add_zero]
   | true =>
    simp only [Bool.not_true,cond_false,Bool.true_and]
    have hfin:qeA qan (qR m) n (x :: r) (IntKind.wrap .i64 (((i:Nat):Int)+1))=qan ((i+(runB x d false (r.drop i)+1):Nat):Int):=by
     rw [qv (by omega),ih,show i+1+runB x d false (r.drop i)=i+(runB x d false (r.drop i)+1) by omega]
    by_cases h1:i=1
    ·subst h1
     rw [show (((1:Nat):Int)==1)=true from rfl,show ((1:Nat)==1)=true from rfl,cond_true,dT (show (1:Int) < (((x :: r).length:Nat):Int) by omega)]
     simp only [show decide ((0:Int)≤1)=true from rfl,Bool.and_true,cond_true]
     have e1:List.getD (x :: r) (Int.toNat 1) 0=y:=hg
     have e2:List.getD (x :: r) (Int.toNat 0) 0=x:=rfl
     rw [e1,e2]
     cases hs2:z236 x y with
     | false=>rfl
     | true =>
      simp only [Bool.not_true,cond_false,Bool.false_or,cond_true]
      exact hfin
    ·rw [show (((i:Nat):Int)==1)=false by simp; omega,show (i==1)=false by simpa using h1]
     simp only [cond_false,Bool.not_false,Bool.true_or,cond_true]
     exact hfin
  ·have hi2:i=r.length+1:=by simp only [List.length_cons] at hlt; omega
   rw [dF (show ¬ ((i:Nat):Int) < (((x :: r).length:Nat):Int) by omega),cond_false,List.drop_eq_nil_of_le (by omega)]
   show qR m (x :: r) ((i:Nat):Int)=qan ((i+0:Nat):Int)
   unfold qR
   rw [e0,h0]
   show qan (bif decide (((qf x:Nat):Int) < ((i:Nat):Int)) then _ else _)=_
   rw [dF (by omega)]; rfl
theorem qvT:∀ (s0:List UInt8),(qgK s0=true)→∃ n,qmD n s0=qan (z216 s0):=fun s h=>⟨6,by
 unfold qgK at h
 rw [Bool.and_eq_true] at h
 have hl:=qm h.1
 match s,h.2 with
 | x :: r,_ =>
  simp only [List.length_cons] at hl
  have h4:=qfe x
  have ef:z216 (x :: r)=((bif qf x==0 then 0 else 1+runB x (qf x - 1) true r:Nat):Int):=rfl
  unfold qmD
  rw [ef]
  by_cases h0:qf x=0
  ·rw [show (qf x==0)=true by simpa using h0,cond_true]
   have e0:z217 (List.getD (x :: r) (Int.toNat 0) 0)=((qf x:Nat):Int):=rfl
   have h0':decide ((0:Int) < (((x :: r).length:Nat):Int))=true:=dT (by simp only [List.length_cons]; omega)
   show qaR qan (qR 6) _ 5 (x :: r) 1=_
   unfold qaR
   rw [e0,h0',dF (show ¬ (1:Int) < ((qf x:Nat):Int) by omega)]
   show qR 6 (x :: r) 1=_
   unfold qR
   rw [e0,h0']
   show qan (bif decide (((qf x:Nat):Int) < (1:Int)) then ((qf x:Nat):Int) else _)=_
   rw [dT (by omega),h0]; rfl
  ·rw [show (qf x==0)=false by simpa using h0,cond_false]
   have:=qrF 6 x r (by omega) (qf x - 1) 1 6 (by omega) (Nat.le_refl 1) (by omega) (by omega)
   rw [show (1:Nat) - 1=0 from rfl,List.drop_zero] at this
   exact this⟩
end Go.Av
