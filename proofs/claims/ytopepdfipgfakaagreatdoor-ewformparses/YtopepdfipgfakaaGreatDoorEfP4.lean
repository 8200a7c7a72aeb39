import Derived.Test.YtopepdfipgfakaaGreatDoorEfP3
namespace Go.Av
set_option linter.unusedVariables false
set_option linter.unusedSimpArgs false
theorem qiC (l:List UInt8) (i:Nat):z189 l (i:Int) 61=z189 (l.drop i) 0 61:=by
 unfold z189
 by_cases h:i+3≤l.length
 ·have e1:decide ((i:Int)≤(l.length:Int) - 3)=true:=dT (by omega)
  have e2:decide ((0:Int)≤((l.drop i).length:Int) - 3)=true:=dT (by rw [List.length_drop]; omega)
  rw [e1,e2,dT (show (0:Int)≤(i:Int) by omega),tn]
  simp only [Bool.and_true,cond_true]
  show qjN l i 61=qjN (l.drop i) 0 61
  unfold qjN
  rw [qcJ,qcJ,qcJ]
  rfl
 ·have e1:decide ((i:Int)≤(l.length:Int) - 3)=false:=dF (by omega)
  have e2:decide ((0:Int)≤((l.drop i).length:Int) - 3)=false:=dF (by rw [List.length_drop]; omega)
  rw [e1,e2]
  simp
theorem qpT:∀ (k:Nat) (l:List UInt8),qwS k l=qwS 0 (l.drop k)
 | 0,l=>rfl
 | k+1,[]=>rfl
 | k+1,x :: r=>by rw [show qwS (k+1) (x :: r)=qwS k r from rfl,qpT k r]; rfl
theorem qhw:∀ (s:List UInt8) (k:Nat),(qwS k s).2≤s.length
 | [],k=>by cases k <;> exact Nat.zero_le _
 | x :: r,k+1=>by
  have:=qhw r k
  show (qwS k r).2≤r.length+1; omega
 | x :: r,0=>by
  show (bif _ then _ else _:List UInt8×Nat).2≤r.length+1
  cases (z189 (x :: r) 0 61).2
  ·have:=qhw r 0
   show (qwS 0 r).2+(bif x==61 then 1 else 0)≤_
   cases x==61 <;> simp only [cond_true,cond_false] <;> omega
  ·have:=qhw r 2
   show (qwS 2 r).2≤_; omega
theorem qiD (m:Nat) (s:List UInt8) (hl:s.length≤1048576):∀ (n i:Nat) (out:List UInt8) (k:Nat),s.length - i < n→out.length+(qwS 0 (s.drop i)).1.length≤1048576→k+(qwS 0 (s.drop i)).2≤1048576 →
 qfP (qdt m) n s out (k:Int) (i:Int)=qfO (out++(qwS 0 (s.drop i)).1) ((k+(qwS 0 (s.drop i)).2:Nat):Int)
 | 0,i,out,k,hn,_,_=>by omega
 | n+1,i,out,k,hn,ho,hk=>by
  show qeU _ _ n _ _ _ _=_
  unfold qeU
  by_cases hlt:i < s.length
  ·have hst:qwS 0 (s.drop i)=bif (z189 s (i:Int) 61).2 then ((z189 s (i:Int) 61).1 :: (qwS 0 (s.drop (i+3))).1,(qwS 0 (s.drop (i+3))).2)
    else ((bif s.getD i 0==95 then 32 else s.getD i 0) :: (qwS 0 (s.drop (i+1))).1,(qwS 0 (s.drop (i+1))).2+(bif s.getD i 0==61 then 1 else 0)):=by
    rw [qiC,qce hlt]
    show (bif (z189 (s.getD i 0 :: s.drop (i+1)) 0 61).2 then _ else _)=_
    rw [qpT 2,List.drop_drop,show i+1+2=i+3 by omega]
   have hno:∀ x,s.getD i 0=x→(x==61)=false→(z189 s (i:Int) 61).2=false:=fun x hx h=>by
    rw [qiC,qce hlt,hx]
    exact qwZ h
   have hok:qla s (i:Int) 61=true:=qy hl
   simp (disch:=omega) only [dT,cond_true,Bool.and_true,tn]
   have hroom:∀ y:UInt8,out.length+1≤1048576→out.length+([y]:List UInt8).length≤room:=fun y hy=>by show out.length+1≤room; unfold room; omega
   cases h95:s.getD i 0==95 with
   | true =>
    have hx:=beq_iff_eq.1 h95
    have h61:(s.getD i 0==61)=false:=by rw [hx]; rfl
    rw [hno 95 hx (by decide),cond_false,h95,h61,cond_true,cond_false,Nat.add_zero] at hst
    rw [hst] at ho hk ⊢
    simp only [List.length_cons] at ho hk
    rw [cond_true,dT (hroom 32 (by omega)),cond_true,qw (by omega),qiD m s hl n (i+1) _ k (by omega) (by rw [List.length_append]; show out.length+1+_≤_; omega) hk,List.append_assoc]
    rfl
   | false =>
    cases h61:s.getD i 0==61 with
    | true =>
     rw [cond_false,cond_true,hok,cond_true]
     cases ht:(z189 s (i:Int) 61).2 with
     | true =>
      rw [ht,cond_true] at hst
      rw [hst] at ho hk ⊢
      simp only [List.length_cons] at ho hk
      rw [cond_true,dT (hroom _ (by omega)),cond_true,show IntKind.wrap .i64 ((i:Int)+3)=((i+3:Nat):Int) by rw [IntWalk.i64_in _ (by omega)]; omega,
       qiD m s hl n (i+3) _ k (by omega) (by rw [List.length_append]; show out.length+1+_≤_; omega) hk,List.append_assoc]
      rfl
     | false =>
      rw [ht,h95,h61,cond_false,cond_false,cond_true] at hst
      rw [hst] at ho hk ⊢
      simp only [List.length_cons] at ho hk
      rw [cond_false,dT (hroom _ (by omega)),cond_true,qw (by omega),qw (by omega),
       qiD m s hl n (i+1) _ (k+1) (by omega) (by rw [List.length_append]; show out.length+1+_≤_; omega) (by omega),List.append_assoc]
      rw [show k+1+(qwS 0 (s.drop (i+1))).2=k+((qwS 0 (s.drop (i+1))).2+1) by omega]
      rfl
    | false =>
     rw [hno _ rfl h61,h95,h61,cond_false,cond_false,cond_false,Nat.add_zero] at hst
     rw [hst] at ho hk ⊢
     simp only [List.length_cons] at ho hk
     rw [cond_false,cond_false,dT (hroom _ (by omega)),cond_true,qw (by omega),qiD m s hl n (i+1) _ k (by omega) (by rw [List.length_append]; show out.length+1+_≤_; omega) hk,List.append_assoc]
     rfl
  ·rw [dF (by omega),cond_false,List.drop_eq_nil_of_le (by omega)]
   show qfO out (k:Int)=qfO (out++[]) _
   rw [List.append_nil]; rfl
theorem qtv:∀ (s0:List UInt8),(qle s0=true)→∃ n,qra n s0=qfO (z144 s0).1 (z144 s0).2:=fun s h=>⟨s.length+1,by
 have hl:=qo h
 have h1:=qix s 0
 have h2:=qhw s 0
 have:=qiD (s.length+1) s hl (s.length+1) 0 [] 0 (by omega) (by rw [List.drop_zero]; show 0+_≤_; omega) (by rw [List.drop_zero]; omega)
 rw [List.drop_zero,List.nil_append,Nat.zero_add] at this
 exact this⟩
theorem qwP:∀ (s0:List UInt8),(qtl s0=true)→∃ n,qxu n s0=qvm (z99 s0):=fun s h=>⟨0,by
 unfold qxu
 rw [show qle s=true from h]; rfl⟩
theorem qtw:∃ n,qqI n  = qqH (z106 ):=⟨10,by kernel_rfl⟩
theorem qlg (k:List UInt8):∀ l:List (List UInt8×Int),@findM .str (.int .i64) k l=qti k l
 | []=>rfl
 | p :: l=>by
  show (bif k==p.1 then some p.2 else @findM .str (.int .i64) k l)=_
  rw [qlg k l]; rfl
theorem qcs (c:UInt8):∀ s:List UInt8,(bif decide ((0:Int)≤Lib.indexByte s c) then s.take (Lib.indexByte s c).toNat else s)=s.takeWhile fun x=>x != c
 | []=>rfl
 | x :: s=>by
  have ih:=qcs c s
  have hg:=Lib.indexByte_ge s c
  rw [qvt,List.takeWhile_cons]
  by_cases hx:x=c
  ·subst hx
   simp
  ·have h1:(x==c)=false:=beq_eq_false_iff_ne.2 hx
   have h2:(x != c)=true:=by rw [bne,h1]; rfl
   rw [h1,h2]
   simp only [Bool.false_eq_true,if_false,if_true]
   rw [← ih]
   by_cases h3:Lib.indexByte s c = -1
   ·rw [h3]; rfl
   ·have h4:(Lib.indexByte s c == -1)=false:=by simpa using h3
    rw [h4]
    simp only [Bool.false_eq_true,if_false]
    rw [dT (by omega),dT (by omega),cond_true,cond_true,show (Lib.indexByte s c+1).toNat=(Lib.indexByte s c).toNat+1 by omega,List.take_succ_cons]
theorem qtx:∀ (s0:List UInt8),(qlc s0=true)→∃ n,qqT n s0=qkd (z107 s0):=fun s h=>⟨0,by
 have hl:=qo h
 have ht:=qcs 42 s
 have hlt:=ib_lt s 42
 unfold qqT z107
 rw [← ht]
 by_cases hi:(0:Int)≤Lib.indexByte s 42
 ·rw [show decide ((0:Int)≤z109 s 42)=true from dT hi,dT hi,cond_true,cond_true]
  rw [show z109 s 42=Lib.indexByte s 42 from rfl,dT (show (0:Int)≤((0:Nat):Int) by omega),dT (show ((0:Nat):Int)≤Lib.indexByte s 42 by omega),dT (show Lib.indexByte s 42≤((s.length:Nat):Int) by omega)]
  have hk:qgA (List.drop (Int.toNat ((0:Nat):Int)) (List.take (Int.toNat (Lib.indexByte s 42)) s))=true:=qy (by rw [tn,List.drop_zero,List.length_take]; omega)
  rw [hk]
  rfl
 ·rw [show decide ((0:Int)≤z109 s 42)=false from dF hi,dF hi,cond_false,cond_false,show qgA s=true from h]
  rfl⟩
theorem qBj (s:List UInt8):(z107 s).length≤s.length:=by
 unfold z107 z148
 exact Nat.le_trans (qlA _ _) (qbR _ _)
theorem qwQ:∀ (s0:List UInt8),(qtj s0=true)→∃ n,qxr n s0=qqU (z58 s0).1 (z58 s0).2:=fun s h=>⟨0,by
 have hl:=qo h
 have hb:=qBj s
 unfold qxr z58
 rw [show qlc s=true from h,show qmQ (z107 s)=true from qy (by omega),qlg]
 cases qti (z79 (z107 s)) z106 <;> rfl⟩
theorem qwR:∀ (w0:(List UInt8)×(Int×((List UInt8)×Unit))),(qmA w0=true)→∃ n,qxs n w0=qqV (z53 w0):=fun w h=>⟨0,by
 unfold qxs z53 csOf
 rw [show qtj w.1=true from h]
 cases ((z58 w.1).2 != 0) <;> rfl⟩
theorem qwT:∀ (w0:(List UInt8)×(Int×((List UInt8)×Unit))),(qmB w0=true)→∃ n,qxv n w0=qrb (z54 w0):=fun w h=>⟨0,by
 unfold qxv z54 octOf
 rw [show qtk w.2.2.1=true from h,show qtl w.2.2.1=true from h]
 cases (w.2.1==1) <;> rfl⟩
end Go.Av
