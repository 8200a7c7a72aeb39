import Derived.Test.YtopepdfipgfakaaGreatDoorEfP3
namespace Go.Av
set_option linter.unusedVariables false
set_option linter.unusedSimpArgs false
theorem qjo (l:List UInt8) (i:Nat):z189 l (i:Int) 61=z189 (l.drop i) 0 61:=by
 unfold z189
 by_cases h:i+3≤l.length
 ·have e1:decide ((i:Int)≤(l.length:Int) - 3)=true:=dT (by omega)
  have e2:decide ((0:Int)≤((l.drop i).length:Int) - 3)=true:=dT (by rw [List.length_drop]; omega)
  rw [e1,e2,dT (show (0:Int)≤(i:Int) by omega),tn]
  simp only [Bool.and_true,cond_true]
  show qkH l i 61=qkH (l.drop i) 0 61
  unfold qkH
  rw [qcX,qcX,qcX]
  rfl
 ·have e1:decide ((i:Int)≤(l.length:Int) - 3)=false:=dF (by omega)
  have e2:decide ((0:Int)≤((l.drop i).length:Int) - 3)=false:=dF (by rw [List.length_drop]; omega)
  rw [e1,e2]
  simp
theorem qrD:∀ (k:Nat) (l:List UInt8),qwS k l=qwS 0 (l.drop k)
 | 0,l=>rfl
 | k+1,[]=>rfl
 | k+1,x :: r=>by rw [show qwS (k+1) (x :: r)=qwS k r from rfl,qrD k r]; rfl
theorem qid:∀ (s:List UInt8) (k:Nat),(qwS k s).2≤s.length
 | [],k=>by cases k <;> exact Nat.zero_le _
 | x :: r,k+1=>by
  have:=qid r k
  show (qwS k r).2≤r.length+1; omega
 | x :: r,0=>by
  show (bif _ then _ else _:List UInt8×Nat).2≤r.length+1
  cases (z189 (x :: r) 0 61).2
  ·have:=qid r 0
   show (qwS 0 r).2+(bif x==61 then 1 else 0)≤_
   cases x==61 <;> simp only [cond_true,cond_false] <;> omega
  ·have:=qid r 2
   show (qwS 2 r).2≤_; omega
theorem qjp (m:Nat) (s:List UInt8) (hl:s.length≤1048576):∀ (n i:Nat) (out:List UInt8) (k:Nat),s.length - i < n→out.length+(qwS 0 (s.drop i)).1.length≤1048576→k+(qwS 0 (s.drop i)).2≤1048576 →
 qgn (qdG m) n s out (k:Int) (i:Int)=qgm (out++(qwS 0 (s.drop i)).1) ((k+(qwS 0 (s.drop i)).2:Nat):Int)
 | 0,i,out,k,hn,_,_=>by omega
 | n+1,i,out,k,hn,ho,hk=>by
  show qfn _ _ n _ _ _ _=_
  unfold qfn
  by_cases hlt:i < s.length
  ·have hst:qwS 0 (s.drop i)=bif (z189 s (i:Int) 61).2 then ((z189 s (i:Int) 61).1 :: (qwS 0 (s.drop (i+3))).1,(qwS 0 (s.drop (i+3))).2)
    else ((bif s.getD i 0==95 then 32 else s.getD i 0) :: (qwS 0 (s.drop (i+1))).1,(qwS 0 (s.drop (i+1))).2+(bif s.getD i 0==61 then 1 else 0)):=by
    rw [qjo,qad hlt]
    show (bif (z189 (s.getD i 0 :: s.drop (i+1)) 0 61).2 then _ else _)=_
    rw [qrD 2,List.drop_drop,show i+1+2=i+3 by omega]
   have hno:∀ x,s.getD i 0=x→(x==61)=false→(z189 s (i:Int) 61).2=false:=fun x hx h=>by
    rw [qjo,qad hlt,hx]
    exact qkK h
   have hok:qme s (i:Int) 61=true:=qt hl
   simp (disch:=omega) only [dT,cond_true,Bool.and_true,tn]
   have hroom:∀ y:UInt8,out.length+1≤1048576→out.length+([y]:List UInt8).length≤room:=fun y hy=>by show out.length+1≤room; unfold room; omega
   cases h95:s.getD i 0==95 with
   | true =>
    have hx:=beq_iff_eq.1 h95
    have h61:(s.getD i 0==61)=false:=by rw [hx]; rfl
    rw [hno 95 hx (by decide),cond_false,h95,h61,cond_true,cond_false,Nat.add_zero] at hst
    rw [hst] at ho hk ⊢
    simp only [List.length_cons] at ho hk
    rw [cond_true,dT (hroom 32 (by omega)),cond_true,qv (by omega),qjp m s hl n (i+1) _ k (by omega) (by rw [List.length_append]; show out.length+1+_≤_; omega) hk,List.append_assoc]
    rfl
   | false =>
    cases h61:s.getD i 0==61 with
    | true =>
     rw [cond_false,cond_true,hok,cond_true]
     cases ht:(z189 s (i:Int) 61).2 with
     | true =>
      rw [ht,cond_true] at hst
      rw [hst] at ho hk ⊢
      simp only [List.length_cons] at ho hk
      rw [cond_true,dT (hroom _ (by omega)),cond_true,show IntKind.wrap .i64 ((i:Int)+3)=((i+3:Nat):Int) by rw [IntWalk.i64_in _ (by omega)]; omega,
       qjp m s hl n (i+3) _ k (by omega) (by rw [List.length_append]; show out.length+1+_≤_; omega) hk,List.append_assoc]
      rfl
     | false =>
      rw [ht,h95,h61,cond_false,cond_false,cond_true] at hst
      rw [hst] at ho hk ⊢
      simp only [List.length_cons] at ho hk
      rw [cond_false,dT (hroom _ (by omega)),cond_true,qv (by omega),qv (by omega),
       qjp m s hl n (i+1) _ (k+1) (by omega) (by rw [List.length_append]; show out.length+1+_≤_; omega) (by omega),List.append_assoc]
      rw [show k+1+(qwS 0 (s.drop (i+1))).2=k+((qwS 0 (s.drop (i+1))).2+1) by omega]
      rfl
    | false =>
     rw [hno _ rfl h61,h95,h61,cond_false,cond_false,cond_false,Nat.add_zero] at hst
     rw [hst] at ho hk ⊢
     simp only [List.length_cons] at ho hk
     rw [cond_false,cond_false,dT (hroom _ (by omega)),cond_true,qv (by omega),qjp m s hl n (i+1) _ k (by omega) (by rw [List.length_append]; show out.length+1+_≤_; omega) hk,List.append_assoc]
     rfl
  ·rw [dF (by omega),cond_false,List.drop_eq_nil_of_le (by omega)]
   show qgm out (k:Int)=qgm (out++[]) _
   rw [List.append_nil]; rfl
theorem qvI:∀ (s0:List UInt8),(qgL s0=true)→∃ n,qsU n s0=qgm (z144 s0).1 (z144 s0).2:=fun s h=>⟨s.length+1,by
 have hl:=qm h
 have h1:=qjh s 0
 have h2:=qid s 0
 have:=qjp (s.length+1) s hl (s.length+1) 0 [] 0 (by omega) (by rw [List.drop_zero]; show 0+_≤_; omega) (by rw [List.drop_zero]; omega)
 rw [List.drop_zero,List.nil_append,Nat.zero_add] at this
 exact this⟩
theorem qzd:∀ (s0:List UInt8),(qvp s0=true)→∃ n,qzL n s0=qxF (z99 s0):=fun s h=>⟨0,by
 unfold qzL
 rw [show qgL s=true from h]; rfl⟩
theorem qvJ:∀ (s0:List UInt8),(qmm s0=true)→∃ n,qta n s0=qsZ (z110 s0):=fun s h=>⟨0,by
 unfold qta
 rw [show qgL s=true from h]; rfl⟩
theorem qze:∀ (s0:List UInt8),(qvq s0=true)→∃ n,qzQ n s0=qjz (z60 s0):=fun s h=>⟨0,by
 unfold qzQ z60
 have hi:decide ((0:Int)≤z109 s 63)=s.contains 63:=by
  have:=qFI s 63
  by_cases h:(0:Int)≤Lib.indexByte s 63
  ·rw [dF (by omega)] at this
   show decide ((0:Int)≤Lib.indexByte s 63)=_
   rw [dT h]
   cases hc:s.contains 63 with
   | true=>rfl
   | false=>rw [hc] at this; cases this
  ·rw [dT (by omega)] at this
   show decide ((0:Int)≤Lib.indexByte s 63)=_
   rw [dF h]
   cases hc:s.contains 63 with
   | false=>rfl
   | true=>rw [hc] at this; cases this
 rw [show qoj s 4=true from h,hi,show qmm s=true from h,show z80 s 4=s.all (fun c=>z129 c 4) from rfl]
 have hs:decide ((0:Int) < z110 s)=decide (0 < (qwS 0 s).2):=by
  show decide ((0:Int) < ((qwS 0 s).2:Int))=_
  by_cases h:0 < (qwS 0 s).2
  ·rw [dT (by omega),decide_eq_true h]
  ·rw [dF (by omega),decide_eq_false h]
 rw [hs]
 cases (s.all fun c=>z129 c 4) <;> cases s.contains 63 <;> cases decide (0 < (qwS 0 s).2) <;> rfl⟩
theorem qvK:∃ n,qsC n  = qsB (z106 ):=⟨10,by kernel_rfl⟩
theorem qmp (k:List UInt8):∀ l:List (List UInt8×Int),@findM .str (.int .i64) k l=qvm k l
 | []=>rfl
 | p :: l=>by
  show (bif k==p.1 then some p.2 else @findM .str (.int .i64) k l)=_
  rw [qmp k l]; rfl
theorem qcE (c:UInt8):∀ s:List UInt8,(bif decide ((0:Int)≤Lib.indexByte s c) then s.take (Lib.indexByte s c).toNat else s)=s.takeWhile fun x=>x != c
 | []=>rfl
 | x :: s=>by
  have ih:=qcE c s
  have hg:=Lib.indexByte_ge s c
  rw [qtj,List.takeWhile_cons]
  by_cases hx:x=c
  ·subst hx
   simp
  ·have h1:(x==c)=false:=beq_eq_false_iff_ne.2 hx
   have h2:(x != c)=true:=by rw [bne,h1]; rfl
   rw [h1,h2]
   simp only [Bool.false_eq_true,if_false,if_true]
   rw [← ih]
   by_cases h3:Lib.indexByte s c = -1
   ·rw [h3]; rfl
   ·have h4:(Lib.indexByte s c == -1)=false:=by simpa using h3
    rw [h4]
    simp only [Bool.false_eq_true,if_false]
    rw [dT (by omega),dT (by omega),cond_true,cond_true,show (Lib.indexByte s c+1).toNat=(Lib.indexByte s c).toNat+1 by omega,List.take_succ_cons]
theorem qvL:∀ (s0:List UInt8),(qmi s0=true)→∃ n,qsN n s0=qla (z107 s0):=fun s h=>⟨0,by
 have hl:=qm h
 have ht:=qcE 42 s
 have hlt:=ib_lt s 42
 unfold qsN z107
 rw [← ht]
 by_cases hi:(0:Int)≤Lib.indexByte s 42
 ·rw [show decide ((0:Int)≤z109 s 42)=true from dT hi,dT hi,cond_true,cond_true]
  rw [show z109 s 42=Lib.indexByte s 42 from rfl,dT (show (0:Int)≤((0:Nat):Int) by omega),dT (show ((0:Nat):Int)≤Lib.indexByte s 42 by omega),dT (show Lib.indexByte s 42≤((s.length:Nat):Int) by omega)]
  have hk:qhd (List.drop (Int.toNat ((0:Nat):Int)) (List.take (Int.toNat (Lib.indexByte s 42)) s))=true:=qt (by rw [tn,List.drop_zero,List.length_take]; omega)
  rw [hk]
  rfl
 ·rw [show decide ((0:Int)≤z109 s 42)=false from dF hi,dF hi,cond_false,cond_false,show qhd s=true from h]
  rfl⟩
theorem qDJ (s:List UInt8):(z107 s).length≤s.length:=by
 unfold z107 z148
 exact Nat.le_trans (qmR _ _) (qbX _ _)
theorem qzf:∀ (s0:List UInt8),(qnS s0=true)→∃ n,qzI n s0=qsO (z58 s0).1 (z58 s0).2:=fun s h=>⟨0,by
 have hl:=qm h
 have hb:=qDJ s
 unfold qzI z58
 rw [show qmi s=true from h,show qoi (z107 s)=true from qt (by omega),qmp]
 cases qvm (z79 (z107 s)) z106 <;> rfl⟩
theorem qzg:∀ (w0:(List UInt8)×(Int×((List UInt8)×Unit))),(qji w0=true)→∃ n,qzJ n w0=qsP (z53 w0):=fun w h=>⟨0,by
 unfold qzJ z53 csOf
 rw [show qnS w.1=true from h]
 cases ((z58 w.1).2 != 0) <;> rfl⟩
theorem qzh:∀ (w0:(List UInt8)×(Int×((List UInt8)×Unit))),(qnT w0=true)→∃ n,qzM n w0=qsV (z54 w0):=fun w h=>⟨0,by
 unfold qzM z54 octOf
 rw [show qvo w.2.2.1=true from h,show qvp w.2.2.1=true from h]
 cases (w.2.1==1) <;> rfl⟩
end Go.Av
