import Derived.Test.YtopepdfipgfakaaGreatDoorEfP3
namespace Go.Av
theorem qDO:∀ i:Fin 256,z129 (UInt8.ofNat i.val) 2=blank (UInt8.ofNat i.val):=by decide +kernel
theorem qJo (c:UInt8):z129 c 2=blank c:=qEW (P:=fun c=>z129 c 2=blank c) qDO c
theorem qJp (k2:LU→Int→Int→OA) (s:LU) (hl:s.length≤1048576) (a:Nat):∀ (d b n:Nat),a+d=b→b≤s.length→d < n →
 qez k2 n s (a:Nat) (b:Nat)=k2 s (a:Nat) ((a+(dropR blank ((s.take b).drop a)).length:Nat):Int)
 | d,b,0,hb,hbl,hn=>by omega
 | 0,b,n+1,hb,hbl,hn=>by
  show qcT k2 (qez k2 n) n _ _ _=_
  unfold qcT
  have hz:(s.take b).drop a=[]:=List.drop_eq_nil_of_le (by simp; omega)
  rw [dF (by omega),cond_false,hz]
  congr 1
  simp [dropR]
  omega
 | d+1,b,n+1,hb,hbl,hn=>by
  show qcT k2 (qez k2 n) n _ _ _=_
  unfold qcT
  have hlt:a < b:=by omega
  have ih:=qJp k2 s hl a d (b - 1) n (by omega) (by omega) (by omega)
  have hsn:(s.take b).drop a=(s.take (b - 1)).drop a++[s.getD (b - 1) 0]:=by
   have h1:s.take b=s.take (b - 1)++[s.getD (b - 1) 0]:=by
    conv=>lhs; rw [show b=b - 1+1 by omega]
    rw [List.take_add_one]
    simp [List.getD,show b - 1 < s.length by omega]
   rw [h1,List.drop_append_of_le_length (by simp; omega)]
  have hc:((b:Nat):Int) - 1=((b - 1:Nat):Int):=by omega
  simp (disch:=omega) only [dT,cond_true,Bool.and_true,wr,hc,tn,hsn,qlN]
  rw [show z82 (s.getD (b - 1) 0) 2=blank (s.getD (b - 1) 0) from qJo _]
  cases blank (s.getD (b - 1) 0) with
  | true=>exact ih
  | false =>
   rw [cond_false,cond_false]
   congr 1
   simp
   omega
theorem qJq (k0:LU→Int→Int→OA) (s:LU) (hl:s.length≤1048576):∀ (d a n:Nat),a+d=s.length→d < n →
 qey k0 n s (a:Nat) (s.length:Nat)=k0 s ((s.length - ((s.drop a).dropWhile blank).length:Nat):Int) (s.length:Nat)
 | d,a,0,hb,hn=>by omega
 | 0,a,n+1,hb,hn=>by
  show qcS k0 (qey k0 n) n _ _ _=_
  unfold qcS
  rw [dF (by omega),cond_false,List.drop_eq_nil_of_le (by omega)]
  congr 1
  simp
  omega
 | d+1,a,n+1,hb,hn=>by
  show qcS k0 (qey k0 n) n _ _ _=_
  unfold qcS
  have hlt:a < s.length:=by omega
  have ih:=qJq k0 s hl d (a+1) n (by omega) (by omega)
  rw [qT (d:=(0:UInt8)) hlt,List.dropWhile_cons]
  simp (disch:=omega) only [dT,cond_true,Bool.and_true,qj,tn]
  rw [show z82 (s.getD a 0) 2=blank (s.getD a 0) from qJo _]
  cases hbk:blank (s.getD a 0) with
  | true=>rw [cond_true,ih]; rfl
  | false =>
   rw [cond_false]
   congr 1
   simp
   omega
theorem qX (p:UInt8→Bool):∀ s:LU,s.drop (s.length - (s.dropWhile p).length)=s.dropWhile p
 | []=>rfl
 | c :: s=>by
  rw [List.dropWhile_cons]
  cases p c with
  | true =>
   have:=qav p s
   simp only [if_true,List.length_cons]
   rw [show s.length+1 - (s.dropWhile p).length=s.length - (s.dropWhile p).length+1 by omega,List.drop_succ_cons]
   exact qX p s
  | false=>simp
theorem qzQ (p:UInt8→Bool) (s:LU):s.take (dropR p s).length=dropR p s:=by
 have h:=qX p s.reverse
 unfold dropR
 have hle:=qav p s.reverse
 rw [List.length_reverse] at hle
 conv=>rhs; rw [← h]
 rw [List.length_reverse,List.length_reverse,List.reverse_drop,List.reverse_reverse,List.length_reverse]
 congr 1
 omega
theorem qzR:∀ (s0:LU),(qpO s0=true)→∃ n,qpu n s0=qwx (z147 s0):=fun s h=>⟨s.length+1,by
 have hl:=qh h
 unfold qpu
 refine (qJq (qcb (s.length+1)) s hl s.length 0 (s.length+1) (by omega) (by omega)).trans ?_
 rw [List.drop_zero]
 have hle:=qav blank s
 unfold qcb
 refine (qJp (qcU (s.length+1)) s hl (s.length - (s.dropWhile blank).length) (s.dropWhile blank).length s.length (s.length+1) (by omega) (by omega) (by omega)).trans ?_
 rw [List.take_length,qX,qkm]
 have hle2:=qnD blank (s.dropWhile blank)
 rw [qkm] at hle2
 unfold qcU
 simp (disch:=omega) only [dT,cond_true,Bool.and_true,tn]
 have e:List.drop (s.length - (s.dropWhile blank).length) (List.take (s.length - (s.dropWhile blank).length+(qhW blank s).length) s)=qhW blank s:=by
  rw [List.drop_take,show s.length - (s.dropWhile blank).length+(qhW blank s).length - (s.length - (s.dropWhile blank).length)=(qhW blank s).length by omega,qX]
  rw [← qkm]
  exact qzQ blank _
 rw [e]
 rfl⟩
theorem qhj (l:LU) (i:Nat):z189 l (i:Int) 61=z189 (l.drop i) 0 61:=by
 unfold z189
 by_cases h:i+3≤l.length
 ·have e1:decide ((i:Int)≤(l.length:Int) - 3)=true:=dT (by omega)
  have e2:decide ((0:Int)≤((l.drop i).length:Int) - 3)=true:=dT (by rw [List.length_drop]; omega)
  rw [e1,e2,dT (show (0:Int)≤(i:Int) by omega),tn]
  simp only [Bool.and_true,cond_true]
  show qll l i 61=qll (l.drop i) 0 61
  unfold qll
  rw [qdO,qdO,qdO]
  rfl
 ·have e1:decide ((i:Int)≤(l.length:Int) - 3)=false:=dF (by omega)
  have e2:decide ((0:Int)≤((l.drop i).length:Int) - 3)=false:=dF (by rw [List.length_drop]; omega)
  rw [e1,e2]
  simp
theorem qnf:∀ (k:Nat) (l:LU),qwS k l=qwS 0 (l.drop k)
 | 0,l=>rfl
 | k+1,[]=>rfl
 | k+1,x :: r=>by rw [show qwS (k+1) (x :: r)=qwS k r from rfl,qnf k r]; rfl
theorem qhk:∀ (s:LU) (k:Nat),(qwS k s).2≤s.length
 | [],k=>by cases k <;> exact Nat.zero_le _
 | x :: r,k+1=>by
  have:=qhk r k
  show (qwS k r).2≤r.length+1; omega
 | x :: r,0=>by
  show (bif _ then _ else _:LU×Nat).2≤r.length+1
  cases (z189 (x :: r) 0 61).2
  ·have:=qhk r 0
   show (qwS 0 r).2+(bif x==61 then 1 else 0)≤_
   cases x==61 <;> simp only [cond_true,cond_false] <;> omega
  ·have:=qhk r 2
   show (qwS 2 r).2≤_; omega
theorem qlv (m:Nat) (s:LU) (hl:s.length≤1048576):∀ (n i:Nat) (out:LU) (k:Nat),s.length - i < n→out.length+(qwS 0 (s.drop i)).1.length≤1048576→k+(qwS 0 (s.drop i)).2≤1048576 →
 qhB (qev m) n s out (k:Int) (i:Int)=qhA (out++(qwS 0 (s.drop i)).1) ((k+(qwS 0 (s.drop i)).2:Nat):Int)
 | 0,i,out,k,hn,_,_=>by omega
 | n+1,i,out,k,hn,ho,hk=>by
  show qgw _ _ n _ _ _ _=_
  unfold qgw
  by_cases hlt:i < s.length
  ·have hst:qwS 0 (s.drop i)=bif (z189 s (i:Int) 61).2 then ((z189 s (i:Int) 61).1 :: (qwS 0 (s.drop (i+3))).1,(qwS 0 (s.drop (i+3))).2)
    else ((bif s.getD i 0==95 then 32 else s.getD i 0) :: (qwS 0 (s.drop (i+1))).1,(qwS 0 (s.drop (i+1))).2+(bif s.getD i 0==61 then 1 else 0)):=by
    rw [qhj,qG hlt]
    show (bif (z189 (s.getD i 0 :: s.drop (i+1)) 0 61).2 then _ else _)=_
    rw [qnf 2,List.drop_drop,show i+1+2=i+3 by omega]
   have hno:∀ x,s.getD i 0=x→(x==61)=false→(z189 s (i:Int) 61).2=false:=fun x hx h=>by
    rw [qhj,qG hlt,hx]
    exact qEb h
   have hok:qoF s (i:Int) 61=true:=ql hl
   simp (disch:=omega) only [dT,cond_true,Bool.and_true,tn]
   have hroom:∀ y:UInt8,out.length+1≤1048576→out.length+([y]:LU).length≤room:=fun y hy=>by show out.length+1≤room; unfold room; omega
   cases h95:s.getD i 0==95 with
   | true =>
    have hx:=beq_iff_eq.1 h95
    have h61:(s.getD i 0==61)=false:=by rw [hx]; rfl
    rw [hno 95 hx (by decide),cond_false,h95,h61,cond_true,cond_false,Nat.add_zero] at hst
    rw [hst] at ho hk ⊢
    simp only [List.length_cons] at ho hk
    rw [cond_true,dT (hroom 32 (by omega)),cond_true,qj (by omega),qlv m s hl n (i+1) _ k (by omega) (by rw [List.length_append]; show out.length+1+_≤_; omega) hk,List.append_assoc]
    rfl
   | false =>
    cases h61:s.getD i 0==61 with
    | true =>
     rw [cond_false,cond_true,hok,cond_true]
     cases ht:(z189 s (i:Int) 61).2 with
     | true =>
      rw [ht,cond_true] at hst
      rw [hst] at ho hk ⊢
      simp only [List.length_cons] at ho hk
      rw [cond_true,dT (hroom _ (by omega)),cond_true,show IntKind.wrap .i64 ((i:Int)+3)=((i+3:Nat):Int) by rw [IntWalk.i64_in _ (by omega)]; omega,
       qlv m s hl n (i+3) _ k (by omega) (by rw [List.length_append]; show out.length+1+_≤_; omega) hk,List.append_assoc]
      rfl
     | false =>
      rw [ht,h95,h61,cond_false,cond_false,cond_true] at hst
      rw [hst] at ho hk ⊢
      simp only [List.length_cons] at ho hk
      rw [cond_false,dT (hroom _ (by omega)),cond_true,qj (by omega),qj (by omega),
       qlv m s hl n (i+1) _ (k+1) (by omega) (by rw [List.length_append]; show out.length+1+_≤_; omega) (by omega),List.append_assoc]
      rw [show k+1+(qwS 0 (s.drop (i+1))).2=k+((qwS 0 (s.drop (i+1))).2+1) by omega]
      rfl
    | false =>
     rw [hno _ rfl h61,h95,h61,cond_false,cond_false,cond_false,Nat.add_zero] at hst
     rw [hst] at ho hk ⊢
     simp only [List.length_cons] at ho hk
     rw [cond_false,cond_false,dT (hroom _ (by omega)),cond_true,qj (by omega),qlv m s hl n (i+1) _ k (by omega) (by rw [List.length_append]; show out.length+1+_≤_; omega) hk,List.append_assoc]
     rfl
  ·rw [dF (by omega),cond_false,List.drop_eq_nil_of_le (by omega)]
   show qhA out (k:Int)=qhA (out++[]) _
   rw [List.append_nil]; rfl
theorem qzS:∀ (s0:LU),(qir s0=true)→∃ n,qwu n s0=qhA (z144 s0).1 (z144 s0).2:=fun s h=>⟨s.length+1,by
 have hl:=qh h
 have h1:=qhe s 0
 have h2:=qhk s 0
 have:=qlv (s.length+1) s hl (s.length+1) 0 [] 0 (by omega) (by rw [List.drop_zero]; show 0+_≤_; omega) (by rw [List.drop_zero]; omega)
 rw [List.drop_zero,List.nil_append,Nat.zero_add] at this
 exact this⟩
theorem qDP:∀ (s0:LU),(qzn s0=true)→∃ n,qEw n s0=qBZ (z99 s0):=fun s h=>⟨0,by
 unfold qEw
 rw [show qir s=true from h]; rfl⟩
theorem qzT:∀ (s0:LU),(qoQ s0=true)→∃ n,qwN n s0=qwM (z110 s0):=fun s h=>⟨0,by
 unfold qwN
 rw [show qir s=true from h]; rfl⟩
theorem qDQ:∀ (s0:LU),(qzo s0=true)→∃ n,qEM n s0=qlJ (z60 s0):=fun s h=>⟨0,by
 unfold qEM z60
 have hi:decide ((0:Int)≤z109 s 63)=s.contains 63:=by
  have:=qLO s 63
  by_cases h:(0:Int)≤Lib.indexByte s 63
  ·rw [dF (by omega)] at this
   show decide ((0:Int)≤Lib.indexByte s 63)=_
   rw [dT h]
   cases hc:s.contains 63 with
   | true=>rfl
   | false=>rw [hc] at this; cases this
  ·rw [dT (by omega)] at this
   show decide ((0:Int)≤Lib.indexByte s 63)=_
   rw [dF h]
   cases hc:s.contains 63 with
   | false=>rfl
   | true=>rw [hc] at this; cases this
 rw [show qri s 4=true from h,hi,show qoQ s=true from h,show z80 s 4=s.all (fun c=>z129 c 4) from rfl]
 have hs:decide ((0:Int) < z110 s)=decide (0 < (qwS 0 s).2):=by
  show decide ((0:Int) < ((qwS 0 s).2:Int))=_
  by_cases h:0 < (qwS 0 s).2
  ·rw [dT (by omega),decide_eq_true h]
  ·rw [dF (by omega),decide_eq_false h]
 rw [hs]
 cases (s.all fun c=>z129 c 4) <;> cases s.contains 63 <;> cases decide (0 < (qwS 0 s).2) <;> rfl⟩
theorem qzU:∃ n,qwc n  = qwb (z106 ):=⟨10,by kernel_rfl⟩
theorem qoV (k:LU):∀ l:List (LU×Int),@findM .str (.int .i64) k l=qib k l
 | []=>rfl
 | p :: l=>by
  show (bif k==p.1 then some p.2 else @findM .str (.int .i64) k l)=_
  rw [qoV k l]; rfl
theorem qdq (c:UInt8):∀ s:LU,(bif decide ((0:Int)≤Lib.indexByte s c) then s.take (Lib.indexByte s c).toNat else s)=s.takeWhile fun x=>x != c
 | []=>rfl
 | x :: s=>by
  have ih:=qdq c s
  have hg:=Lib.indexByte_ge s c
  rw [qwT,List.takeWhile_cons]
  by_cases hx:x=c
  ·subst hx
   simp
  ·have h1:(x==c)=false:=beq_eq_false_iff_ne.2 hx
   have h2:(x != c)=true:=by rw [bne,h1]; rfl
   rw [h1,h2]
   simp only [Bool.false_eq_true,if_false,if_true]
   rw [← ih]
   by_cases h3:Lib.indexByte s c = -1
   ·rw [h3]; rfl
   ·have h4:(Lib.indexByte s c == -1)=false:=by simpa using h3
    rw [h4]
    simp only [Bool.false_eq_true,if_false]
    rw [dT (by omega),dT (by omega),cond_true,cond_true,show (Lib.indexByte s c+1).toNat=(Lib.indexByte s c).toNat+1 by omega,List.take_succ_cons]
theorem qzV:∀ (s0:LU),(qoK s0=true)→∃ n,qwn n s0=qns (z107 s0):=fun s h=>⟨0,by
 have hl:=qh h
 have ht:=qdq 42 s
 have hlt:=ib_lt s 42
 unfold qwn z107
 rw [← ht]
 by_cases hi:(0:Int)≤Lib.indexByte s 42
 ·rw [show decide ((0:Int)≤z109 s 42)=true from dT hi,dT hi,cond_true,cond_true]
  rw [show z109 s 42=Lib.indexByte s 42 from rfl,dT (show (0:Int)≤((0:Nat):Int) by omega),dT (show ((0:Nat):Int)≤Lib.indexByte s 42 by omega),dT (show Lib.indexByte s 42≤((s.length:Nat):Int) by omega)]
  have hk:qiO (List.drop (Int.toNat ((0:Nat):Int)) (List.take (Int.toNat (Lib.indexByte s 42)) s))=true:=ql (by rw [tn,List.drop_zero,List.length_take]; omega)
  rw [hk]
  rfl
 ·rw [show decide ((0:Int)≤z109 s 42)=false from dF hi,dF hi,cond_false,cond_false,show qiO s=true from h]
  rfl⟩
theorem qBC (s:LU):(z107 s).length≤s.length:=by
 unfold z107 z148
 exact Nat.le_trans (qpG _ _) (qbb _ _)
theorem qDR:∀ (s0:LU),(qqP s0=true)→∃ n,qEt n s0=qwo (z58 s0).1 (z58 s0).2:=fun s h=>⟨0,by
 have hl:=qh h
 have hb:=qBC s
 unfold qEt z58
 rw [show qoK s=true from h,show qrh (z107 s)=true from ql (by omega),qoV]
 cases qib (z79 (z107 s)) z106 <;> rfl⟩
theorem qDS:∀ (w0:LU×(Int×(LU×Unit))),(qlm w0=true)→∃ n,qEu n w0=qwp (z53 w0):=fun w h=>⟨0,by
 unfold qEu z53 csOf
 rw [show qqP w.1=true from h]
 cases ((z58 w.1).2 != 0) <;> rfl⟩
theorem qDT:∀ (w0:LU×(Int×(LU×Unit))),(qqS w0=true)→∃ n,qEx n w0=qwv (z54 w0):=fun w h=>⟨0,by
 unfold qEx z54 octOf
 rw [show qzl w.2.2.1=true from h,show qzn w.2.2.1=true from h]
 cases (w.2.1==1) <;> rfl⟩
end Go.Av
