import Derived.Test.YtopepdfipgfakaaGreatDoorEfP10
namespace Go.Av
theorem qlp (m:Nat) (s:LU) (hl:s.length≤1048576):∀ (n i:Nat) (out:LU) (k:Nat),s.length - i < n→out.length+(qwS 0 (s.drop i)).1.length≤1048576→k+(qwS 0 (s.drop i)).2≤1048576 →
 qny (qhQ m) n s out (k:Int) (i:Int)=qlI (out++(qwS 0 (s.drop i)).1) ((k+(qwS 0 (s.drop i)).2:Nat):Int)
 | 0,i,out,k,hn,_,_=>by omega
 | n+1,i,out,k,hn,ho,hk=>by
  show qki _ _ n _ _ _ _=_
  unfold qki
  by_cases hlt:i < s.length
  ·have hst:qwS 0 (s.drop i)=bif (z189 s (i:Int) 61).2 then ((z189 s (i:Int) 61).1 :: (qwS 0 (s.drop (i+3))).1,(qwS 0 (s.drop (i+3))).2)
    else ((bif s.getD i 0==95 then 32 else s.getD i 0) :: (qwS 0 (s.drop (i+1))).1,(qwS 0 (s.drop (i+1))).2+(bif s.getD i 0==61 then 1 else 0)):=by
    rw [qhj,qG hlt]
    show (bif (z189 (s.getD i 0 :: s.drop (i+1)) 0 61).2 then _ else _)=_
    rw [qnf 2,List.drop_drop,show i+1+2=i+3 by omega]
   have hok:qoG s (i:Int) 61=true:=ql hl
   have eT:z103 s (i:Int) 61=z189 s (i:Int) 61:=rfl
   rw [hok,eT]
   have hroom:∀ y:UInt8,out.length+1≤1048576→decide (out.length+([y]:LU).length≤room)=true:=fun y hy=>by refine decide_eq_true ?_; show out.length+1≤room; unfold room; omega
   rw [dT (show ((i:Nat):Int) < ((s.length:Nat):Int) by omega),dT (show (0:Int)≤((i:Nat):Int) by omega),tn]
   simp only [cond_true,Bool.and_true]
   cases ht:(z189 s (i:Int) 61).2 with
   | true =>
    rw [ht,cond_true] at hst
    rw [hst] at ho hk ⊢
    simp only [List.length_cons] at ho hk
    rw [cond_true,hroom _ (by omega),cond_true,show IntKind.wrap .i64 (IntKind.wrap .i64 ((i:Int)+2)+1)=((i+3:Nat):Int) by rw [IntWalk.i64_in ((i:Int)+2) (by omega),IntWalk.i64_in _ (by omega)]; omega,
     qlp m s hl n (i+3) _ k (by omega) (by rw [List.length_append]; show out.length+1+_≤_; omega) hk,List.append_assoc]
    rfl
   | false =>
    rw [ht,cond_false] at hst
    rw [cond_false]
    cases h95:s.getD i 0==95 with
    | true =>
     have h61:(s.getD i 0==61)=false:=by rw [beq_iff_eq.1 h95]; rfl
     rw [h95,h61,cond_true,cond_false,Nat.add_zero] at hst
     rw [hst] at ho hk ⊢
     simp only [List.length_cons] at ho hk
     rw [cond_true,hroom 32 (by omega),cond_true,qj (by omega),qlp m s hl n (i+1) _ k (by omega) (by rw [List.length_append]; show out.length+1+_≤_; omega) hk,List.append_assoc]
     rfl
    | false =>
     rw [cond_false]
     cases h61:s.getD i 0==61 with
     | true =>
      rw [h95,h61,cond_false,cond_true,beq_iff_eq.1 h61] at hst
      rw [hst] at ho hk ⊢
      simp only [List.length_cons] at ho hk
      rw [cond_true,hroom 61 (by omega),cond_true,qj (by omega),qj (by omega),
       qlp m s hl n (i+1) _ (k+1) (by omega) (by rw [List.length_append]; show out.length+1+_≤_; omega) (by omega),List.append_assoc]
      rw [show k+1+(qwS 0 (s.drop (i+1))).2=k+((qwS 0 (s.drop (i+1))).2+1) by omega]
      rfl
     | false =>
      rw [h95,h61,cond_false,cond_false,Nat.add_zero] at hst
      rw [hst] at ho hk ⊢
      simp only [List.length_cons] at ho hk
      rw [cond_false,hroom _ (by omega),cond_true,qj (by omega),qlp m s hl n (i+1) _ k (by omega) (by rw [List.length_append]; show out.length+1+_≤_; omega) hk,List.append_assoc]
      rfl
  ·rw [dF (by omega),cond_false,List.drop_eq_nil_of_le (by omega)]
   show qlI out (k:Int)=qlI (out++[]) _
   rw [List.append_nil]; rfl
theorem qDv:∀ (s0:LU),(qqR s0=true)→∃ n,qEI n s0=qlI (z56 s0).1 (z56 s0).2:=fun s h=>⟨s.length+1,by
 have hl:=qh h
 have h1:=qhe s 0
 have h2:=qhk s 0
 have:=qlp (s.length+1) s hl (s.length+1) 0 [] 0 (by omega) (by rw [List.drop_zero]; show 0+_≤_; omega) (by rw [List.drop_zero]; omega)
 rw [List.drop_zero,List.nil_append,Nat.zero_add] at this
 exact this⟩
theorem qiu (j:Nat) (s:LU) (hl:s.length≤1048576):∀ (d i n:Nat),i+d=s.length→d < n →
 qnC qfQ (qdN j) n s (i:Nat)=bif (s.drop i).all (fun c=>z129 c 4&&c != 63) then qdN j s else qfQ 3
 | d,i,0,hi,hn=>by omega
 | 0,i,n+1,hi,hn=>by
  obtain rfl:i=s.length:=by omega
  show qfC _ _ _ n _ _=_
  unfold qfC
  rw [dF (by omega),cond_false,List.drop_length]; rfl
 | d+1,i,n+1,hi,hn=>by
  show qfC _ _ _ n _ _=_
  unfold qfC
  have hlt:i < s.length:=by omega
  have ih:=qiu j s hl d (i+1) n (by omega) (by omega)
  rw [qG hlt,List.all_cons]
  simp (disch:=omega) only [dT,cond_true,Bool.and_true,tn,qj]
  rw [ih,show z82 (s.getD i 0) 4=z129 (s.getD i 0) 4 from rfl]
  cases z129 (s.getD i 0) 4
  ·rfl
  ·cases h:s.getD i 0==63 with
   | true=>rw [show (s.getD i 0 != 63)=false by rw [bne,h]; rfl]; rfl
   | false=>rw [show (s.getD i 0 != 63)=true by rw [bne,h]; rfl]; rfl
theorem qDw (s:LU):s.all (fun c=>z129 c 4&&c != 63)=(s.all (fun c=>z129 c 4) && !(s.contains 63)):=by
 induction s with
 | nil=>rfl
 | cons c r ih =>
  rw [List.all_cons,List.all_cons,ih,List.contains_cons]
  cases z129 c 4
  ·rfl
  ·cases h:(63:UInt8)==c with
   | true =>
    have:(c != 63)=false:=by rw [beq_iff_eq] at h; subst h; rfl
    rw [this]; simp
   | false =>
    have:(c != 63)=true:=by rw [beq_eq_false_iff_ne] at h; simpa using fun e=>h e.symm
    rw [this]; simp
theorem qDx:∀ (s0:LU),(qzp s0=true)→∃ n,qEP n s0=qfQ (z62 s0):=fun s h=>⟨s.length+1,by
 have hl:=qh h
 have:=qiu (s.length+1) s hl s.length 0 (s.length+1) (by omega) (by omega)
 rw [List.drop_zero,qDw] at this
 refine this.trans ?_
 unfold qdN
 show _=qfQ (bif !(s.all fun c=>z129 c 4)||(s.contains 63||decide (0 < (qwS 0 s).2)) then 3 else 0)
 rw [show qqR s=true from h,show decide ((0:Int) < (z56 s).2)=decide (0 < (qwS 0 s).2) from by
  show decide ((0:Int) < ((qwS 0 s).2:Int))=_
  by_cases h:0 < (qwS 0 s).2
  ·rw [dT (by omega),decide_eq_true h]
  ·rw [dF (by omega),decide_eq_false h]]
 cases (s.all fun c=>z129 c 4) <;> cases s.contains 63 <;> cases decide (0 < (qwS 0 s).2) <;> rfl⟩
theorem qzH {s:LU} {e:Nat} (he:e < s.length):(s.take (e+1)).getLast? = some (s.getD e 0)∧(s.take (e+1)).dropLast=s.take e:=by
 rw [← qoU he]
 exact ⟨by simp,by simp⟩
theorem qve (j:Nat) (s:LU) (hl:s.length≤1048576) (n e k:Nat) (he:e≤s.length) (hk:k < 2):qid (qaU j) (n+1) s (e:Int) (k:Int) =
 bif (s.take e).getLast? == some 61 then qid (qaU j) n s ((e - 1:Nat):Int) ((k+1:Nat):Int) else qaU j s (e:Int):=by
 show qfB _ _ n _ _ _=_
 unfold qfB
 rw [dT (show (k:Int) < 2 by omega),cond_true]
 match e,he with
 | 0,_=>rfl
 | e+1,he =>
  have h1:=qzH (s:=s) (e:=e) (by omega)
  rw [dT (show (0:Int) < ((e+1:Nat):Int) by omega),cond_true,show IntKind.wrap .i64 (((e+1:Nat):Int) - 1)=((e:Nat):Int) by rw [IntWalk.i64_in _ (by omega)]; omega,tn,h1.1,
   dT (show (0:Int)≤(e:Int) by omega),dT (show (e:Int) < ((s.length:Nat):Int) by omega),qj (by omega)]
  show (bif s.getD e 0==61 then _ else _)=bif (some (s.getD e 0)==some 61) then _ else _
  rw [show (some (s.getD e 0)==some (61:UInt8))=(s.getD e 0==61) from rfl]
  cases s.getD e 0==61 <;> rfl
theorem qDy (j:Nat) (s:LU) (hl:s.length≤1048576):∃ e:Nat,qid (qaU j) 3 s ((s.length:Nat):Int) 0=qaU j s (e:Int)∧e≤s.length∧s.take e=bodyB s:=by
 have h0:=qve j s hl 2 s.length 0 (Nat.le_refl _) (by omega)
 rw [List.take_length] at h0
 rw [show ((0:Nat):Int)=0 from rfl] at h0
 unfold bodyB
 cases hg:s.getLast? == some 61 with
 | false =>
  rw [hg] at h0
  refine ⟨s.length,h0,Nat.le_refl _,?_⟩
  rw [List.take_length]
  simp only [cond_false]
  rw [hg]; rfl
 | true =>
  rw [hg,cond_true] at h0
  have hne:s≠[]:=by rintro rfl; cases hg
  have hpos:=List.length_pos_iff.2 hne
  have hdl:s.dropLast=s.take (s.length - 1):=by rw [List.dropLast_eq_take]
  have h1:=qve j s hl 1 (s.length - 1) 1 (by omega) (by omega)
  rw [← hdl] at h1
  rw [h1] at h0
  have hlen:(s.dropLast.length != s.length)=true:=by rw [bne_iff_ne,List.length_dropLast]; omega
  simp only [cond_true]
  rw [hlen,Bool.and_true]
  cases hg2:s.dropLast.getLast? == some 61 with
  | false =>
   rw [hg2] at h0
   exact ⟨s.length - 1,h0,by omega,hdl.symm⟩
  | true =>
   rw [hg2,cond_true] at h0
   refine ⟨s.length - 1 - 1,?_,by omega,?_⟩
   ·rw [h0]
    show qfB _ _ 0 _ _ _=_
    unfold qfB
    rw [dF (show ¬ ((1+1:Nat):Int) < 2 by omega),cond_false]
   ·rw [cond_true,List.dropLast_eq_take,hdl,List.take_take,List.length_take]
    congr 1
    omega
theorem qDz:∀ (s0:LU),(qzj s0=true)→∃ n,qEO n s0=qiH (z61 s0).1 (z61 s0).2:=fun s h=>⟨3,by
 have hl:=qh h
 obtain ⟨e,h1,h2,h3⟩:=qDy 3 s hl
 refine (show _=qid (qaU 3) 3 s ((s.length:Nat):Int) 0 from rfl).trans (h1.trans ?_)
 unfold qaU
 have hb:=qvj s
 rw [tn,tn,List.drop_zero,h3,tmod4,show qip (bodyB s)=true from ql (by omega)]
 simp (disch:=omega) only [dT,cond_true,Bool.and_true]
 show _=qiH (z108 s).1 (z108 s).2
 unfold z101 z108
 cases (bodyB s).all isB64 with
 | false=>rfl
 | true =>
  simp only [cond_true,Bool.not_true,cond_false]
  rw [show qiq (bitsB (bodyB s))=true from decide_eq_true (by rw [qgl]; omega)]
  cases (s.length % 4 != 0)
  ·cases (z102 (bitsB (bodyB s))).2 <;> rfl
  ·rfl⟩
theorem qfh (j:Nat) (s:LU) (hl:s.length≤1048576):∀ (d n e:Nat),d≤s.length→d < n→e=d+((s.drop d).takeWhile fun c=>c != 42).length →
 qhG (qcc j) n s (e:Int) ((d:Int) - 1)=qcc j s (((s.takeWhile fun c=>c != 42).length:Nat):Int)
 | d,0,e,hd,hn,_=>by omega
 | 0,n+1,e,hd,hn,he=>by
  show qcV _ _ n _ _ _=_
  unfold qcV
  rw [show decide ((0:Int)≤((0:Nat):Int) - 1)=false from rfl,cond_false,he,List.drop_zero,Nat.zero_add]
 | d+1,n+1,e,hd,hn,he=>by
  show qcV _ _ n _ _ _=_
  unfold qcV
  have hlt:d < s.length:=by omega
  rw [show ((d+1:Nat):Int) - 1=((d:Nat):Int) by omega,tn]
  simp (disch:=omega) only [dT,cond_true,Bool.and_true]
  rw [show IntKind.wrap .i64 ((d:Int) - 1)=(d:Int) - 1 from IntWalk.i64_in _ (by omega)]
  have hdc:=qG hlt
  cases h:s.getD d 0==42 with
  | true =>
   have hne:(s.getD d 0 != 42)=false:=by rw [bne,h]; rfl
   rw [cond_true]
   exact qfh j s hl d n d (by omega) (by omega) (by rw [hdc,List.takeWhile_cons,hne]; rfl)
  | false =>
   have hne:(s.getD d 0 != 42)=true:=by rw [bne,h]; rfl
   rw [cond_false]
   exact qfh j s hl d n e (by omega) (by omega) (by rw [hdc,List.takeWhile_cons,hne,if_pos rfl,List.length_cons,he]; omega)
theorem qlq (p:UInt8→Bool):∀ s:LU,s.take (s.takeWhile p).length=s.takeWhile p
 | []=>rfl
 | x :: r=>by
  rw [List.takeWhile_cons]
  cases p x with
  | false=>rfl
  | true=>simp only [if_true,List.length_cons,List.take_succ_cons]; rw [qlq p r]
theorem qzI:∀ (s0:LU),(qoL s0=true)→∃ n,qpv n s0=qwy (z105 s0):=fun s h=>⟨s.length+1,by
 have hl:=qh h
 have hw:=qbb (fun c:UInt8=>c != 42) s
 unfold qpv
 rw [show IntKind.wrap .i64 (((s.length:Nat):Int) - 1)=((s.length:Nat):Int) - 1 from IntWalk.i64_in _ (by omega)]
 refine (qfh (s.length+1) s hl s.length (s.length+1) s.length (Nat.le_refl _) (by omega) (by rw [List.drop_length]; rfl)).trans ?_
 unfold qcc
 rw [tn,tn,List.drop_zero,qlq,show qpO (s.takeWhile fun c=>c != 42)=true from ql (by omega)]
 simp (disch:=omega) only [dT,cond_true,Bool.and_true]
 rfl⟩
theorem qlr (ret:Int→Int→OA) (k2:LU→Int→OA) (b:LU) (n5:Int) (l:List LU) (hl:l.length≤100):∀ (d i n:Nat),i+d=l.length→d < n →
 qnu ret k2 n b n5 l (i:Nat)=bif (l.drop i).any (fun x=>x==b) then ret n5 0 else k2 b n5
 | d,i,0,hi,hn=>by omega
 | 0,i,n+1,hi,hn=>by
  obtain rfl:i=l.length:=by omega
  show qfv _ _ _ n _ _ _ _=_
  unfold qfv
  rw [dF (by omega),cond_false,List.drop_length]; rfl
 | d+1,i,n+1,hi,hn=>by
  show qfv _ _ _ n _ _ _ _=_
  unfold qfv
  have hlt:i < l.length:=by omega
  have ih:=qlr ret k2 b n5 l hl d (i+1) n (by omega) (by omega)
  have e:l.drop i=l.getD i [] :: l.drop (i+1):=by
   rw [List.drop_eq_getElem_cons hlt,List.getD_eq_getElem?_getD,List.getElem?_eq_getElem hlt]; rfl
  rw [e,List.any_cons]
  simp (disch:=omega) only [dT,cond_true,Bool.and_true,tn,qj]
  rw [ih]
  cases (l.getD i []==b) <;> rfl
theorem qbN (b:LU) (n:Int):∀ (l:List LU) (r:List (LU×Int)),qib b (l.map (fun s=>(s,n))++r)=bif l.any (fun x=>x==b) then some n else qib b r
 | [],r=>rfl
 | x :: l,r=>by
  show (bif b==x then some n else qib b (l.map (fun s=>(s,n))++r))=bif (x==b)||l.any (fun x=>x==b) then some n else qib b r
  rw [qbN b n l r]
  have hc:(b==x)=(x==b):=by
   cases h:x==b with
   | true=>rw [beq_iff_eq] at h ⊢; exact h.symm
   | false=>rw [beq_eq_false_iff_ne] at h ⊢; exact fun e=>h e.symm
  rw [hc]
  cases (x==b) <;> rfl
theorem qzJ (n:Int):(z133 n).length≤4:=by
 unfold z133
 cases n==1
 ·cases n==2
  ·cases n==3
   ·cases n==4
    ·cases n==5
     ·exact Nat.zero_le _
     ·exact Nat.le_of_ble_eq_true rfl
    ·exact Nat.le_of_ble_eq_true rfl
   ·exact Nat.le_of_ble_eq_true rfl
  ·exact Nat.le_of_ble_eq_true rfl
 ·exact Nat.le_of_ble_eq_true rfl
theorem qDA:∀ (s0:LU),(qqQ s0=true)→∃ n,qAw n s0=qal (z57 s0).1 (z57 s0).2:=fun s h=>⟨20,by
 have hl:=qh h
 have hb:=qBC s
 unfold qAw
 rw [show qoL s=true from h,show qoT (z105 s)=true from ql (by show (z107 s).length≤_; omega)]
 show qhJ qal (qcd 20) 20 (z79 (z107 s)) 1=qal (z58 s).1 (z58 s).2
 have step:∀ (n:Nat) (v:Nat) (b:LU),v≤5→5 < n→qhJ qal (qcd 20) (n+1) b (v:Int)=bif (z133 (v:Int)).any (fun x=>x==b) then qal (v:Int) 0 else qhJ qal (qcd 20) n b ((v+1:Nat):Int):=fun n v b hv hn=>by
  show qhI _ _ _ n _ _=_
  unfold qhI
  have hnl:=qzJ (v:Int)
  rw [dT (show (v:Int)≤5 by omega),cond_true]
  refine (qlr _ _ b (v:Int) (z133 (v:Int)) (by omega) (z133 (v:Int)).length 0 n (by omega) (by omega)).trans ?_
  rw [List.drop_zero]
  unfold qhH
  rw [qj (by omega)]
 have e6:∀ (n:Nat) (b:LU),qhJ qal (qcd 20) (n+1) b ((6:Nat):Int)=qal 0 10:=fun n b=>rfl
 have hL:qhJ qal (qcd 20) 20 (z79 (z107 s)) ((1:Nat):Int)=_:=step 19 1 _ (by omega) (by omega)
 rw [step 18 2 _ (by omega) (by omega),step 17 3 _ (by omega) (by omega),step 16 4 _ (by omega) (by omega),step 15 5 _ (by omega) (by omega),e6] at hL
 refine hL.trans ?_
 have hR:qib (z79 (z107 s)) z106=qib (z79 (z107 s)) ((z133 1).map (fun s=>(s,(1:Int)))++((z133 2).map (fun s=>(s,(2:Int)))++((z133 3).map (fun s=>(s,(3:Int)))++((z133 4).map (fun s=>(s,(4:Int)))++((z133 5).map (fun s=>(s,(5:Int)))++[]))))):=rfl
 unfold z58
 rw [hR,qbN,qbN,qbN,qbN,qbN]
 generalize z79 (z107 s)=b
 show (bif (z133 1).any (fun x=>x==b) then qal 1 0 else bif (z133 2).any (fun x=>x==b) then qal 2 0 else bif (z133 3).any (fun x=>x==b) then qal 3 0 else bif (z133 4).any (fun x=>x==b) then qal 4 0 else bif (z133 5).any (fun x=>x==b) then qal 5 0 else qal 0 10)=_
 cases (z133 1).any (fun x=>x==b)
 ·cases (z133 2).any (fun x=>x==b)
  ·cases (z133 3).any (fun x=>x==b)
   ·cases (z133 4).any (fun x=>x==b)
    ·cases (z133 5).any (fun x=>x==b) <;> rfl
    ·rfl
   ·rfl
  ·rfl
 ·rfl⟩
end Go.Av
