import Derived.Test.YtopepdfipgfakaaGreatDoorEfP9
namespace Go.Av
theorem qvc (ret:Bool→OA) (a b:LI) (hab:a.length=b.length) (hl:a.length≤1048576):∀ (d i n:Nat),i+d=a.length→d < n →
 qkj ret (ret true) n a b (i:Nat)=ret (decide (a.drop i=b.drop i))
 | d,i,0,hi,hn=>by omega
 | 0,i,n+1,hi,hn=>by
  show qfA ret (ret true) (qkj ret (ret true) n) n a b _=_
  unfold qfA
  rw [decide_eq_false (by omega),cond_false,List.drop_eq_nil_of_le (by omega),List.drop_eq_nil_of_le (by omega)]
  rfl
 | d+1,i,n+1,hi,hn=>by
  show qfA ret (ret true) (qkj ret (ret true) n) n a b _=_
  unfold qfA
  have hlt:i < a.length:=by omega
  have hlt':i < b.length:=by omega
  have ih:=qvc ret a b hab hl d (i+1) n (by omega) (by omega)
  simp (disch:=omega) only [dT,cond_true,Bool.and_true,tn,qj]
  rw [ih,qAz hlt hlt' 0]
  cases (a.getD i 0 != b.getD i 0) <;> rfl
theorem qDr:∀ (a0:LI) (b1:LI),(qzv a0 b1=true)→∃ n,qAy n a0 b1=qiE (z21 a0 b1):=fun a b h=>⟨a.length+1,by
 unfold qAy z21
 by_cases hab:a.length=b.length
 ·rw [show (((a.length:Nat):Int) != ((b.length:Nat):Int))=false by simp [hab],cond_false]
  exact qvc qiE a b hab (qh h) a.length 0 (a.length+1) (by omega) (by omega)
 ·rw [show (((a.length:Nat):Int) != ((b.length:Nat):Int))=true by simp only [bne_iff_ne,ne_eq]; omega,cond_true,decide_eq_false (fun e=>hab (by rw [e]))]⟩
theorem qzB:∀ (s0:LU),(qoT s0=true)→∃ n,qpt n s0=qww (z104 s0):=fun s h=>⟨s.length+1,by
 have hl:=qh h
 unfold qpt
 have:=qhT (t:=s) (dv:=0) (f:=fun c=>[z81 c]) (q:=fun _=>true) (b:=1) (k0:=qcR (s.length+1)) (R:=none)
  (L:=fun n out i=>qhF (qcR (s.length+1)) n s out i) (fun x=>Nat.le_refl 1) (fun n i out hi hb=>by
   show qcQ _ _ n _ _ _=_
   unfold qcQ
   have hr:out.length+([z81 (s.getD i 0)]:LU).length≤room:=hb
   simp (disch:=omega) only [dT,cond_true,Bool.and_true,tn,qj]
   all_goals (rw [dT hr])
   all_goals rfl) (fun n out=>by
   show qcQ _ _ n _ _ _=_
   unfold qcQ
   rw [dF (by omega)]; rfl) s.length 0 (s.length+1) [] (by omega) (by omega) (by show 0+_≤room; unfold room; omega)
 rw [List.drop_zero,qhi,cond_true,List.nil_append,qhh] at this
 exact this⟩
def valF:Nat→Nat→UInt8→Int×Bool
 | 0,_,_=>(0,false)
 | d+1,n,c=>bif z135 (n:Int)==c then ((n:Int),true) else valF d (n+1) c
theorem qvd (m:Nat) (c:UInt8):∀ (d i n:Nat),i+d=64→d < n→qhL qdK (qeB m) n c (i:Nat)=qdK (valF d i c).1 (valF d i c).2
 | d,i,0,hi,hn=>by omega
 | 0,i,n+1,hi,hn=>by
  show qcZ _ _ _ n _ _=_
  unfold qcZ
  rw [dF (by omega)]; rfl
 | d+1,i,n+1,hi,hn=>by
  show qcZ _ _ _ n _ _=_
  unfold qcZ
  rw [dT (by omega),cond_true,qj (by omega),qvd m c d (i+1) n (by omega) (by omega)]
  show _=qdK (bif z135 (i:Int)==c then ((i:Int),true) else valF d (i+1) c).1 (bif z135 (i:Int)==c then ((i:Int),true) else valF d (i+1) c).2
  cases (z135 (i:Int)==c) <;> rfl
theorem qDs:∀ i:Fin 256,(valF 64 0 (UInt8.ofNat i.val)==z150 (UInt8.ofNat i.val))=true:=by decide +kernel
theorem qzC:∀ (c0:UInt8),∃ n,qpA n c0=qdK (z145 c0).1 (z145 c0).2:=fun c=>⟨65,by
 have h:=qbd (P:=fun c=>(valF 64 0 c==z150 c)=true) qDs c
 rw [beq_iff_eq] at h
 unfold qpA z145
 rw [← h]
 exact qvd 65 c 64 0 65 rfl (by omega)⟩
theorem qfg (j:Nat) (s:LU) (hl:s.length≤1048576):∀ (d i n:Nat) (out:LU) (k:Nat),i+d=s.length→d < n→out.length≤i→k≤i →
 qhM (qeC j) n s out (k:Int) (i:Nat)=qdL (out++digB (s.drop i)) ((k+((((s.drop i).takeWhile fun c=>c != 61).filter fun c => !(isB64 c)).length):Nat):Int)
 | d,i,0,out,k,hi,hn,_,_=>by omega
 | 0,i,n+1,out,k,hi,hn,_,_=>by
  obtain rfl:i=s.length:=by omega
  show qda _ _ n _ _ _ _=_
  unfold qda
  rw [dF (by omega),cond_false,List.drop_length]
  show qdL out (k:Int)=qdL (out++[]) _
  rw [List.append_nil]; rfl
 | d+1,i,n+1,out,k,hi,hn,ho,hk=>by
  show qda _ _ n _ _ _ _=_
  unfold qda
  have hlt:i < s.length:=by omega
  have hr:out.length+([s.getD i 0]:LU).length≤room:=by show out.length+1≤room; unfold room; omega
  rw [qG hlt,qoX,List.takeWhile_cons]
  simp (disch:=omega) only [dT,cond_true,Bool.and_true,tn]
  cases h61:s.getD i 0==61 with
  | true =>
   have hne:(s.getD i 0 != 61)=false:=by rw [bne,h61]; rfl
   rw [hne]
   show qdL out (k:Int)=qdL (out++[]) _
   rw [List.append_nil]; rfl
  | false =>
   have hne:(s.getD i 0 != 61)=true:=by rw [bne,h61]; rfl
   rw [hne,cond_true,if_pos rfl,cond_false,List.filter_cons,show (z145 (s.getD i 0)).2=isB64 (s.getD i 0) from rfl]
   cases hv:isB64 (s.getD i 0) with
   | true =>
    rw [cond_true,qj (by omega),qfg j s hl d (i+1) n _ k (by omega) (by omega) (by rw [List.length_append]; show out.length+1≤_; omega) (by omega),List.append_assoc]
    rfl
   | false =>
    rw [cond_false,qj (by omega),qj (by omega),qfg j s hl d (i+1) n out (k+1) (by omega) (by omega) (by omega) (by omega)]
    simp only [Bool.not_false,if_true,List.length_cons,cond_false]
    rw [show k+1+((((s.drop (i+1)).takeWhile fun c=>c != 61).filter fun c => !(isB64 c)).length)=k+(((((s.drop (i+1)).takeWhile fun c=>c != 61).filter fun c => !(isB64 c)).length)+1) by omega]
theorem qzD:∀ (s0:LU),(qoP s0=true)→∃ n,qwC n s0=qdL (z100 s0).1 (z100 s0).2:=fun s h=>⟨s.length+1,by
 have hl:=qh h
 have:=qfg (s.length+1) s hl s.length 0 (s.length+1) [] 0 (by omega) (by omega) (by simp) (Nat.le_refl 0)
 rw [List.drop_zero,List.nil_append,Nat.zero_add] at this
 exact this⟩
theorem qzE:∀ i:Fin 64,([Int.tmod (Int.fdiv (i.val:Int) (2 ^ 5)) 2,Int.tmod (Int.fdiv (i.val:Int) (2 ^ 4)) 2,Int.tmod (Int.fdiv (i.val:Int) (2 ^ 3)) 2,Int.tmod (Int.fdiv (i.val:Int) (2 ^ 2)) 2,Int.tmod (Int.fdiv (i.val:Int) (2 ^ 1)) 2,Int.tmod (Int.fdiv (i.val:Int) (2 ^ 0)) 2]:LI)=qaz (i.val:Int):=by decide +kernel
theorem qDt (k2:LU→LI→Int→OA) (n:Nat) (s:LU) (out:LI) (i5:Int) (v:Nat) (hv:v < 64) (ho:out.length+6≤room):qdt k2 (n+7) s out i5 (v:Int) 5=k2 s (out++qaz (v:Int)) i5:=by
 have h6:=qzE ⟨v,hv⟩
 have hr:∀ (o:LI) (y:Int),o.length+1≤room→decide (o.length+([y]:LI).length≤room)=true:=fun o y h=>decide_eq_true h
 have step:∀ (q:Nat) (o:LI) (k:Nat),o.length+1≤room→k < 6→qdt k2 (q+1) s o i5 (v:Int) (k:Int)=qdt k2 q s (o++[Int.tmod (Int.fdiv (v:Int) (2 ^ (min (Int.toNat (k:Int)) (IntKind.bits .i64)))) 2]) i5 (v:Int) (IntKind.wrap .i64 ((k:Int) - 1)):=fun q o k ho hk=>by
  show qgx _ _ q _ _ _ _ _=_
  unfold qgx
  rw [dT (show (0:Int)≤(k:Int) by omega),hr _ _ ho]; rfl
 have e:qdt k2 (n+7) s out i5 (v:Int) ((5:Nat):Int)=k2 s (out++qaz (v:Int)) i5:=by
  rw [step (n+6) _ 5 (by omega) (by omega),show IntKind.wrap .i64 (((5:Nat):Int) - 1)=((4:Nat):Int) from rfl,step (n+5) _ 4 (by simp; omega) (by omega),show IntKind.wrap .i64 (((4:Nat):Int) - 1)=((3:Nat):Int) from rfl,
   step (n+4) _ 3 (by simp; omega) (by omega),show IntKind.wrap .i64 (((3:Nat):Int) - 1)=((2:Nat):Int) from rfl,step (n+3) _ 2 (by simp; omega) (by omega),show IntKind.wrap .i64 (((2:Nat):Int) - 1)=((1:Nat):Int) from rfl,
   step (n+2) _ 1 (by simp; omega) (by omega),show IntKind.wrap .i64 (((1:Nat):Int) - 1)=((0:Nat):Int) from rfl,step (n+1) _ 0 (by simp; omega) (by omega)]
  show k2 s _ i5=_
  rw [List.append_assoc,List.append_assoc,List.append_assoc,List.append_assoc,List.append_assoc,← h6]
  rfl
 exact e
theorem qis (j:Nat) (s:LU) (hl:s.length≤1048576):∀ (d i n:Nat) (out:LI),i+d=s.length→d+8 < n→out.length≤6*i →
 qeD qaT (qcf j) n s out (i:Nat)=bif (s.drop i).all isB64 then qaT (out++bitsB (s.drop i)) true else qaT [] false
 | d,i,0,out,hi,hn,_=>by omega
 | 0,i,n+1,out,hi,hn,_=>by
  obtain rfl:i=s.length:=by omega
  show qce _ _ _ n _ _ _=_
  unfold qce
  rw [dF (by omega),cond_false,List.drop_length]
  show qaT out true=qaT (out++[]) true
  rw [List.append_nil]
 | d+1,i,n+1,out,hi,hn,ho=>by
  show qce _ _ (qeD qaT (qcf j) n) n _ _ _=_
  unfold qce
  have hlt:i < s.length:=by omega
  rw [qG hlt,List.all_cons]
  simp (disch:=omega) only [dT,cond_true,Bool.and_true,tn]
  rw [show (z145 (s.getD i 0)).2=isB64 (s.getD i 0) from rfl]
  cases hv:isB64 (s.getD i 0) with
  | false=>rfl
  | true =>
   obtain ⟨v,hv1,hv2⟩:=qvh (s.getD i 0)
   obtain ⟨n',rfl⟩:∃ n',n=n'+7:=⟨n - 7,by omega⟩
   rw [Bool.not_true,cond_false,Bool.true_and,show (z145 (s.getD i 0)).1=(v:Int) from hv1,qDt _ _ _ _ _ v hv2 (by unfold room; omega)]
   show qeD qaT (qcf j) (n'+7) s (out++qaz (v:Int)) (IntKind.wrap .i64 (((i:Nat):Int)+1))=_
   rw [qj (by omega),qis j s hl d (i+1) (n'+7) _ (by omega) (by omega) (by rw [List.length_append]; show out.length+6≤_; omega),List.append_assoc]
   have e:bitsB (s.getD i 0 :: s.drop (i+1))=qaz (v:Int)++bitsB (s.drop (i+1)):=by rw [← hv1]; rfl
   rw [e]
theorem qzF:∀ (s0:LU),(qip s0=true)→∃ n,qwD n s0=qaT (z101 s0).1 (z101 s0).2:=fun s h=>⟨s.length+9,by
 have hl:=qh h
 have:=qis (s.length+9) s hl s.length 0 (s.length+9) [] (by omega) (by omega) (by simp)
 rw [List.drop_zero,List.nil_append] at this
 refine this.trans ?_
 unfold z101
 cases s.all isB64 <;> rfl⟩
theorem qit (j:Nat) (l:LI) (hl:l.length≤16777216):∀ (d i n:Nat) (out:LU),8*i≤l.length→l.length / 8=i+d→d < n→out=octs i l→qhO (qdd j) n l out ((8*i:Nat):Int)=qnw (z102 l).1 (z102 l).2
 | d,i,0,out,h8,hi,hn,_=>by omega
 | 0,i,n+1,out,h8,hi,hn,ho=>by
  show qdc _ _ n _ _ _=_
  unfold qdc
  rw [show IntKind.wrap .i64 (((8*i:Nat):Int)+8)=((8*i+8:Nat):Int) by rw [IntWalk.i64_in _ (by omega)]; omega,dF (by omega),cond_false]
  unfold qdd
  have hok:qeo (List.drop (Int.toNat ((8*i:Nat):Int)) (List.take (Int.toNat ((l.length:Nat):Int)) l))=true:=by
   unfold qeo
   rw [tn,tn,List.take_length]
   exact decide_eq_true (by rw [List.length_drop]; omega)
  rw [hok,tn,tn,List.take_length]
  simp (disch:=omega) only [dT,cond_true,Bool.and_true]
  unfold z102
  rw [hi,ho,Nat.add_zero,Nat.mul_comm i 8]
 | d+1,i,n+1,out,h8,hi,hn,ho=>by
  show qdc _ _ n _ _ _=_
  unfold qdc
  have hol:out.length=i:=by rw [ho,qnb]
  have e8:IntKind.wrap .i64 (((8*i:Nat):Int)+8)=((8*(i+1):Nat):Int):=by rw [IntWalk.i64_in _ (by omega)]; omega
  rw [e8,tn,tn]
  have hok:qeo (List.drop (8*i) (List.take (8*(i+1)) l))=true:=by
   unfold qeo
   exact decide_eq_true (by rw [List.length_drop,List.length_take]; omega)
  have hr:∀ y:UInt8,out.length+([y]:LU).length≤room:=fun y=>by show out.length+1≤room; unfold room; omega
  rw [hok]
  simp (disch:=omega) only [dT,cond_true,Bool.and_true]
  rw [dT (hr _),cond_true]
  refine qit j l hl d (i+1) n _ (by omega) (by omega) (by omega) ?_
  have e:octs (i+1) l=octs i l++[oct8 (z136 ((l.drop (8*i)).take 8))]:=by
   have h1:l=l.take (8*i)++l.drop (8*i):=(List.take_append_drop _ _).symm
   have hlen:(l.take (8*i)).length=8*i:=by rw [List.length_take]; omega
   have h2:octs (i+1) l=octs (i+1) (l.take (8*i)++l.drop (8*i)):=by rw [← h1]
   have h3:octs i l=octs (i+0) (l.take (8*i)++l.drop (8*i)):=by rw [← h1]; rfl
   rw [h2,h3,qhc i 1 _ _ hlen,qhc i 0 _ _ hlen]
   simp [octs]
  rw [e,ho,List.drop_take,show 8*(i+1) - 8*i=8 by omega]
  rfl
theorem qzG:∀ (l0:LI),(qiq l0=true)→∃ n,qwF n l0=qnw (z102 l0).1 (z102 l0).2:=fun l h=>⟨l.length / 8+1,by
 have hl:l.length≤16777216:=of_decide_eq_true h
 exact qit (l.length / 8+1) l hl (l.length / 8) 0 (l.length / 8+1) [] (by omega) (by omega) (by omega) rfl⟩
theorem qDu:∀ (s0:LU),(qzm s0=true)→∃ n,qEH n s0=qCd (z55 s0).1 (z55 s0).2:=fun s h=>⟨0,by
 have hl:=qh h
 have hd:=quS s
 have hall:(digB s).all isB64=true:=List.all_eq_true.2 fun c hc=>(List.mem_filter.1 hc).2
 have eD:(z100 s).1=digB s:=rfl
 have eV:(z101 (digB s)).1=bitsB (digB s):=by unfold z101; rw [hall]; rfl
 unfold qEH
 rw [show qoP s=true from h,eD,show qip (digB s)=true from ql (by omega),eV,show qiq (bitsB (digB s))=true from decide_eq_true (by rw [qgl]; omega)]
 rfl⟩
end Go.Av
