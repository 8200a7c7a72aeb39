import Derived.Test.YtmdadpepccbpcaaGreatDoorPoT3
namespace Go.Av
set_option linter.unusedSimpArgs false
set_option linter.unusedVariables false
section
set_option linter.unusedVariables false
end
section
theorem qBu (x:LU) (l:List LU) (h:l≠[]):(qba (x :: l)).1=x :: (qba l).1:=by
 cases l with
 | nil=>exact absurd rfl h
 | cons y l=>rfl
theorem qmZ (s:LU) {k:Nat} (h:qaE [] s=s.take k :: qaE [] (s.drop (k+2))):z142 s=s.take k :: z142 (s.drop (k+2)):=by
 unfold z142;rw [h,qBu _ _ (qlv _ _)]
theorem qna {s:LU} (hs:s≠[]) (h:qaE [] s=[s]):z142 s=[s]:=by
 unfold z142;rw [h];show (if s=[] then (([]:List LU),true) else ([s],false)).1=[s];rw [if_neg hs]
theorem cutok {s:LU} (hl:s.length≤1048576):qsj s [13,10]=true:=by unfold qsj lenOk; rw [dT hl]; rfl
theorem qhS (k0:List LU→OA):∀ (d:Nat) (s:LU) (out:List LU) (n:Nat),s.length≤d→d < n→s.length≤1048576→out.length+s.length≤1048576→qeJ k0 n s out=k0 (out++z142 s)
 | d,s,out,0,_,hn,_,_=>absurd hn (by omega)
 | d,[],out,n+1,_,_,_,_=>by
  rw [show z142 []=[] from rfl,yG];rfl
 | 0,c :: s,out,n+1,h,_,_,_=>absurd h (by simp)
 | d+1,c :: r,out,n+1,h,hn,hl,ho=>by
  obtain ⟨s,hs⟩:∃ s,c :: r=s:=⟨_,rfl⟩;rw [hs] at h hl ho ⊢;have hne:s≠[]:=fun e=>by rw [e] at hs; cases hs
  have hpos:0 < s.length:=List.length_pos_iff.2 hne;have hstep:qeJ k0 (n+1) s out=qgP k0 (qeJ k0 n) n s out:=rfl;rw [hstep];unfold qgP qaQ;rw [cutok hl];rw [dT (show (0:Int) < ((s.length:Nat):Int) by omega)];simp only [yc,yi];rw [dT (show List.length out+List.length ([z153 (z82 s [13,10]).1]:List LU)≤room by unfold room; rw [List.length_singleton]; omega)];rcases qyM s with ⟨h1,h2,_⟩ | ⟨k,h0,h1,h2,_⟩
  ·rw [h1,show qdM s=true by unfold qdM lenOk; rw [dT hl],qna hne h2];simp only [yc];have:=qhS k0 d [] (out++[s]) n (by simp) (by omega) (by simp) (by rw [yn,List.length_singleton]; simp; omega);rw [show z142 []=[] from rfl,yG] at this;exact this
  ·rw [h1,show qdM (s.take k)=true by unfold qdM lenOk; rw [yz,dT (by omega)],qmZ s h2];simp only [yc];have:=qhS k0 d (s.drop (k+2)) (out++[s.take k]) n (by rw [yK]; omega) (by omega) (by rw [yK]; omega) (by rw [yn,List.length_singleton,yK]; omega);rw [yl] at this;exact this
theorem qBv:∀ (s0:LU),(qqP s0=true)→∃ n,qqX n s0=qxz (z142 s0):=fun s h=>⟨s.length+1,by
 unfold qqX;rw [qhS _ s.length s [] _ (yv _) (Nat.lt_succ_self _) (qm h) (by simpa using qm h)];rfl⟩
theorem qqQ {P:LU→Prop} (h0:P []) (h1:∀ s,s≠[]→z82 s [13,10]=(s,[],false)→qaE [] s=[s]→Lib.index s [13,10] = -1→P s)
 (h2:∀ (s:LU) (k:Nat),k+2≤s.length→z82 s [13,10]=(s.take k,s.drop (k+2),true)→qaE [] s=s.take k :: qaE [] (s.drop (k+2))→Lib.index s [13,10]=k→P (s.drop (k+2))→P s):∀ s,P s:=by
 intro s;obtain ⟨d,hd⟩:∃ d,s.length≤d:=⟨_,yv _⟩;induction d generalizing s with
 | zero =>
  obtain rfl:=yF (Nat.le_zero.1 hd);exact h0
 | succ d ih =>
  by_cases hs:s=[]
  ·subst hs; exact h0
  ·rcases qyM s with ⟨k1,k2,k3⟩ | ⟨k,k0,k1,k2,k3⟩
   ·exact h1 s hs k1 k2 k3
   ·exact h2 s k k0 k1 k2 k3 (ih _ (by rw [yK]; omega))
theorem qqR:∀ s:LU,(z142 s).length≤s.length∧∀ l∈z142 s,l.length≤s.length:=by
 apply qqQ
 ·exact ⟨yv _,fun l h=>by cases h⟩
 ·intro s hs _ h _;rw [qna hs h];have:=List.length_pos_iff.2 hs;exact ⟨by rw [List.length_singleton]; omega,fun l h=>by rw [List.mem_singleton.1 h]; exact yv _⟩
 ·intro s k hk _ h _ ih;rw [qmZ s h];rw [yK] at ih;refine ⟨by rw [yg]; omega,fun l hl=>?_⟩;rcases List.mem_cons.1 hl with rfl | hl
  ·rw [yz]; omega
  ·have:=ih.2 l hl; omega
theorem qhT (k0:Int→OA) (l:List LU) (hl:l.length≤1048576):∀ (d i m n:Nat),i+d=l.length→d < n→qld k0 n (m:Nat) l ((l.length:Nat):Int) (i:Nat)=k0 ((maxL (l.drop i) m:Nat):Int)
 | d,i,m,0,_,hn=>absurd hn (by omega)
 | 0,i,m,n+1,hi,_=>by
  show qfB k0 (qld k0 n) n _ _ _ _=_;unfold qfB;rw [dF (by omega),yA (by omega)];rfl
 | d+1,i,m,n+1,hi,hn=>by
  show qfB k0 (qld k0 n) n _ _ _ _=_;unfold qfB;have hlt:i < l.length:=by omega
  rw [dT (show ((i:Nat):Int) < ((l.length:Nat):Int) by omega),dT (show (0:Int)≤((i:Nat):Int) by omega),tn,qn (by omega)];simp only [yc,Bool.and_self];rw [List.drop_eq_getElem_cons hlt];have e:l.getD i []=l[i]:=by simp [List.getD,hlt]
  rw [e];have e2:(bif decide (((l[i].length:Nat):Int) > ((m:Nat):Int)) then ((l[i].length:Nat):Int) else ((m:Nat):Int))=((max m l[i].length:Nat):Int):=by
   by_cases hc:m < l[i].length
   ·rw [dT (show ((l[i].length:Nat):Int) > ((m:Nat):Int) by omega),Nat.max_eq_right (by omega)]; rfl
   ·rw [dF (show ¬ ((l[i].length:Nat):Int) > ((m:Nat):Int) by omega),Nat.max_eq_left (by omega)]; rfl
  rw [e2,qhT k0 l hl d (i+1) _ n (by omega) (by omega)];rfl
theorem qFm:∀ (s0:LU),(qBn s0=true)→∃ n,qBE n s0=qDN (z81 s0):=fun s h=>⟨(z142 s).length+1,by
 unfold qBE;rw [show qqP s=true from h];have hl:=qm (show lenOk s=true from h);have:=(qqR s).1;simp only [yc,yi];have e:=qhT (qic ((z142 s).length+1)) (z142 s) (by omega) (z142 s).length 0 0 ((z142 s).length+1) (by omega) (by omega);exact e⟩
theorem qFn:∀ (c0:UInt8),∃ n,qLG n c0=qDL (z78 c0):=fun _=>⟨0,rfl⟩
theorem qBw {s:LU} (h:lenOk s=true) (c:UInt8):qeB s [c]=true:=by unfold qeB; rw [h]; rfl
theorem qBx:∀ (c0:UInt8) (x1:LU),(qjj c0 x1=true)→∃ n,qxx n c0 x1=qxw (z140 c0 x1).1 (z140 c0 x1).2:=fun c s h=>⟨0,by
 unfold qxx;rw [qBw (show lenOk s=true from h)];rfl⟩
theorem qnb:∀ (s:LU),(∀ (cur:LU) (p:Bool),(p=true→s.head? ≠ some 10)→s.count 13+s.count 10+2=2*(lineB false cur s).length+bareN p s) ∧
 (∀ cur:LU,s.head? = some 10→s.count 13+s.count 10+1=2*(lineB true cur s).length+bareN true s)
 | []=>⟨fun cur p _=>rfl,fun cur h=>by cases h⟩
 | c :: r=>by
  have ih:=qnb r;constructor
  ·intro cur p hp;show (c :: r).count 13+(c :: r).count 10+2=2*(if c=13∧r.head? = some 10 then cur :: lineB true [] r else lineB false (cur++[c]) r).length+((bif ((c==13) && !(r.head? == some 10))||((c==10) && !p) then 1 else 0)+bareN (c==13) r)
   by_cases h:c=13∧r.head? = some 10
   ·rw [if_pos h];obtain ⟨rfl,h⟩:=h;have:=ih.2 [] h;rw [h,yg,List.count_cons,List.count_cons];simp only [beq_self_eq_true,Bool.not_true,Bool.and_false,Bool.false_or,if_true,show ((13:UInt8)==10)=false by decide,Bool.false_and,yd];simp only [yq,if_false];omega
   ·rw [if_neg h];have:=ih.1 (cur++[c]) (c==13) (fun e h'=>h ⟨by simpa using e,h'⟩);rw [List.count_cons,List.count_cons]
    by_cases h13:c=13
    ·subst h13;have hh:(r.head? == some 10)=false:=by simpa using fun e=>h ⟨rfl,e⟩
     rw [hh];simp only [beq_self_eq_true,Bool.not_false,yi,Bool.true_or,if_true,yc,show ((13:UInt8)==10)=false by decide] at this ⊢;simp only [yq,if_false];omega
    ·have e13:(c==13)=false:=by simpa using h13
     rw [e13] at this ⊢
     by_cases h10:c=10
     ·subst h10;have hpf:p=false:=by
       cases p with
       | false=>rfl
       | true=>exact absurd rfl (hp rfl)
      subst hpf;simp only [beq_self_eq_true,Bool.not_false,yi,Bool.false_and,Bool.false_or,if_true,yc];simp only [yq,if_false];omega
     ·have e10:(c==10)=false:=by simpa using h10
      rw [e10];simp only [Bool.false_and,Bool.false_or,yd,yq,if_false];omega
  ·intro cur h;simp only [List.head?_cons,ya] at h;subst h;have:=ih.1 cur false (fun e=>by cases e);show (10 :: r).count 13+(10 :: r).count 10+1=2*(lineB false cur r).length+((bif (((10:UInt8)==13) && !(r.head? == some 10))||(((10:UInt8)==10) && !true) then 1 else 0)+bareN ((10:UInt8)==13) r);rw [List.count_cons,List.count_cons];simp only [show ((10:UInt8)==13)=false by decide,beq_self_eq_true,Bool.not_true,Bool.and_false,Bool.false_and,Bool.false_or,yd,yq,if_false,if_true];omega
theorem qBy:∀ (s:LU) (f:Nat),s.length < f→cntF [13,10] f s+1=(qaE [] s).length:=by
 apply qqQ (P:=fun s=>∀ (f:Nat),s.length < f→cntF [13,10] f s+1=(qaE [] s).length)
 ·intro f hf;obtain ⟨f,rfl⟩:∃ g,f=g+1:=⟨f - 1,by simp at hf; omega⟩;rfl
 ·intro s _ _ h hi f hf;obtain ⟨f,rfl⟩:∃ g,f=g+1:=⟨f - 1,by omega⟩;show (bif Lib.index s [13,10] == -1 then 0 else _)+1=_;rw [hi,h];rfl
 ·intro s k hk _ h hi ih f hf;obtain ⟨f,rfl⟩:∃ g,f=g+1:=⟨f - 1,by omega⟩;show (bif Lib.index s [13,10] == -1 then 0 else cntF [13,10] f (s.drop ((Lib.index s [13,10]).toNat+2))+1)+1=_;rw [hi,h,show (((k:Nat):Int) == -1)=false by rw [yB]; omega,tn,yg,yd,ih f (by rw [yK]; omega)]
theorem qFo (s:LU):((s.count 13:Nat):Int)+((s.count 10:Nat):Int) - 2*((cntF [13,10] (s.length+1) s:Nat):Int)=((bareN false s:Nat):Int):=by
 have h1:=(qnb s).1 [] false (fun e=>by cases e);have h2:=qBy s (s.length+1) (by omega);unfold qaE at h2;omega
theorem qDy (sep:LU) (h:0 < sep.length):∀ (f:Nat) (s:LU),cntF sep f s≤s.length
 | 0,s=>Nat.zero_le _
 | f+1,s=>by
  show (bif Lib.index s sep == -1 then 0 else cntF sep f (s.drop ((Lib.index s sep).toNat+sep.length))+1)≤_;rcases qjq s sep with e | e
  ·rw [e]; exact Nat.zero_le _
  ·have hr:=Lib.index_room s sep e;rw [show (Lib.index s sep == -1)=false by rw [yB]; omega];have:=qDy sep h f (s.drop ((Lib.index s sep).toNat+sep.length));rw [yK] at this;show cntF sep f _+1≤_;omega
theorem wr' {x:Int} (h : -9223372036854775808≤x∧x≤9223372036854775807):IntKind.wrap .i64 x=x:=IntWalk.i64_in x h
theorem qFp:∀ (s0:LU),(qBl s0=true)→∃ n,qFJ n s0=qDM (z79 s0):=fun s h=>⟨0,by
 have h:lenOk s=true:=h;have hl:=qm h;unfold qFJ;rw [show qeB s [13,10]=true by unfold qeB; rw [h]; rfl,show qjj 13 s=true from h,show qjj 10 (z140 13 s).2=true from h];simp only [yc,yi];have c1:s.count 13≤s.length:=List.count_le_length;have c2:s.count 10≤s.length:=List.count_le_length;have c3:=qDy [13,10] (by decide) (s.length+1) s;rw [show (z140 13 s).1=((s.count 13:Nat):Int) from rfl,show (z140 10 (z140 13 s).2).1=((s.count 10:Nat):Int) from rfl,show z139 s [13,10]=((cntF [13,10] (s.length+1) s:Nat):Int) from rfl];rw [wr' (x:=((s.count 13:Nat):Int)+((s.count 10:Nat):Int)) (by omega),wr' (x:=2*((cntF [13,10] (s.length+1) s:Nat):Int)) (by omega),wr' (by omega),qFo s];rfl⟩
end
section
theorem getDe {α:Type} (l:List α) (d:α) {i:Nat} (h:i < l.length):l.getD i d=l[i]:=by simp [List.getD,h]
theorem qxb (k0:Int→OA) (s:LU) (hl:s.length≤1048576):∀ (d i m n:Nat),i+d=s.length→d < n→m≤i →
 qiH k0 n s (m:Nat) (i:Nat)=k0 ((m+bareN (decide (i≠0)&&(s.getD (i - 1) 0==13)) (s.drop i):Nat):Int)
 | d,i,m,0,_,hn,_=>absurd hn (by omega)
 | 0,i,m,n+1,hi,_,_=>by
  show qga k0 (qiH k0 n) n _ _ _=_;unfold qga;rw [dF (by omega),yA (by omega)];rfl
 | d+1,i,m,n+1,hi,hn,hm=>by
  show qga k0 (qiH k0 n) n _ _ _=_;unfold qga;have hlt:i < s.length:=by omega
  have ih0:=qxb k0 s hl d (i+1) m n (by omega) (by omega) (by omega);have ih1:=qxb k0 s hl d (i+1) (m+1) n (by omega) (by omega) (by omega);have ep:(decide (i+1≠0)&&(s.getD (i+1 - 1) 0==13))=(s[i]==13):=by rw [dT (by omega),Nat.add_sub_cancel,getDe s 0 hlt,y5]
  rw [ep] at ih0 ih1;rw [dT (show ((i:Nat):Int) < ((s.length:Nat):Int) by omega),dT (show (0:Int)≤((i:Nat):Int) by omega),tn,qn (by omega),qn (by omega)];simp only [yc,Bool.and_self];rw [List.drop_eq_getElem_cons hlt,getDe s 0 hlt];show _=k0 ((m+((bif ((s[i]==13) && !((s.drop (i+1)).head? == some 10))||((s[i]==10) && !(decide (i≠0)&&(s.getD (i - 1) 0==13))) then 1 else 0)+bareN (s[i]==13) (s.drop (i+1))):Nat):Int);have e0:qiH k0 n s (m:Nat) ((i+1:Nat):Int)=k0 ((m+(0+bareN (s[i]==13) (s.drop (i+1))):Nat):Int):=by rw [ih0,yE]
  have e1:qiH k0 n s ((m+1:Nat):Int) ((i+1:Nat):Int)=k0 ((m+(1+bareN (s[i]==13) (s.drop (i+1))):Nat):Int):=by rw [ih1,yS]
  rw [e0,e1];generalize bareN (s[i]==13) (s.drop (i+1))=B;have ez:(((i:Nat):Int)==0) = !(decide (i≠0)):=by
   by_cases h:i=0
   ·subst h; rfl
   ·rw [dT h]; simpa using h
  by_cases h13:s[i]=13
  ·rw [h13];simp only [beq_self_eq_true,y5,yc,show ((13:UInt8)==10)=false by decide,Bool.false_and,Bool.or_false,yd]
   by_cases hlast:i+1=s.length
   ·rw [show (((i+1:Nat):Int)==((s.length:Nat):Int))=true by rw [hlast]; exact beq_self_eq_true _,yA (by omega)];rfl
   ·have hlt2:i+1 < s.length:=by omega
    rw [show (((i+1:Nat):Int)==((s.length:Nat):Int))=false by rw [yB]; omega,dT (show (0:Int)≤((i+1:Nat):Int) by omega),dT (show ((i+1:Nat):Int) < ((s.length:Nat):Int) by omega),tn,getDe s 0 hlt2,List.drop_eq_getElem_cons hlt2,List.head?_cons];generalize s[i+1]=y
    by_cases hy:y=10
    ·subst hy; rfl
    ·rw [show (y != 10)=true by simpa using hy,show ((some y==some 10))=false by simpa using hy];rfl
  ·rw [show (s[i]==13)=false by simpa using h13];simp only [Bool.false_and,Bool.false_or,yd]
   by_cases h10:s[i]=10
   ·rw [h10,ez];simp only [beq_self_eq_true,y5,yc]
    by_cases hz:i=0
    ·rw [hz]; rfl
    ·have ew:IntKind.wrap .i64 (((i:Nat):Int) - 1)=((i - 1:Nat):Int):=by rw [wr' (by omega)]; omega
     rw [ew,dT hz,dT (show (0:Int)≤((i - 1:Nat):Int) by omega),dT (show ((i - 1:Nat):Int) < ((s.length:Nat):Int) by omega),tn];simp only [Bool.not_true,yd,y5,Bool.and_self,yc,bne];cases (s.getD (i - 1) 0==13) <;> rfl
   ·rw [show (s[i]==10)=false by simpa using h10];rfl
theorem qFq:∀ (s0:LU),(qBm s0=true)→∃ n,qGa n s0=qEb (z75 s0):=fun s h=>⟨s.length+1,by
 have hl:=qm (show lenOk s=true from h);have:=qxb (qiI (s.length+1)) s hl s.length 0 0 (s.length+1) (by omega) (by omega) (by omega);rw [yE,yw] at this;exact this⟩
theorem qhU (k0:LU→Int→Bool→OA) (s:LU) (most:Int) (hl:s.length≤1048576):∀ (d i:Nat) (a:Bool) (n:Nat),i+d=s.length→d < n →
 qle k0 n s most a s ((s.length:Nat):Int) (i:Nat)=k0 s most (a||(s.drop i).any z78)
 | d,i,a,0,_,hn=>absurd hn (by omega)
 | 0,i,a,n+1,hi,_=>by
  show qfC k0 (qle k0 n) n _ _ _ _ _ _=_;unfold qfC;rw [dF (by omega),yA (by omega),List.any_nil,Bool.or_false];rfl
 | d+1,i,a,n+1,hi,hn=>by
  show qfC k0 (qle k0 n) n _ _ _ _ _ _=_;unfold qfC;have hlt:i < s.length:=by omega
  rw [dT (show ((i:Nat):Int) < ((s.length:Nat):Int) by omega),dT (show (0:Int)≤((i:Nat):Int) by omega),tn,qn (by omega)];simp only [yc,Bool.and_self];rw [List.drop_eq_getElem_cons hlt,getDe s 0 hlt,List.any_cons,qhU k0 s most hl d (i+1) _ n (by omega) (by omega),qhU k0 s most hl d (i+1) _ n (by omega) (by omega)];cases a <;> rfl
theorem has0 (s:LU) (c:UInt8):decide ((0:Int)≤z80 s c)=s.contains c:=by
 show decide ((0:Int)≤Lib.indexByte s c)=_;have hge:=Lib.indexByte_ge s c
 by_cases h:Lib.indexByte s c = -1
 ·rw [h,show decide ((0:Int) ≤ -1)=false from rfl];refine (Bool.eq_false_iff.2 fun hc=>?_).symm;obtain ⟨k,hk,e⟩:=List.getElem_of_mem (List.contains_iff_mem.1 hc);exact Lib.indexByte_none h k (by rw [yO hk,e])
 ·rw [dT (by omega)];obtain ⟨o,ho⟩:∃ o:Nat,Lib.indexByte s c=o:=⟨(Lib.indexByte s c).toNat,by omega⟩;have:=(Lib.indexByte_some ho).1;exact (List.contains_iff_mem.2 (List.mem_of_getElem? this)).symm
theorem qxc (most:Int):∀ (l:List LU) (m:Nat),decide (most < ((maxL l m:Nat):Int))=(decide (most < ((m:Nat):Int))||l.any fun x=>decide (most < ((x.length:Nat):Int)))
 | [],m=>by rw [List.any_nil,Bool.or_false]; rfl
 | x :: l,m=>by
  show decide (most < ((maxL l (max m x.length):Nat):Int))=_;rw [qxc most l,List.any_cons,← Bool.or_assoc];congr 1;rw [Bool.eq_iff_iff];simp only [yR,ym];omega
theorem qFr:∀ (s0:LU) (most1:Int),(qsZ s0 most1=true)→∃ n,qFL n s0 most1=qid (z37 s0 most1):=fun s most h=>⟨s.length+1,by
 unfold qsZ at h;simp only [yf,ym] at h;have hl:=qm h.1;have e:=qhU (qfD (s.length+1)) s most hl s.length 0 false (s.length+1) (by omega) (by omega);refine e.trans ?_;rw [yw,Bool.false_or];unfold qfD z37;rw [show qBl s=true from h.1,show qBn s=true from h.1,has0,show z79 s=((bareN false s:Nat):Int) from rfl,show decide ((0:Int) < ((bareN false s:Nat):Int))=decide (0 < bareN false s) by rw [Bool.eq_iff_iff]; simp,show z81 s=((maxL (z142 s) 0:Nat):Int) from rfl,qxc,dF (show ¬ most < ((0:Nat):Int) by omega),Bool.false_or];simp only [yi,yc];cases decide (0 < bareN false s)
 ·cases s.contains 0
  ·cases s.any z78
   ·by_cases hs:s=[]
    ·subst hs; rfl
    ·have:=List.length_pos_iff.2 hs;rw [dT (show (0:Int) < ((s.length:Nat):Int) by omega)];cases (z142 s).any fun x=>decide (most < ((x.length:Nat):Int)) <;> rfl
   ·rfl
  ·rfl
 ·rfl⟩
theorem qDz (ret:Int→OA) (k2:OA) (most:Int) (l:List LU) (hl:l.length≤1048576):∀ (d i n:Nat),i+d=l.length→d < n →
 qfc ret k2 n most l (i:Nat)=bif (l.drop i).any (fun x=>decide (most < ((x.length:Nat):Int))) then ret 12 else k2
 | d,i,0,_,hn=>absurd hn (by omega)
 | 0,i,n+1,hi,_=>by
  show qdB ret k2 (qfc ret k2 n) n _ _ _=_;unfold qdB;rw [dF (by omega),yA (by omega),List.any_nil];rfl
 | d+1,i,n+1,hi,hn=>by
  show qdB ret k2 (qfc ret k2 n) n _ _ _=_;unfold qdB;have hlt:i < l.length:=by omega
  rw [dT (show ((i:Nat):Int) < ((l.length:Nat):Int) by omega),dT (show (0:Int)≤((i:Nat):Int) by omega),tn,qn (by omega)];simp only [yc,Bool.and_self];rw [List.drop_eq_getElem_cons hlt,getDe l [] hlt,List.any_cons,qDz ret k2 most l hl d (i+1) n (by omega) (by omega)];cases decide (most < ((l[i].length:Nat):Int)) <;> rfl
theorem lt127 (c:UInt8):decide ((127:UInt8) < c)=z78 c:=by
 unfold z78;rw [Bool.eq_iff_iff];simp only [ym,UInt8.lt_iff_toNat_lt,UInt8.le_iff_toNat_le];show 127 < c.toNat↔128≤c.toNat;omega
theorem qFs (ret:Int→OA) (k0:LU→Int→Bool→OA) (s:LU) (most:Int) (hl:s.length≤1048576):∀ (d i:Nat) (a:Bool) (n:Nat),i+d=s.length→d < n →
 qlq ret k0 n s most a (i:Nat)=bif (s.drop i).contains 0 then ret 8 else k0 s most (a||(s.drop i).any z78)
 | d,i,a,0,_,hn=>absurd hn (by omega)
 | 0,i,a,n+1,hi,_=>by
  show qgb ret k0 (qlq ret k0 n) n _ _ _ _=_;unfold qgb;rw [dF (by omega),yA (by omega),List.any_nil,Bool.or_false];rfl
 | d+1,i,a,n+1,hi,hn=>by
  show qgb ret k0 (qlq ret k0 n) n _ _ _ _=_;unfold qgb;have hlt:i < s.length:=by omega
  rw [dT (show ((i:Nat):Int) < ((s.length:Nat):Int) by omega),dT (show (0:Int)≤((i:Nat):Int) by omega),tn,qn (by omega)];simp only [yc,Bool.and_self];rw [List.drop_eq_getElem_cons hlt,getDe s 0 hlt,List.any_cons,List.contains_cons,lt127,qFs ret k0 s most hl d (i+1) _ n (by omega) (by omega),qFs ret k0 s most hl d (i+1) _ n (by omega) (by omega)];rw [show (s[i]==0)=(0==s[i]) from Bool.beq_comm ..];cases (0==s[i]) <;> cases a <;> simp
theorem qFt:∀ (s0:LU) (most1:Int),(qta s0 most1=true)→∃ n,qGc n s0 most1=qdP (z35 s0 most1):=fun s most h=>⟨s.length+1,by
 unfold qta at h;simp only [yf,ym] at h;have hl:=qm h.1;have hs:=(qqR s).1;have e:=qFs qdP (qee (s.length+1)) s most hl s.length 0 false (s.length+1) (by omega) (by omega);refine e.trans ?_;have e2:=qDz qdP (qfd (s.length+1)) most (z142 s) (by omega) (z142 s).length 0 (s.length+1) (by omega) (by omega);rw [yw,Bool.false_or];unfold qee z35 z37;rw [show qBm s=true from h.1,show qzR s=true from h.1,show z76 s=z142 s from rfl,show z75 s=((bareN false s:Nat):Int) from rfl,show decide ((0:Int) < ((bareN false s:Nat):Int))=decide (0 < bareN false s) by rw [Bool.eq_iff_iff]; simp];rw [show ((0:Int))=((0:Nat):Int) from rfl,e2,yw];simp only [yi,yc];cases decide (0 < bareN false s) <;> cases s.contains 0 <;> cases s.any z78 <;> cases (z142 s).any (fun x=>decide (most < ((x.length:Nat):Int))) <;> rfl⟩
end
section
theorem qhV (f:Nat) (l:LU) (h:l≠[]):wrapS (f+1) l=(l.take 76++[13,10])++wrapS f (l.drop 76):=by
 show (bif l.isEmpty then [] else (l.take 76++[13,10])++wrapS f (l.drop 76))=_;cases l with
 | nil=>exact absurd rfl h
 | cons x r=>rfl
theorem qBz (f:Nat):wrapS f []=[]:=by cases f <;> rfl
theorem qqS (k0:LU→OA):∀ (f:Nat) (c out:LU) (n:Nat),c.length≤f→f < n→c.length≤1048576→out.length+3*c.length≤90000000→qnd k0 n c out=k0 (out++wrapS f c)
 | f,c,out,0,_,hn,_,_=>absurd hn (by omega)
 | 0,c,out,n+1,h,_,_,_=>by
  obtain rfl:=yF (Nat.le_zero.1 h);rw [show wrapS 0 []=[] from rfl,yG];rfl
 | f+1,c,out,n+1,h,hn,hl,ho=>by
  by_cases hc:c=[]
  ·subst hc;rw [qBz,yG];rfl
  show qlf k0 (qnd k0 n) n c out=_;unfold qlf qdp qaR;have hp:=List.length_pos_iff.2 hc;have em:(bif decide ((76:Int) < ((c.length:Nat):Int)) then (76:Int) else ((c.length:Nat):Int))=((min 76 c.length:Nat):Int):=by
   by_cases h76:76 < c.length
   ·rw [dT (by omega),Nat.min_eq_left (by omega)]; rfl
   ·rw [dF (by omega),Nat.min_eq_right (by omega)]; rfl
  rw [em,dT (show (0:Int) < ((c.length:Nat):Int) by omega)];simp only [tn];have et:c.take (min 76 c.length)=c.take 76:=by
   by_cases h76:76≤c.length
   ·rw [Nat.min_eq_left h76]
   ·rw [Nat.min_eq_right (by omega),List.take_length,List.take_of_length_le (by omega)]
  have ed:(c.take c.length).drop (min 76 c.length)=c.drop 76:=by
   rw [List.take_length]
   by_cases h76:76≤c.length
   ·rw [Nat.min_eq_left h76]
   ·rw [Nat.min_eq_right (by omega),List.drop_length,yA (by omega)]
  rw [et,ed,yw];have h1:(c.take 76).length≤76:=by rw [yz]; omega
  rw [dT (show (0:Int)≤((0:Nat):Int) by omega),dT (show ((0:Nat):Int)≤((min 76 c.length:Nat):Int) by omega),dT (show ((min 76 c.length:Nat):Int)≤((c.length:Nat):Int) by omega),dT (show (0:Int)≤((min 76 c.length:Nat):Int) by omega),dT (show ((c.length:Nat):Int)≤((c.length:Nat):Int) by omega),
   dT (show out.length+(c.take 76).length≤room by unfold room; omega),dT (show (out++c.take 76).length+([13,10]:LU).length≤room by unfold room; rw [yn]; show _+2≤_; omega)]
  simp only [Bool.and_self,yc];rw [qqS k0 f (c.drop 76) _ n (by rw [yK]; omega) (by omega) (by rw [yK]; omega) (by rw [yn,yn,yK,yz]; show _+2+_≤_; omega),qhV f c hc];simp only [yl]
theorem lay_n (s:LU):(z74 s).length≤2*s.length+8:=by
 unfold z74 padTo;rw [yn,yQ,qyE];unfold qaJ;omega
theorem qFu:∀ (s0:LU),(qsY s0=true)→∃ n,qBG n s0=qDQ (z64 s0):=fun s h=>⟨(z123 s).length+1,by
 have h:s.length≤65536:=by simpa [qsY] using h
 have hn:(z123 s).length≤2*s.length+8:=lay_n s;unfold qBG;rw [show quH s=true from qau (by omega)];exact qqS (qih ((z123 s).length+1)) (z123 s).length (z123 s) [] ((z123 s).length+1) (yv _) (by omega) (by omega) (by simp; omega)⟩
def tailW:Nat→LU→LU
 | _,[]=>[]
 | j,x :: r=>x :: (bif (j==75)||r.isEmpty then 13 :: 10 :: tailW 0 r else tailW (j+1) r)
theorem qxd:∀ (l:LU) (j:Nat),j≤75→l≠[]→tailW j l=l.take (76 - j)++13 :: 10 :: tailW 0 (l.drop (76 - j))
 | [],_,_,h=>absurd rfl h
 | x :: r,j,hj,_=>by
  obtain ⟨m,hm⟩:∃ m,76 - j=m+1:=⟨75 - j,by omega⟩;rw [hm,List.take_succ_cons,List.drop_succ_cons];show x :: (bif (j==75)||r.isEmpty then 13 :: 10 :: tailW 0 r else tailW (j+1) r)=_
  by_cases h75:j=75
  ·subst h75;obtain rfl:m=0:=by omega
   rfl
  ·rw [show (j==75)=false by simpa using h75];cases r with
   | nil=>simp [tailW]
   | cons y r =>
    have:=qxd (y :: r) (j+1) (by omega) (by simp);rw [show 76 - (j+1)=m by omega] at this;show x :: tailW (j+1) (y :: r)=_;rw [this];rfl
theorem qqT:∀ (f:Nat) (l:LU),l.length≤f→wrapS f l=tailW 0 l
 | 0,l,h=>by
  obtain rfl:=yF (Nat.le_zero.1 h);rfl
 | f+1,l,h=>by
  by_cases hl:l=[]
  ·subst hl; rfl
  ·have:=List.length_pos_iff.2 hl;rw [qhV f l hl,qxd l 0 (by omega) hl,qqT f _ (by rw [yK]; omega)];simp only [yl];rfl
theorem qFv (i:Nat):Int.tmod ((i:Nat):Int) 76=((i % 76:Nat):Int):=rfl
theorem qoQ (k0:LU→OA) (c:LU) (hl:c.length≤1048576):∀ (d i:Nat) (out:LU) (n:Nat),i+d=c.length→d < n→out.length≤3*i →
 qlp k0 n c out (i:Nat)=k0 (out++tailW (i % 76) (c.drop i))
 | d,i,out,0,_,hn,_=>absurd hn (by omega)
 | 0,i,out,n+1,hi,_,_=>by
  show qfZ k0 (qlp k0 n) n c out _=_;unfold qfZ qbm qay;rw [dF (by omega),yA (by omega),show tailW (i % 76) []=[] by unfold tailW; rfl,yG];rfl
 | d+1,i,out,n+1,hi,hn,ho=>by
  show qfZ k0 (qlp k0 n) n c out _=_;unfold qfZ qbm qay;have hlt:i < c.length:=by omega
  rw [dT (show ((i:Nat):Int) < ((c.length:Nat):Int) by omega),dT (show (0:Int)≤((i:Nat):Int) by omega),tn,qn (by omega),qFv];simp only [yc,Bool.and_self];rw [List.drop_eq_getElem_cons hlt,getDe c 0 hlt,dT (show out.length+([c[i]]:LU).length≤room by unfold room; show _+1≤_; omega),dT (show (out++[c[i]]).length+([13,10]:LU).length≤room by unfold room; rw [yn]; show _+1+2≤_; omega)];simp only [yc];have e:tailW (i % 76) (c[i] :: c.drop (i+1))=c[i] :: (bif (i % 76==75)||(c.drop (i+1)).isEmpty then 13 :: 10 :: tailW 0 (c.drop (i+1)) else tailW (i % 76+1) (c.drop (i+1))):=rfl;rw [e];have i1:=qoQ k0 c hl d (i+1) ((out++[c[i]])++[13,10]) n (by omega) (by omega) (by rw [yn,yn]; show _+1+2≤_; omega);have i2:=qoQ k0 c hl d (i+1) (out++[c[i]]) n (by omega) (by omega) (by rw [yn]; show _+1≤_; omega);have ew:IntKind.wrap .i64 (((c.length:Nat):Int) - 1)=((c.length - 1:Nat):Int):=by rw [wr' (by omega)]; omega
  rw [ew]
  by_cases h75:i % 76=75
  ·rw [h75,show ((((75:Nat):Int))==75)=true from rfl,yc,i1,show (i+1) % 76=0 by omega];simp only [beq_self_eq_true,Bool.true_or,yc,yl,List.cons_append,List.nil_append]
  ·rw [show (((i % 76:Nat):Int)==75)=false by rw [yB]; omega,show (i % 76==75)=false by rw [yB]; exact h75]
   by_cases hlast:i+1=c.length
   ·rw [show (((i:Nat):Int)==((c.length - 1:Nat):Int))=true by rw [beq_iff_eq]; omega,i1,yA (by omega)];have:∀ j,tailW j []=[]:=fun j=>by unfold tailW; rfl
    rw [this,this];simp
   ·rw [show (((i:Nat):Int)==((c.length - 1:Nat):Int))=false by rw [yB]; omega,i2,show (i+1) % 76=i % 76+1 by omega];have:(c.drop (i+1)).isEmpty=false:=by rw [List.isEmpty_eq_false_iff]; intro e; have:=congrArg List.length e; rw [yK] at this; simp at this; omega
    rw [this];simp
theorem qFw:∀ (s0:LU),(qwY s0=true)→∃ n,qBR n s0=qEa (z34 s0):=fun s h=>⟨(z74 s).length+1,by
 have h:s.length≤65536:=by simpa [qwY] using h
 have hn:=lay_n s;unfold qBR;rw [show qsi s=true by unfold qsi; exact dT (by omega)];have:=qoQ (qiG ((z74 s).length+1)) (z74 s) (by omega) (z74 s).length 0 [] ((z74 s).length+1) (by omega) (by omega) (by simp);refine this.trans ?_;unfold z34 z64;rw [show z123 s=z74 s from rfl,qqT _ _ (yv _)];rfl⟩
end
section
set_option linter.unusedSimpArgs false
end
section
theorem qFx:∀ (s0:LU),(qBq s0=true)→∃ n,qFM n s0=qDO (z60 s0).1 (z60 s0).2:=fun s h=>⟨0,by
 unfold qFM;rw [show qsZ s 76=true by unfold qsZ; rw [show lenOk s=true from h]; rfl];rfl⟩
theorem qFy:∀ (s0:LU),(qBr s0=true)→∃ n,qFN n s0=qDP (z61 s0).1 (z61 s0).2:=fun s h=>⟨0,by
 unfold qFN;rw [show qBB s=true from h];rfl⟩
theorem qFz:∀ (s0:LU),(qBs s0=true)→∃ n,qFO n s0=qDR (z63 s0).1 (z63 s0).2:=fun s h=>⟨0,by
 unfold qFO;rw [show qsY s=true from h];rfl⟩
theorem qFA:∀ (coding0:Int),∃ n r,qFP n coding0=some r∧Picks (z30 coding0) r:=fun k=>by
 refine ⟨0,?_⟩;unfold qFP z30;cases h1:(k==(1:Int))
 ·cases h2:(k==(2:Int))
  ·cases h3:(k==(3:Int))
   ·exact ⟨_,rfl,(fun e=>by cases e),fun _=>⟨(fun e=>by cases e),fun _=>⟨(fun e=>by cases e),fun _=>rfl⟩⟩⟩
   ·exact ⟨_,rfl,(fun e=>by cases e),fun _=>⟨(fun e=>by cases e),fun _=>⟨(fun _=>rfl),fun e=>by cases e⟩⟩⟩
  ·exact ⟨_,rfl,(fun e=>by cases e),fun _=>⟨(fun _=>rfl),fun e=>by cases e⟩⟩
 ·exact ⟨_,rfl,(fun _=>rfl),fun e=>by cases e⟩
end
section
theorem qLE {cs:Int} {t:LI} (h:t.length≤16384):(z31 cs t).1.length≤65536:=yL (qnm cs t) (by omega)
theorem qFB:∀ (coding0:Int) (charset1:Int) (t2:LI),(qoN coding0 charset1 t2=true)→∃ n,qFT n coding0 charset1 t2=qdd (z13 coding0 charset1 t2).1 (z13 coding0 charset1 t2).2:=fun k cs t h=>⟨0,by
 have h:t.length≤16384:=by simpa [qoN] using h
 have hc:=qLE (cs:=cs) h;unfold qFT z13;rw [show qsh cs t=true from qau (by omega)];generalize z31 cs t=r at hc ⊢;rw [show qBq r.1=true from qau (by omega),show qBr r.1=true from qau (by omega),show qBs r.1=true from dT hc];unfold z60 z61 z63
 by_cases h1:k=1
 ·subst h1;cases (r.2 != (0:Int)) <;> cases (z37 r.1 76 != (0:Int)) <;> rfl
 by_cases h2:k=2
 ·subst h2;cases (r.2 != (0:Int)) <;> rfl
 by_cases h3:k=3
 ·subst h3;cases (r.2 != (0:Int)) <;> rfl
 rw [show (k==(1:Int))=false by simpa using h1,show (k==(2:Int))=false by simpa using h2,show (k==(3:Int))=false by simpa using h3];rfl⟩
theorem qFC:∀ (coding0:Int) (charset1:Int) (t2:LI),(qtb coding0 charset1 t2=true)→∃ n,qGd n coding0 charset1 t2=qgo (z14 coding0 charset1 t2).1 (z14 coding0 charset1 t2).2:=fun k cs t h=>⟨0,by
 unfold qtb at h;simp only [yf,ym] at h;have h32:=h.2;have h:=h.1;have hc:=qLE (cs:=cs) h;unfold qGd z14 z13;rw [show qzN cs t=true from qau (by omega),← qOv cs t h32];generalize z31 cs t=r at hc ⊢;rw [show qBC r.1=true from qau (by omega),show qwY r.1=true from dT hc,show qta r.1 76=true by unfold qta; rw [qau (by omega)]; rfl];unfold z33 z34 z35
 by_cases h1:k=1
 ·subst h1;cases (r.2 != (0:Int)) <;> cases (z37 r.1 76 != (0:Int)) <;> rfl
 by_cases h2:k=2
 ·subst h2;cases (r.2 != (0:Int)) <;> rfl
 by_cases h3:k=3
 ·subst h3;cases (r.2 != (0:Int)) <;> rfl
 rw [show (k==(1:Int))=false by simpa using h1,show (k==(2:Int))=false by simpa using h2,show (k==(3:Int))=false by simpa using h3]
 by_cases h:k < 1
 ·rw [dT h]; rfl
 ·rw [dF h,dT (show (3:Int) < k by omega)]; rfl⟩
theorem qFD:∀ (coding0:Int) (charset1:Int) (t2:LI),(qBt coding0 charset1 t2=true)→∃ n,qGe n coding0 charset1 t2=qEd (z15 coding0 charset1 t2):=fun k cs t h=>⟨0,by
 unfold qGe;rw [show qoN k cs t=true from h];rfl⟩
end
section
def prevO (t:LI) (i:Nat):Option Int:=if i=0 then none else some (t.getD (i - 1) 0)
theorem qDA (k0:LI→OA) (t:LI) (hl:t.length≤1048576):∀ (d i:Nat) (out:LI) (n:Nat),i+d=t.length→d < n→out.length≤2*i →
 qlr k0 n t out t ((t.length:Nat):Int) (i:Nat)=k0 (out++z16_l (prevO t i) (t.drop i))
 | d,i,out,0,_,hn,_=>absurd hn (by omega)
 | 0,i,out,n+1,hi,_,_=>by
  show qgc k0 (qlr k0 n) n t out t _ _=_;unfold qgc qaB qaA qaz;rw [dF (by omega),yA (by omega),show z16_l (prevO t i) []=[] by unfold z16_l; rfl,yG];rfl
 | d+1,i,out,n+1,hi,hn,ho=>by
  show qgc k0 (qlr k0 n) n t out t _ _=_;unfold qgc qaB qaA qaz;have hlt:i < t.length:=by omega
  have ih:=fun (o:LI) (h:o.length≤2*(i+1))=>qDA k0 t hl d (i+1) o n (by omega) (by omega) h;have ep:prevO t (i+1)=some t[i]:=by unfold prevO; rw [if_neg (by omega),Nat.add_sub_cancel,getDe t 0 hlt]
  rw [ep] at ih;rw [dT (show ((i:Nat):Int) < ((t.length:Nat):Int) by omega),dT (show (0:Int)≤((i:Nat):Int) by omega),tn,qn (by omega),getDe t 0 hlt,List.drop_eq_getElem_cons hlt,
   dT (show out.length+([13,10]:LI).length≤room by unfold room; show _+2≤_; omega),dT (show out.length+([t[i]]:LI).length≤room by unfold room; show _+1≤_; omega)]
  simp only [yc,Bool.and_self];rw [ih out (by omega),ih (out++[13,10]) (by rw [yn]; show _+2≤_; omega),ih (out++[t[i]]) (by rw [yn]; show _+1≤_; omega)];show _=k0 (out++((bif (t[i]==10)&&(prevO t i==some 13) then [] else bif (t[i]==13)||(t[i]==10) then [13,10] else [t[i]])++z16_l (some t[i]) (t.drop (i+1))));have ez:decide ((0:Int) < ((i:Nat):Int))=decide (i≠0):=by rw [Bool.eq_iff_iff]; simp; omega
  rw [ez]
  by_cases h10:t[i]=10
  ·rw [h10]
   by_cases hz:i=0
   ·subst hz;simp [prevO]
   ·have ew:IntKind.wrap .i64 (((i:Nat):Int) - 1)=((i - 1:Nat):Int):=by rw [wr' (by omega)]; omega
    rw [ew,dT hz,dT (show (0:Int)≤((i - 1:Nat):Int) by omega),dT (show ((i - 1:Nat):Int) < ((t.length:Nat):Int) by omega),tn,show prevO t i=some (t.getD (i - 1) 0) by unfold prevO; rw [if_neg hz]]
    by_cases hp:t.getD (i - 1) 0=13
    ·rw [hp]; simp
    ·rw [show (t.getD (i - 1) 0==13)=false by simpa using hp,show (some (t.getD (i - 1) 0)==some 13)=false by simpa using hp]; simp
  ·rw [show (t[i]==10)=false by simpa using h10];cases h13:(t[i]==13) <;> simp
theorem qFE:∀ (t0:LI),(qBo t0=true)→∃ n,qGf n t0=qEe (z16 t0):=fun t h=>⟨t.length+1,by
 have hl:=qm (show lenOk t=true from h);exact qDA (qiJ (t.length+1)) t hl t.length 0 [] (t.length+1) (by omega) (by omega) (by simp)⟩
theorem qDB (p:Option Int):z16_l p []=[]:=by unfold z16_l; rfl
theorem qxe (k0:LI→OA) (t:LI) (hl:t.length≤1048576):∀ (d i:Nat) (out:LI) (n:Nat),t.length≤i+d→d < n→out.length≤2*i→((t.drop i).head? = some 10→prevO t i≠some 13) →
 qng k0 n t out (i:Nat)=k0 (out++z16_l (prevO t i) (t.drop i))
 | d,i,out,0,_,hn,_,_=>absurd hn (by omega)
 | d,i,out,n+1,hi,hn,ho,hp=>by
  show qls k0 (qng k0 n) n t out _=_;unfold qls
  by_cases hlt:i < t.length
  ·obtain ⟨d,rfl⟩:∃ e,d=e+1:=⟨d - 1,by omega⟩;have e1:prevO t (i+1)=some t[i]:=by unfold prevO; rw [if_neg (by omega),Nat.add_sub_cancel,getDe t 0 hlt]
   have ih:=fun (o:LI) (h:o.length≤2*(i+1)) (hq:(t.drop (i+1)).head? = some 10→t[i]≠13)=>qxe k0 t hl d (i+1) o n (by omega) (by omega) h (by rw [e1]; intro e1' e2; exact hq e1' (yp e2));rw [e1] at ih;rw [dT (show ((i:Nat):Int) < ((t.length:Nat):Int) by omega),dT (show (0:Int)≤((i:Nat):Int) by omega),tn,qn (show i < 4611686018427387904 by omega),qn (show i+1 < 4611686018427387904 by omega),getDe t 0 hlt,
    dT (show out.length+([13,10]:LI).length≤room by unfold room; show _+2≤_; omega),dT (show out.length+([t[i]]:LI).length≤room by unfold room; show _+1≤_; omega)]
   simp only [yc,Bool.and_self];have ed:t.drop i=t[i] :: t.drop (i+1):=List.drop_eq_getElem_cons hlt;rw [ed] at hp ⊢;have eb:z16_l (prevO t i) (t[i] :: t.drop (i+1))=(bif (t[i]==10)&&(prevO t i==some 13) then [] else bif (t[i]==13)||(t[i]==10) then [13,10] else [t[i]])++z16_l (some t[i]) (t.drop (i+1)):=rfl;rw [eb];have l2:(out++[13,10]).length≤2*(i+1):=by rw [yn]; show _+2≤_; omega
   have l1:(out++[t[i]]).length≤2*(i+1):=by rw [yn]; show _+1≤_; omega
   by_cases h13:t[i]=13
   ·rw [h13]
    by_cases hnx:(t.drop (i+1)).head? = some 10
    ·have hlt2:i+1 < t.length:=by
      apply Nat.lt_of_not_le; intro h; rw [yA h] at hnx; cases hnx
     have ed2:t.drop (i+1)=t[i+1] :: t.drop (i+1+1):=List.drop_eq_getElem_cons hlt2;have h10:t[i+1]=10:=by rw [ed2,List.head?_cons] at hnx; exact yp hnx
     have e2:prevO t (i+1+1)=some 10:=by unfold prevO; rw [if_neg (by omega),Nat.add_sub_cancel,getDe t 0 hlt2,h10]
     have:=qxe k0 t hl d (i+1+1) (out++[13,10]) n (by omega) (by omega) (by omega) (by rw [e2]; intro _ e; exact absurd (yp e) (by decide));rw [dT (show ((i+1:Nat):Int) < ((t.length:Nat):Int) by omega),dT (show (0:Int)≤((i+1:Nat):Int) by omega),tn,getDe t 0 hlt2,ed2,h10];rw [e2] at this;simp only [yc,Bool.and_self,beq_self_eq_true,Bool.true_or];rw [this];simp [z16_l]
    ·rw [ih _ l2 (fun e=>absurd e hnx),h13]
     by_cases hlt2:i+1 < t.length
     ·have ed2:t.drop (i+1)=t[i+1] :: t.drop (i+1+1):=List.drop_eq_getElem_cons hlt2;have h10:t[i+1]≠10:=fun e=>hnx (by rw [ed2,List.head?_cons,e]);rw [dT (show ((i+1:Nat):Int) < ((t.length:Nat):Int) by omega),dT (show (0:Int)≤((i+1:Nat):Int) by omega),tn,getDe t 0 hlt2,show (t[i+1]==10)=false by simpa using h10];simp
     ·rw [dF (show ¬ ((i+1:Nat):Int) < ((t.length:Nat):Int) by omega)];simp
   ·rw [show (t[i]==13)=false by simpa using h13]
    by_cases h10:t[i]=10
    ·have hp':prevO t i≠some 13:=hp (by rw [h10]; rfl);rw [ih _ l2 (fun _=>h13),h10,show (prevO t i==some 13)=false by simpa using hp'];simp
    ·rw [ih _ l1 (fun _=>h13),show (t[i]==10)=false by simpa using h10];simp
  ·rw [dF (show ¬ ((i:Nat):Int) < ((t.length:Nat):Int) by omega),yA (by omega),qDB,yG];rfl
theorem qFF:∀ (t0:LI),(qBp t0=true)→∃ n,qGg n t0=qEf (z17 t0):=fun t h=>⟨t.length+1,by
 have hl:=qm (show lenOk t=true from h);exact qxe (qiK (t.length+1)) t hl t.length 0 [] (t.length+1) (by omega) (by omega) (by simp) (fun _ e=>by cases e)⟩
end
section
set_option linter.unusedSimpArgs false
end
section
theorem qqU:∀ (f:Nat) (l:LU),(wrapS f l).length≤3*l.length
 | 0,l=>Nat.zero_le _
 | f+1,l=>by
  by_cases hl:l=[]
  ·subst hl; exact Nat.zero_le _
  ·have:=List.length_pos_iff.2 hl;have ih:=qqU f (l.drop 76);rw [qhV f l hl,yn,yn,yz];rw [yK] at ih;show min 76 l.length+2+_≤_;omega
theorem qFG (s:LU) (hl:s.length≤1048576):(z62 s).length≤6*s.length+3:=by
 have hp:=qyO s hl;unfold z62 pDone;generalize layS 0 s ([],(0,()))=p at hp ⊢;have h1:=(qnq hp true).1;have h0:=hp.1;cases decide ((0:Int) < p.2.1)
 ·exact yL h0 (by omega)
 ·exact h1
theorem qFH (k cs:Int) (t:LI) (h:t.length≤4096):(z13 k cs t).1.length≤300000:=by
 have hc:=qnm cs t;have h1:=qFG (z31 cs t).1 (by omega);have h2:=qqU (z123 (z31 cs t).1).length (z123 (z31 cs t).1);have h3:(z123 (z31 cs t).1).length≤2*(z31 cs t).1.length+8:=lay_n _;have h4:(z64 (z31 cs t).1).length≤3*(z123 (z31 cs t).1).length:=h2;unfold z13;cases !((k==1)||((k==2)||(k==3)))
 ·cases (z31 cs t).2 != 0
  ·cases k==2
   ·cases k==3
    ·cases z37 (z31 cs t).1 76 != 0
     ·show (z31 cs t).1.length≤_;omega
     ·exact Nat.zero_le _
    ·show (z64 (z31 cs t).1).length≤_;omega
   ·show (z62 (z31 cs t).1).length≤_;omega
  ·exact Nat.zero_le _
 ·exact Nat.zero_le _
end
section
theorem layok {k cs:Int} {t:LI} (h:t.length≤4096):qoN k cs t=true:=dT (show t.length≤16384 by omega)
end
section
set_option linter.unusedSimpArgs false
end
end Go.Av
