import Derived.Test.YtmdadpepccbpcaaGreatDoorPoT3
namespace Go.Av
set_option linter.unusedSimpArgs false
set_option linter.unusedVariables false
section
set_option linter.unusedVariables false
end
section
variable {s:LU}
theorem qFb (x:LU) (l:List LU) (h:l≠[]):(qar (x :: l)).1=x :: (qar l).1:=by
 cases l with
 | nil=>exact absurd rfl h
 | cons y l=>rfl
theorem qnM (s:LU) {k:Nat} (h:qaA [] s=s.take k :: qaA [] (s.drop (k+2))):z142 s=s.take k :: z142 (s.drop (k+2)):=by
 unfold z142;rw[h,qFb _ _ (qid _ _)]
theorem qnN (hs:s≠[]) (h:qaA [] s=[s]):z142 s=[s]:=by
 unfold z142;rw[h];show (if s=[] then (([]:List LU),true) else ([s],false)).1=[s];rw[if_neg hs]
theorem cutok (hl:s.length≤1048576):qjS s [13,10]=true:=by unfold qjS lenOk;rw[dT hl];rfl
theorem qiU (k0:List LU→OA):∀ (d:Nat) (s:LU) (out:List LU) (n:Nat),s.length≤d→d < n→s.length≤1048576→out.length+s.length≤1048576→qhn k0 n s out=k0 (out++z142 s)
 | d,s,out,0,_,hn,_,_=>absurd hn (by omega)
 | d,[],out,n+1,_,_,_,_=>by
  rw[show z142 []=[] from rfl,yG];rfl
 | 0,c :: s,out,n+1,h,_,_,_=>absurd h (by simp)
 | d+1,c :: r,out,n+1,h,hn,hl,ho=>by
  obtain⟨s,hs⟩:∃ s,c :: r=s:=⟨_,rfl⟩;rw[hs] at h hl ho ⊢;have hne:s≠[]:=fun e=>by rw[e] at hs;cases hs
  have hpos:0 < s.length:=List.length_pos_iff.2 hne;have hstep:qhn k0 (n+1) s out=qhV k0 (qhn k0 n) n s out:=rfl;rw[hstep];unfold qhV qbg;rw[cutok hl];rw[dT (show (0:Int) < ((s.length:Nat):Int) by omega)];simp only[yc,yi];rw[dT (show List.length out+List.length ([z153 (z82 s [13,10]).1]:List LU)≤room by unfold room;rw[List.length_singleton];omega)];rcases qha s with ⟨h1,h2,_⟩ | ⟨k,h0,h1,h2,_⟩
  ·rw[h1,show qeu s=true by unfold qeu lenOk;rw[dT hl],qnN hne h2];simp only[yc];have:=qiU k0 d [] (out++[s]) n (by simp) (by omega) (by simp) (by rw[yn,List.length_singleton];simp;omega);rw[show z142 []=[] from rfl,yG] at this;exact this
  ·rw[h1,show qeu (s.take k)=true by unfold qeu lenOk;rw[yz,dT (by omega)],qnM s h2];simp only[yc];have:=qiU k0 d (s.drop (k+2)) (out++[s.take k]) n (by rw[yK];omega) (by omega) (by rw[yK];omega) (by rw[yn,List.length_singleton,yK];omega);rw[yl] at this;exact this
theorem qFc:∀ (s0:LU),(qsw s0=true)→∃ n,qsU n s0=qAm (z142 s0):=fun s h=>⟨s.length+1,by
 unfold qsU;rw[qiU _ s.length s [] _ (yv _) (Nat.lt_succ_self _) (qd h) (by simpa using qd h)];rfl⟩
theorem qsx {P:LU→Prop} (h0:P []) (h1:∀ s,s≠[]→z82 s [13,10]=(s,[],false)→qaA [] s=[s]→Lib.index s [13,10] = -1→P s)
 (h2:∀ (s:LU) (k:Nat),k+2≤s.length→z82 s [13,10]=(s.take k,s.drop (k+2),true)→qaA [] s=s.take k :: qaA [] (s.drop (k+2))→Lib.index s [13,10]=k→P (s.drop (k+2))→P s):∀ s,P s:=by
 intro s;obtain⟨d,hd⟩:∃ d,s.length≤d:=⟨_,yv _⟩;induction d generalizing s with
 | zero =>
  obtain rfl:=yF (Nat.le_zero.1 hd);exact h0
 | succ d ih =>
  by_cases hs:s=[]
  ·subst hs;exact h0
  ·rcases qha s with ⟨k1,k2,k3⟩ | ⟨k,k0,k1,k2,k3⟩
   ·exact h1 s hs k1 k2 k3
   ·exact h2 s k k0 k1 k2 k3 (ih _ (by rw[yK];omega))
theorem qsy:∀ s:LU,(z142 s).length≤s.length∧∀ l∈z142 s,l.length≤s.length:=by
 apply qsx
 ·exact⟨yv _,fun l h=>by cases h⟩
 ·intro s hs _ h _;rw[qnN hs h];have:=List.length_pos_iff.2 hs;exact⟨by rw[List.length_singleton];omega,fun l h=>by rw[List.mem_singleton.1 h];exact yv _⟩
 ·intro s k hk _ h _ ih;rw[qnM s h];rw[yK] at ih;refine⟨by rw[yg];omega,fun l hl=>?_⟩;rcases List.mem_cons.1 hl with rfl | hl
  ·rw[yz];omega
  ·have:=ih.2 l hl;omega
theorem qiV (k0:Int→OA) (l:List LU) (hl:l.length≤1048576):∀ (d i m n:Nat),i+d=l.length→d < n→qnU k0 n (m:Nat) l ((l.length:Nat):Int) (i:Nat)=k0 ((maxL (l.drop i) m:Nat):Int)
 | d,i,m,0,_,hn=>absurd hn (by omega)
 | 0,i,m,n+1,hi,_=>by
  show qgz k0 (qnU k0 n) n _ _ _ _=_;unfold qgz;rw[dF (by omega),yA (by omega)];rfl
 | d+1,i,m,n+1,hi,hn=>by
  show qgz k0 (qnU k0 n) n _ _ _ _=_;unfold qgz;have hlt:i < l.length:=by omega
  rw[dT (show ((i:Nat):Int) < ((l.length:Nat):Int) by omega),dT (show (0:Int)≤((i:Nat):Int) by omega),tn,qj (by omega)];simp only[yc,Bool.and_self];rw[List.drop_eq_getElem_cons hlt];have e:l.getD i []=l[i]:=by simp[List.getD,hlt]
  rw[e];have e2:(bif decide (((l[i].length:Nat):Int) > ((m:Nat):Int)) then ((l[i].length:Nat):Int) else ((m:Nat):Int))=((max m l[i].length:Nat):Int):=by
   by_cases hc:m < l[i].length
   ·rw[dT (show ((l[i].length:Nat):Int) > ((m:Nat):Int) by omega),Nat.max_eq_right (by omega)];rfl
   ·rw[dF (show ¬ ((l[i].length:Nat):Int) > ((m:Nat):Int) by omega),Nat.max_eq_left (by omega)];rfl
  rw[e2,qiV k0 l hl d (i+1) _ n (by omega) (by omega)];rfl
theorem qLf:∀ (s0:LU),(qEW s0=true)→∃ n,qFs n s0=qHL (z81 s0):=fun s h=>⟨(z142 s).length+1,by
 unfold qFs;rw[show qsw s=true from h];have hl:=qd (show lenOk s=true from h);have:=(qsy s).1;simp only[yc,yi];have e:=qiV (qqE ((z142 s).length+1)) (z142 s) (by omega) (z142 s).length 0 0 ((z142 s).length+1) (by omega) (by omega);exact e⟩
theorem qLg:∀ (c0:UInt8),∃ n,qTD n c0=qzM (z78 c0):=fun _=>⟨0,rfl⟩
theorem qFd (h:lenOk s=true) (c:UInt8):qfz s [c]=true:=by unfold qfz;rw[h];rfl
theorem qFe:∀ (c0:UInt8) (x1:LU),(qko c0 x1=true)→∃ n,qAk n c0 x1=qAj (z140 c0 x1).1 (z140 c0 x1).2:=fun c s h=>⟨0,by
 unfold qAk;rw[qFd (show lenOk s=true from h)];rfl⟩
theorem qnO:∀ (s:LU),(∀ (cur:LU) (p:Bool),(p=true→s.head? ≠ some 10)→s.count 13+s.count 10+2=2*(lineB false cur s).length+bareN p s) ∧
 (∀ cur:LU,s.head? = some 10→s.count 13+s.count 10+1=2*(lineB true cur s).length+bareN true s)
 | []=>⟨fun cur p _=>rfl,fun cur h=>by cases h⟩
 | c :: r=>by
  have ih:=qnO r;constructor
  ·intro cur p hp;show (c :: r).count 13+(c :: r).count 10+2=2*(if c=13∧r.head? = some 10 then cur :: lineB true [] r else lineB false (cur++[c]) r).length+((bif ((c==13) && !(r.head? == some 10))||((c==10) && !p) then 1 else 0)+bareN (c==13) r)
   by_cases h:c=13∧r.head? = some 10
   ·rw[if_pos h];obtain⟨rfl,h⟩:=h;have:=ih.2 [] h;rw[h,yg,List.count_cons,List.count_cons];simp only[beq_self_eq_true,Bool.not_true,Bool.and_false,Bool.false_or,if_true,show ((13:UInt8)==10)=false by decide,Bool.false_and,yd];simp only[yq,if_false];omega
   ·rw[if_neg h];have:=ih.1 (cur++[c]) (c==13) (fun e h'=>h ⟨by simpa using e,h'⟩);rw[List.count_cons,List.count_cons]
    by_cases h13:c=13
    ·subst h13;have hh:(r.head? == some 10)=false:=by simpa using fun e=>h ⟨rfl,e⟩
     rw[hh];simp only[beq_self_eq_true,Bool.not_false,yi,Bool.true_or,if_true,yc,show ((13:UInt8)==10)=false by decide] at this ⊢;simp only[yq,if_false];omega
    ·have e13:(c==13)=false:=by simpa using h13
     rw[e13] at this ⊢
     by_cases h10:c=10
     ·subst h10;have hpf:p=false:=by
       cases p with
       | false=>rfl
       | true=>exact absurd rfl (hp rfl)
      subst hpf;simp only[beq_self_eq_true,Bool.not_false,yi,Bool.false_and,Bool.false_or,if_true,yc];simp only[yq,if_false];omega
     ·have e10:(c==10)=false:=by simpa using h10
      rw[e10];simp only[Bool.false_and,Bool.false_or,yd,yq,if_false];omega
  ·intro cur h;simp only[List.head?_cons,ya] at h;subst h;have:=ih.1 cur false (fun e=>by cases e);show (10 :: r).count 13+(10 :: r).count 10+1=2*(lineB false cur r).length+((bif (((10:UInt8)==13) && !(r.head? == some 10))||(((10:UInt8)==10) && !true) then 1 else 0)+bareN ((10:UInt8)==13) r);rw[List.count_cons,List.count_cons];simp only[show ((10:UInt8)==13)=false by decide,beq_self_eq_true,Bool.not_true,Bool.and_false,Bool.false_and,Bool.false_or,yd,yq,if_false,if_true];omega
theorem qFf:∀ (s:LU) (f:Nat),s.length < f→cntF [13,10] f s+1=(qaA [] s).length:=by
 apply qsx (P:=fun s=>∀ (f:Nat),s.length < f→cntF [13,10] f s+1=(qaA [] s).length)
 ·intro f hf;obtain⟨f,rfl⟩:∃ g,f=g+1:=⟨f - 1,by simp at hf;omega⟩;rfl
 ·intro s _ _ h hi f hf;obtain⟨f,rfl⟩:∃ g,f=g+1:=⟨f - 1,by omega⟩;show (bif Lib.index s [13,10] == -1 then 0 else _)+1=_;rw[hi,h];rfl
 ·intro s k hk _ h hi ih f hf;obtain⟨f,rfl⟩:∃ g,f=g+1:=⟨f - 1,by omega⟩;show (bif Lib.index s [13,10] == -1 then 0 else cntF [13,10] f (s.drop ((Lib.index s [13,10]).toNat+2))+1)+1=_;rw[hi,h,show (((k:Nat):Int) == -1)=false by rw[yB];omega,tn,yg,yd,ih f (by rw[yK];omega)]
theorem qLh (s:LU):((s.count 13:Nat):Int)+((s.count 10:Nat):Int) - 2*((cntF [13,10] (s.length+1) s:Nat):Int)=((bareN false s:Nat):Int):=by
 have h1:=(qnO s).1 [] false (fun e=>by cases e);have h2:=qFf s (s.length+1) (by omega);unfold qaA at h2;omega
theorem qHI (sep:LU) (h:0 < sep.length):∀ (f:Nat) (s:LU),cntF sep f s≤s.length
 | 0,s=>Nat.zero_le _
 | f+1,s=>by
  show (bif Lib.index s sep == -1 then 0 else cntF sep f (s.drop ((Lib.index s sep).toNat+sep.length))+1)≤_;rcases qeo s sep with e | e
  ·rw[e];exact Nat.zero_le _
  ·have hr:=Lib.index_room s sep e;rw[show (Lib.index s sep == -1)=false by rw[yB];omega];have:=qHI sep h f (s.drop ((Lib.index s sep).toNat+sep.length));rw[yK] at this;show cntF sep f _+1≤_;omega
theorem wr' {x:Int} (h : -9223372036854775808≤x∧x≤9223372036854775807):IntKind.wrap .i64 x=x:=IntWalk.i64_in x h
theorem qLi:∀ (s0:LU),(qEU s0=true)→∃ n,qLE n s0=qHL (z79 s0):=fun s h=>⟨0,by
 have h:lenOk s=true:=h;have hl:=qd h;unfold qLE;rw[show qfz s [13,10]=true by unfold qfz;rw[h];rfl,show qko 13 s=true from h,show qko 10 (z140 13 s).2=true from h];simp only[yc,yi];have c1:s.count 13≤s.length:=List.count_le_length;have c2:s.count 10≤s.length:=List.count_le_length;have c3:=qHI [13,10] (by decide) (s.length+1) s;rw[show (z140 13 s).1=((s.count 13:Nat):Int) from rfl,show (z140 10 (z140 13 s).2).1=((s.count 10:Nat):Int) from rfl,show z139 s [13,10]=((cntF [13,10] (s.length+1) s:Nat):Int) from rfl];rw[wr' (x:=((s.count 13:Nat):Int)+((s.count 10:Nat):Int)) (by omega),wr' (x:=2*((cntF [13,10] (s.length+1) s:Nat):Int)) (by omega),wr' (by omega),qLh s];rfl⟩
end
section
theorem getDe {α:Type} (l:List α) (d:α) {i:Nat} (h:i < l.length):l.getD i d=l[i]:=by simp[List.getD,h]
theorem qzE (k0:Int→OA) (s:LU) (hl:s.length≤1048576):∀ (d i m n:Nat),i+d=s.length→d < n→m≤i →
 qjW k0 n s (m:Nat) (i:Nat)=k0 ((m+bareN (decide (i≠0)&&(s.getD (i - 1) 0==13)) (s.drop i):Nat):Int)
 | d,i,m,0,_,hn,_=>absurd hn (by omega)
 | 0,i,m,n+1,hi,_,_=>by
  show qgQ k0 (qjW k0 n) n _ _ _=_;unfold qgQ;rw[dF (by omega),yA (by omega)];rfl
 | d+1,i,m,n+1,hi,hn,hm=>by
  show qgQ k0 (qjW k0 n) n _ _ _=_;unfold qgQ;have hlt:i < s.length:=by omega
  have ih0:=qzE k0 s hl d (i+1) m n (by omega) (by omega) (by omega);have ih1:=qzE k0 s hl d (i+1) (m+1) n (by omega) (by omega) (by omega);have ep:(decide (i+1≠0)&&(s.getD (i+1 - 1) 0==13))=(s[i]==13):=by rw[dT (by omega),Nat.add_sub_cancel,getDe s 0 hlt,y6]
  rw[ep] at ih0 ih1;rw[dT (show ((i:Nat):Int) < ((s.length:Nat):Int) by omega),dT (show (0:Int)≤((i:Nat):Int) by omega),tn,qj (by omega),qj (by omega)];simp only[yc,Bool.and_self];rw[List.drop_eq_getElem_cons hlt,getDe s 0 hlt];show _=k0 ((m+((bif ((s[i]==13) && !((s.drop (i+1)).head? == some 10))||((s[i]==10) && !(decide (i≠0)&&(s.getD (i - 1) 0==13))) then 1 else 0)+bareN (s[i]==13) (s.drop (i+1))):Nat):Int);have e0:qjW k0 n s (m:Nat) ((i+1:Nat):Int)=k0 ((m+(0+bareN (s[i]==13) (s.drop (i+1))):Nat):Int):=by rw[ih0,yE]
  have e1:qjW k0 n s ((m+1:Nat):Int) ((i+1:Nat):Int)=k0 ((m+(1+bareN (s[i]==13) (s.drop (i+1))):Nat):Int):=by rw[ih1,yS]
  rw[e0,e1];generalize bareN (s[i]==13) (s.drop (i+1))=B;have ez:(((i:Nat):Int)==0) = !(decide (i≠0)):=by
   by_cases h:i=0
   ·subst h;rfl
   ·rw[dT h];simpa using h
  by_cases h13:s[i]=13
  ·rw[h13];simp only[beq_self_eq_true,y6,yc,show ((13:UInt8)==10)=false by decide,Bool.false_and,Bool.or_false,yd]
   by_cases hlast:i+1=s.length
   ·rw[show (((i+1:Nat):Int)==((s.length:Nat):Int))=true by rw[hlast];exact beq_self_eq_true _,yA (by omega)];rfl
   ·have hlt2:i+1 < s.length:=by omega
    rw[show (((i+1:Nat):Int)==((s.length:Nat):Int))=false by rw[yB];omega,dT (show (0:Int)≤((i+1:Nat):Int) by omega),dT (show ((i+1:Nat):Int) < ((s.length:Nat):Int) by omega),tn,getDe s 0 hlt2,List.drop_eq_getElem_cons hlt2,List.head?_cons];generalize s[i+1]=y
    by_cases hy:y=10
    ·subst hy;rfl
    ·rw[show (y != 10)=true by simpa using hy,show ((some y==some 10))=false by simpa using hy];rfl
  ·rw[show (s[i]==13)=false by simpa using h13];simp only[Bool.false_and,Bool.false_or,yd]
   by_cases h10:s[i]=10
   ·rw[h10,ez];simp only[beq_self_eq_true,y6,yc]
    by_cases hz:i=0
    ·rw[hz];rfl
    ·have ew:IntKind.wrap .i64 (((i:Nat):Int) - 1)=((i - 1:Nat):Int):=by rw[wr' (by omega)];omega
     rw[ew,dT hz,dT (show (0:Int)≤((i - 1:Nat):Int) by omega),dT (show ((i - 1:Nat):Int) < ((s.length:Nat):Int) by omega),tn];simp only[Bool.not_true,yd,y6,Bool.and_self,yc,bne];cases (s.getD (i - 1) 0==13) <;> rfl
   ·rw[show (s[i]==10)=false by simpa using h10];rfl
theorem qLj:∀ (s0:LU),(qEV s0=true)→∃ n,qLM n s0=qHL (z75 s0):=fun s h=>⟨s.length+1,by
 have hl:=qd (show lenOk s=true from h);have:=qzE (qqT (s.length+1)) s hl s.length 0 0 (s.length+1) (by omega) (by omega) (by omega);rw[yE,yw] at this;exact this⟩
theorem qiW (k0:LU→Int→Bool→OA) (s:LU) (most:Int) (hl:s.length≤1048576):∀ (d i:Nat) (a:Bool) (n:Nat),i+d=s.length→d < n →
 qnV k0 n s most a s ((s.length:Nat):Int) (i:Nat)=k0 s most (a||(s.drop i).any z78)
 | d,i,a,0,_,hn=>absurd hn (by omega)
 | 0,i,a,n+1,hi,_=>by
  show qgA k0 (qnV k0 n) n _ _ _ _ _ _=_;unfold qgA;rw[dF (by omega),yA (by omega),List.any_nil,Bool.or_false];rfl
 | d+1,i,a,n+1,hi,hn=>by
  show qgA k0 (qnV k0 n) n _ _ _ _ _ _=_;unfold qgA;have hlt:i < s.length:=by omega
  rw[dT (show ((i:Nat):Int) < ((s.length:Nat):Int) by omega),dT (show (0:Int)≤((i:Nat):Int) by omega),tn,qj (by omega)];simp only[yc,Bool.and_self];rw[List.drop_eq_getElem_cons hlt,getDe s 0 hlt,List.any_cons,qiW k0 s most hl d (i+1) _ n (by omega) (by omega),qiW k0 s most hl d (i+1) _ n (by omega) (by omega)];cases a <;> rfl
theorem has0 (s:LU) (c:UInt8):decide ((0:Int)≤z80 s c)=s.contains c:=by
 show decide ((0:Int)≤Lib.indexByte s c)=_;have hge:=Lib.indexByte_ge s c
 by_cases h:Lib.indexByte s c = -1
 ·rw[h,show decide ((0:Int) ≤ -1)=false from rfl];refine(Bool.eq_false_iff.2 fun hc=>?_).symm;obtain⟨k,hk,e⟩:=List.getElem_of_mem (List.contains_iff_mem.1 hc);exact Lib.indexByte_none h k (by rw[yO hk,e])
 ·rw[dT (by omega)];obtain⟨o,ho⟩:∃ o:Nat,Lib.indexByte s c=o:=⟨(Lib.indexByte s c).toNat,by omega⟩;have:=(Lib.indexByte_some ho).1;exact(List.contains_iff_mem.2 (List.mem_of_getElem? this)).symm
theorem qzF (most:Int):∀ (l:List LU) (m:Nat),decide (most < ((maxL l m:Nat):Int))=(decide (most < ((m:Nat):Int))||l.any fun x=>decide (most < ((x.length:Nat):Int)))
 | [],m=>by rw[List.any_nil,Bool.or_false];rfl
 | x :: l,m=>by
  show decide (most < ((maxL l (max m x.length):Nat):Int))=_;rw[qzF most l,List.any_cons,← Bool.or_assoc];congr 1;rw[Bool.eq_iff_iff];simp only[yR,ym];omega
theorem qLk:∀ (s0:LU) (most1:Int),(quB s0 most1=true)→∃ n,qLF n s0 most1=qHL (z37 s0 most1):=fun s most h=>⟨s.length+1,by
 unfold quB at h;simp only[yf,ym] at h;have hl:=qd h.1;have e:=qiW (qlI (s.length+1)) s most hl s.length 0 false (s.length+1) (by omega) (by omega);refine e.trans ?_;rw[yw,Bool.false_or];unfold qlI z37;rw[show qEU s=true from h.1,show qEW s=true from h.1,has0,show z79 s=((bareN false s:Nat):Int) from rfl,show decide ((0:Int) < ((bareN false s:Nat):Int))=decide (0 < bareN false s) by rw[Bool.eq_iff_iff];simp,show z81 s=((maxL (z142 s) 0:Nat):Int) from rfl,qzF,dF (show ¬ most < ((0:Nat):Int) by omega),Bool.false_or];simp only[yi,yc];cases decide (0 < bareN false s)
 ·cases s.contains 0
  ·cases s.any z78
   ·by_cases hs:s=[]
    ·subst hs;rfl
    ·have:=List.length_pos_iff.2 hs;rw[dT (show (0:Int) < ((s.length:Nat):Int) by omega)];cases (z142 s).any fun x=>decide (most < ((x.length:Nat):Int)) <;> rfl
   ·rfl
  ·rfl
 ·rfl⟩
theorem qHJ (ret:Int→OA) (k2:OA) (most:Int) (l:List LU) (hl:l.length≤1048576):∀ (d i n:Nat),i+d=l.length→d < n →
 qhr ret k2 n most l (i:Nat)=bif (l.drop i).any (fun x=>decide (most < ((x.length:Nat):Int))) then ret 12 else k2
 | d,i,0,_,hn=>absurd hn (by omega)
 | 0,i,n+1,hi,_=>by
  show qej ret k2 (qhr ret k2 n) n _ _ _=_;unfold qej;rw[dF (by omega),yA (by omega),List.any_nil];rfl
 | d+1,i,n+1,hi,hn=>by
  show qej ret k2 (qhr ret k2 n) n _ _ _=_;unfold qej;have hlt:i < l.length:=by omega
  rw[dT (show ((i:Nat):Int) < ((l.length:Nat):Int) by omega),dT (show (0:Int)≤((i:Nat):Int) by omega),tn,qj (by omega)];simp only[yc,Bool.and_self];rw[List.drop_eq_getElem_cons hlt,getDe l [] hlt,List.any_cons,qHJ ret k2 most l hl d (i+1) n (by omega) (by omega)];cases decide (most < ((l[i].length:Nat):Int)) <;> rfl
theorem lt127 (c:UInt8):decide ((127:UInt8) < c)=z78 c:=by
 unfold z78;rw[Bool.eq_iff_iff];simp only[ym,UInt8.lt_iff_toNat_lt,UInt8.le_iff_toNat_le];show 127 < c.toNat↔128≤c.toNat;omega
theorem qLl (ret:Int→OA) (k0:LU→Int→Bool→OA) (s:LU) (most:Int) (hl:s.length≤1048576):∀ (d i:Nat) (a:Bool) (n:Nat),i+d=s.length→d < n →
 qoj ret k0 n s most a (i:Nat)=bif (s.drop i).contains 0 then ret 8 else k0 s most (a||(s.drop i).any z78)
 | d,i,a,0,_,hn=>absurd hn (by omega)
 | 0,i,a,n+1,hi,_=>by
  show qgR ret k0 (qoj ret k0 n) n _ _ _ _=_;unfold qgR;rw[dF (by omega),yA (by omega),List.any_nil,Bool.or_false];rfl
 | d+1,i,a,n+1,hi,hn=>by
  show qgR ret k0 (qoj ret k0 n) n _ _ _ _=_;unfold qgR;have hlt:i < s.length:=by omega
  rw[dT (show ((i:Nat):Int) < ((s.length:Nat):Int) by omega),dT (show (0:Int)≤((i:Nat):Int) by omega),tn,qj (by omega)];simp only[yc,Bool.and_self];rw[List.drop_eq_getElem_cons hlt,getDe s 0 hlt,List.any_cons,List.contains_cons,lt127,qLl ret k0 s most hl d (i+1) _ n (by omega) (by omega),qLl ret k0 s most hl d (i+1) _ n (by omega) (by omega)];rw[show (s[i]==0)=(0==s[i]) from Bool.beq_comm ..];cases (0==s[i]) <;> cases a <;> simp
theorem qLm:∀ (s0:LU) (most1:Int),(qzA s0 most1=true)→∃ n,qLN n s0 most1=qHL (z35 s0 most1):=fun s most h=>⟨s.length+1,by
 unfold qzA at h;simp only[yf,ym] at h;have hl:=qd h.1;have hs:=(qsy s).1;have e:=qLl qHL (qeY (s.length+1)) s most hl s.length 0 false (s.length+1) (by omega) (by omega);refine e.trans ?_;have e2:=qHJ qHL (qme (s.length+1)) most (z142 s) (by omega) (z142 s).length 0 (s.length+1) (by omega) (by omega);rw[yw,Bool.false_or];unfold qeY z35 z37;rw[show qEV s=true from h.1,show qCD s=true from h.1,show z76 s=z142 s from rfl,show z75 s=((bareN false s:Nat):Int) from rfl,show decide ((0:Int) < ((bareN false s:Nat):Int))=decide (0 < bareN false s) by rw[Bool.eq_iff_iff];simp];rw[show ((0:Int))=((0:Nat):Int) from rfl,e2,yw];simp only[yi,yc];cases decide (0 < bareN false s) <;> cases s.contains 0 <;> cases s.any z78 <;> cases (z142 s).any (fun x=>decide (most < ((x.length:Nat):Int))) <;> rfl⟩
end
section
set_option linter.unusedSimpArgs false
end
section
theorem ltc (a b:Nat):decide (((a:Nat):Int) < ((b:Nat):Int))=decide (a < b):=by rw[Bool.eq_iff_iff];simp
theorem qzG:∀ (f:Nat) (acc s:LU),(codeW f acc s).1.length≤acc.length+s.length
 | 0,acc,s=>Nat.zero_le _
 | f+1,acc,s=>by
  show (bif s.isEmpty then (acc,(0:Int)) else bif decide (76 < (z82 s [13,10]).1.length) then ([],12) else bif !((z82 s [13,10]).2.2) then ([],4)
   else bif (z82 s [13,10]).1.isEmpty then ([],3) else codeW f (acc++(z82 s [13,10]).1) (z82 s [13,10]).2.1).1.length≤_
  cases s.isEmpty
  ·cases decide (76 < (z82 s [13,10]).1.length)
   ·rcases qha s with ⟨h1,_⟩ | ⟨k,hk,h1,_⟩
    ·rw[h1];exact Nat.zero_le _
    ·rw[h1];cases h:(s.take k).isEmpty
     ·show (codeW f (acc++s.take k) (s.drop (k+2))).1.length≤_;have:=qzG f (acc++s.take k) (s.drop (k+2));rw[yn,yz,yK] at this;omega
     ·exact Nat.zero_le _
   ·exact Nat.zero_le _
  ·exact Nat.le_add_right _ _
theorem qsz (m:Nat):∀ (f:Nat) (s acc:LU) (n:Nat),s.length < f→f≤n→acc.length+s.length≤1048576 →
 qjq qAa (qfK m) n s acc=qAa (codeW f acc s).1 (codeW f acc s).2
 | 0,s,acc,n,h,_,_=>absurd h (by omega)
 | f+1,s,acc,0,_,hn,_=>absurd hn (by omega)
 | f+1,s,acc,n+1,h,hn,hl=>by
  show qhW qAa (qfK m) (qjq qAa (qfK m) n) n s acc=_;unfold qhW qaH
  by_cases hs:s=[]
  ·subst hs;rfl
  have hp:=List.length_pos_iff.2 hs;have e:codeW (f+1) acc s=(bif s.isEmpty then (acc,(0:Int)) else bif decide (76 < (z82 s [13,10]).1.length) then ([],12) else bif !((z82 s [13,10]).2.2) then ([],4)
   else bif (z82 s [13,10]).1.isEmpty then ([],3) else codeW f (acc++(z82 s [13,10]).1) (z82 s [13,10]).2.1):=rfl
  rw[e,cutok (by omega),dT (show (0:Int) < ((s.length:Nat):Int) by omega),show s.isEmpty=false by rw[List.isEmpty_eq_false_iff];exact hs,show ((76:Int))=((76:Nat):Int) from rfl,ltc];simp only[yi,yc,yd];rcases qha s with ⟨h1,_⟩ | ⟨k,hk,h1,_⟩
  ·rw[h1];cases decide (76 < s.length) <;> rfl
  ·rw[h1];cases decide (76 < (s.take k).length)
   ·simp only[yd,Bool.not_true];have hlen:(s.take k).length=k:=by rw[yz];omega
    rw[dT (show acc.length+(s.take k).length≤room by unfold room;omega)]
    by_cases h0:k=0
    ·subst h0;rfl
    ·rw[dT (show (0:Int) < (((s.take k).length:Nat):Int) by omega),show (s.take k).isEmpty=false by rw[List.isEmpty_eq_false_iff];intro e;rw[e] at hlen;simp at hlen;omega];simp only[yc,yd];exact qsz m f _ _ n (by rw[yK];omega) (by omega) (by rw[yn,yK];omega)
   ·rfl
theorem qFh:∀ (s0:LU),(qsv s0=true)→∃ n,qAr n s0=qAa (z147 s0).1 (z147 s0).2:=fun s h=>⟨s.length+1,by
 have hl:=qd (show lenOk s=true from h);exact qsz (s.length+1) (s.length+1) s [] (s.length+1) (by omega) (yv _) (by simpa using hl)⟩
theorem qHK {s:LU} (h:lenOk s=true):lenOk (z147 s).1=true:=by
 have h1:=qd h;have:=qzG (s.length+1) [] s;refine qn (yL this ?_);simpa using h1
theorem qLn:∀ (s0:LU),(qER s0=true)→∃ n,qRn n s0=qAa (z84 s0).1 (z84 s0).2:=fun s h=>⟨0,by
 unfold qRn z84;rw[show qsv s=true from h,show qrS (z147 s).1=true from qHK h];cases ((z147 s).2 != (0:Int)) <;> rfl⟩
theorem qLo:∀ (s0:LU),(qES s0=true)→∃ n,qRo n s0=qHL (z39 s0):=fun s h=>⟨0,by
 unfold qRo;rw[show qER s=true from h];rfl⟩
def chkW:Bool→LU→Nat→LU→LU×Int
 | _,acc,j,[]=>if 0 < j then ([],4) else (acc,0)
 | true,acc,j,_ :: r=>chkW false acc j r
 | false,acc,j,x :: r=>if x=13∧r.head? = some 10 then (if j=0 then ([],3) else chkW true acc 0 r) else if 76 < j+1 then ([],12) else chkW false (acc++[x]) (j+1) r
theorem qiX (acc:LU) (j:Nat) (x:UInt8) (r:LU):chkW false acc j (x :: r)=if x=13∧r.head? = some 10 then (if j=0 then ([],3) else chkW true acc 0 r) else if 76 < j+1 then ([],12) else chkW false (acc++[x]) (j+1) r:=rfl
theorem qzH:∀ (s acc:LU) (j:Nat),j≤76→Lib.index s [13,10] = -1→chkW false acc j s=if 76 < j+s.length then ([],12) else if 0 < j+s.length then ([],4) else (acc,0)
 | [],acc,j,hj,_=>by
  rw[List.length_nil,Nat.add_zero,if_neg (by omega)];unfold chkW;rfl
 | x :: r,acc,j,hj,h=>by
  rw[qrd] at h
  by_cases hc:x=13∧r.head? = some 10
  ·rw[if_pos hc] at h;cases h
  ·rw[if_neg hc] at h
   by_cases hr:Lib.index r [13,10] = -1
   ·rw[qiX,if_neg hc,yg]
    by_cases h76:76 < j+1
    ·rw[if_pos h76,if_pos (by omega)]
    ·rw[if_neg h76,qzH r _ (j+1) (by omega) hr]
     by_cases h2:76 < j+1+r.length
     ·rw[if_pos h2,if_pos (by omega)]
     ·rw[if_neg h2,if_neg (show ¬ 76 < j+(r.length+1) by omega),if_pos (by omega),if_pos (by omega)]
   ·rw[if_neg hr] at h;have:=qeo r [13,10];omega
theorem qzI:∀ (s acc:LU) (j k:Nat),j≤76→Lib.index s [13,10]=k→chkW false acc j s=if 76 < j+k then ([],12) else if j+k=0 then ([],3) else chkW false (acc++s.take k) 0 (s.drop (k+2))
 | [],acc,j,k,_,h=>by
  have:Lib.index [] [13,10] = -1:=rfl;omega
 | x :: r,acc,j,k,hj,h=>by
  rw[qrd] at h
  by_cases hc:x=13∧r.head? = some 10
  ·rw[if_pos hc] at h;obtain rfl:k=0:=by omega
   rw[qiX,if_pos hc,Nat.add_zero,if_neg (show ¬ 76 < j by omega),List.take_zero,yG]
   by_cases h0:j=0
   ·rw[if_pos h0,if_pos h0]
   ·rw[if_neg h0,if_neg h0];cases r with
    | nil=>cases hc.2
    | cons y r=>rfl
  ·rw[if_neg hc] at h
   by_cases hr:Lib.index r [13,10] = -1
   ·rw[if_pos hr] at h;omega
   ·rw[if_neg hr] at h;obtain⟨k,rfl⟩:∃ m,k=m+1:=⟨k - 1,by have:=qeo r [13,10];omega⟩;rw[qiX,if_neg hc]
    by_cases h76:76 < j+1
    ·rw[if_pos h76,if_pos (by omega)]
    ·rw[if_neg h76,qzI r _ (j+1) k (by omega) (by omega),List.take_succ_cons,yl]
     by_cases h2:76 < j+1+k
     ·rw[if_pos h2,if_pos (by omega)]
     ·rw[if_neg h2,if_neg (show ¬ 76 < j+(k+1) by omega),if_neg (by omega),if_neg (by omega)];rfl
theorem qzJ:∀ (f:Nat) (s acc:LU),s.length < f→codeW f acc s=chkW false acc 0 s
 | 0,s,acc,h=>absurd h (by omega)
 | f+1,s,acc,h=>by
  by_cases hs:s=[]
  ·subst hs;rfl
  have hp:=List.length_pos_iff.2 hs;have e:codeW (f+1) acc s=(bif s.isEmpty then (acc,(0:Int)) else bif decide (76 < (z82 s [13,10]).1.length) then ([],12) else bif !((z82 s [13,10]).2.2) then ([],4)
   else bif (z82 s [13,10]).1.isEmpty then ([],3) else codeW f (acc++(z82 s [13,10]).1) (z82 s [13,10]).2.1):=rfl
  rw[e,show s.isEmpty=false by rw[List.isEmpty_eq_false_iff];exact hs,yd];rcases qha s with ⟨h1,_,h3⟩ | ⟨k,hk,h1,_,h3⟩
  ·rw[h1,qzH s acc 0 (by omega) h3,yE]
   by_cases h76:76 < s.length
   ·rw[if_pos h76,dT h76];rfl
   ·rw[if_neg h76,dF h76,if_pos hp];rfl
  ·rw[h1,qzI s acc 0 k (by omega) h3,yE];have hlen:(s.take k).length=k:=by rw[yz];omega
   rw[hlen]
   by_cases h76:76 < k
   ·rw[if_pos h76,dT h76];rfl
   ·rw[if_neg h76,dF h76]
    by_cases h0:k=0
    ·subst h0;rfl
    ·rw[if_neg h0,show (s.take k).isEmpty=false by rw[List.isEmpty_eq_false_iff];intro e;rw[e] at hlen;simp at hlen;omega];exact qzJ f _ _ (by rw[yK];omega)
theorem qsA:∀ (s acc:LU) (j:Nat) (b:Bool),(chkW b acc j s).2≠0→(chkW b acc j s).1=[]
 | [],acc,j,b=>by
  unfold chkW;cases b <;> by_cases h:0 < j <;> simp[h]
 | x :: r,acc,j,true=>qsA r acc j false
 | x :: r,acc,j,false=>by
  rw[qiX];split
  ·split
   ·intro _;rfl
   ·exact qsA r _ _ true
  ·split
   ·intro _;rfl
   ·exact qsA r _ _ false
theorem qqu (k0:LU→Int→OA) (hk0:∀ c (j:Nat),0 < j→k0 c (j:Nat)=qAa [] 4) (s:LU) (hl:s.length≤1048576):∀ (d i:Nat) (acc:LU) (j n:Nat),i+d=s.length→d < n→acc.length≤i→j≤76 →
 qjy qAa k0 n s acc (j:Nat) (i:Nat)=bif (chkW false acc j (s.drop i)).2 != 0 then qAa (chkW false acc j (s.drop i)).1 (chkW false acc j (s.drop i)).2 else k0 (chkW false acc j (s.drop i)).1 0
 | d,i,acc,j,0,_,hn,_,_=>absurd hn (by omega)
 | 0,i,acc,j,n+1,hi,_,_,_=>by
  show qgW qAa k0 (qjy qAa k0 n) n s acc _ _=_;unfold qgW qbN qaL;rw[dF (by omega),yA (by omega),show chkW false acc j []=if 0 < j then ([],4) else (acc,0) by unfold chkW;rfl]
  by_cases h:0 < j
  ·rw[if_pos h,yd,hk0 acc j h];rfl
  ·rw[if_neg h];obtain rfl:j=0:=by omega
   rfl
 | d+1,i,acc,j,n+1,hi,hn,ha,hj=>by
  have step:∀ (x:UInt8) (m:Nat) (h76:¬ 76 < m+1) ,IntKind.wrap .i64 (((m:Nat):Int)+1)=((m+1:Nat):Int):=fun _ m _=>qj (by omega);show qgW qAa k0 (qjy qAa k0 n) n s acc _ _=_;unfold qgW qbN qaL;have hlt:i < s.length:=by omega
  rw[dT (show ((i:Nat):Int) < ((s.length:Nat):Int) by omega),dT (show (0:Int)≤((i:Nat):Int) by omega),tn,qj (show i < 4611686018427387904 by omega),qj (show j < 4611686018427387904 by omega),qj (show i+1 < 4611686018427387904 by omega)];simp only[yc,Bool.and_self];rw[List.drop_eq_getElem_cons hlt,getDe s 0 hlt,dT (show acc.length+([s[i]]:LU).length≤room by unfold room;show _+1≤_;omega),qiX,show decide ((76:Int) < ((j+1:Nat):Int))=decide (76 < j+1) from ltc 76 (j+1)];have i1:¬ 76 < j+1→qjy qAa k0 n s (acc++[s[i]]) ((j+1:Nat):Int) ((i+1:Nat):Int)=_:=fun h76=>qqu k0 hk0 s hl d (i+1) (acc++[s[i]]) (j+1) n (by omega) (by omega) (by rw[yn];show _+1≤_;omega) (by omega);simp only[yc];have plain:∀ (hc:¬ (s[i]=13∧(s.drop (i+1)).head? = some 10)),(bif decide (76 < j+1) then qAa [] 12 else qjy qAa k0 n s (acc++[s[i]]) ((j+1:Nat):Int) ((i+1:Nat):Int))=bif (if s[i]=13∧(s.drop (i+1)).head? = some 10 then (if j=0 then (([]:LU),(3:Int)) else chkW true acc 0 (s.drop (i+1))) else if 76 < j+1 then ([],12) else chkW false (acc++[s[i]]) (j+1) (s.drop (i+1))).2 != 0 then qAa (if s[i]=13∧(s.drop (i+1)).head? = some 10 then (if j=0 then (([]:LU),(3:Int)) else chkW true acc 0 (s.drop (i+1))) else if 76 < j+1 then ([],12) else chkW false (acc++[s[i]]) (j+1) (s.drop (i+1))).1 (if s[i]=13∧(s.drop (i+1)).head? = some 10 then (if j=0 then (([]:LU),(3:Int)) else chkW true acc 0 (s.drop (i+1))) else if 76 < j+1 then ([],12) else chkW false (acc++[s[i]]) (j+1) (s.drop (i+1))).2 else k0 (if s[i]=13∧(s.drop (i+1)).head? = some 10 then (if j=0 then (([]:LU),(3:Int)) else chkW true acc 0 (s.drop (i+1))) else if 76 < j+1 then ([],12) else chkW false (acc++[s[i]]) (j+1) (s.drop (i+1))).1 0:=by
   intro hc;rw[if_neg hc]
   by_cases h76:76 < j+1
   ·rw[if_pos h76,dT h76];rfl
   ·rw[if_neg h76,dF h76,yd,i1 h76]
  by_cases h13:s[i]=13
  ·rw[show (s[i]==13)=true by simpa using h13]
   by_cases hlast:i+1 < s.length
   ·rw[dT (show ((i+1:Nat):Int) < ((s.length:Nat):Int) by omega),dT (show (0:Int)≤((i+1:Nat):Int) by omega),tn,getDe s 0 hlast];simp only[yc,Bool.and_self]
    by_cases h10:s[i+1]=10
    ·have hc:s[i]=13∧(s.drop (i+1)).head? = some 10:=⟨h13,by rw[List.drop_eq_getElem_cons hlast,h10];rfl⟩;rw[show (s[i+1]==10)=true by simpa using h10,yc,if_pos hc]
     by_cases h0:j=0
     ·rw[if_pos h0,h0];rfl
     ·obtain⟨d,rfl⟩:∃ e,d=e+1:=⟨d - 1,by omega⟩;have:=qqu k0 hk0 s hl d (i+1+1) acc 0 n (by omega) (by omega) (by omega) (by omega);rw[if_neg h0,show (((j:Nat):Int)==0)=false by rw[yB];omega,yd,List.drop_eq_getElem_cons hlast];show qjy qAa k0 n s acc ((0:Nat):Int) ((i+1+1:Nat):Int)=_;rw[this];rfl
    ·rw[show (s[i+1]==10)=false by simpa using h10,yd];exact plain (fun hc=>h10 (by have:=hc.2;rw[List.drop_eq_getElem_cons hlast,List.head?_cons] at this;exact yp this))
   ·rw[dF (show ¬ ((i+1:Nat):Int) < ((s.length:Nat):Int) by omega),yd];exact plain (fun hc=>by have:=hc.2;rw[yA (by omega)] at this;cases this)
  ·rw[show (s[i]==13)=false by simpa using h13,yd];exact plain (fun hc=>h13 hc.1)
theorem qLp:∀ (s0:LU),(qET s0=true)→∃ n,qLO n s0=qAa (z48 s0).1 (z48 s0).2:=fun s h=>⟨s.length+1,by
 have hl:=qd (show lenOk s=true from h);have hc:z147 s=chkW false [] 0 s:=qzJ (s.length+1) s [] (by omega);have hok:=qHK (show lenOk s=true from h);refine(qqu (qjz (s.length+1)) (fun c j hj=>?_) s hl s.length 0 [] 0 (s.length+1) (by omega) (by omega) (by simp) (by omega)).trans ?_
 ·unfold qjz;rw[dT (by omega)];rfl
 rw[yw,← hc];have he:=qsA s [] 0 false;rw[← hc] at he;unfold z48
 by_cases h0:(z147 s).2=0
 ·rw[show ((z147 s).2 != 0)=false by simpa using h0];unfold qjz;rw[show qrT (z147 s).1=true from hok,show z104 (z147 s).1=z148 (z147 s).1 from rfl];cases ((z148 (z147 s).1).2 != (0:Int)) <;> rfl
 ·rw[show ((z147 s).2 != 0)=true by simpa using h0,he h0];rfl⟩
end
section
open IntKind (wrap)
theorem qLq:∀ (coding0:Int),∃ n,qRw n coding0=qog (z94 coding0):=fun k=>⟨0,by
 unfold qRw z94;cases (k==(1:Int)) <;> cases (k==(2:Int)) <;> cases (k==(3:Int)) <;> rfl⟩
theorem qLr:∀ (n0:Int),∃ n,qRz n n0=qog (z99 n0):=fun k=>⟨0,by
 unfold qRz qmd z99 z94
 by_cases h1:k=1
 ·subst h1;rfl
 by_cases h2:k=2
 ·subst h2;rfl
 by_cases h3:k=3
 ·subst h3;rfl
 rw[show (k==(1:Int))=false by simpa using h1,show (k==(2:Int))=false by simpa using h2,show (k==(3:Int))=false by simpa using h3]
 by_cases h:k < 1
 ·rw[dT h];rfl
 ·rw[dF h,dT (show (3:Int) < k by omega)];rfl⟩
theorem w12:wrap .i64 ((1:Int)+1)=2:=wr' (by decide)
theorem w23:wrap .i64 ((2:Int)+1)=3:=wr' (by decide)
theorem w34:wrap .i64 ((3:Int)+1)=4:=wr' (by decide)
theorem qLs:∀ (s0:LU),(qEX s0=true)→∃ n,qFA n s0=qfO (z43 s0).1 (z43 s0).2:=fun s h=>⟨4,by
 have h:lenOk s=true:=h;unfold qFA z43;rw[show qnj s=true from h,show qum (z93 s)=true from qn (yL (qib _ _) (qd h))];generalize z92 (z93 s)=x;show qeQ qfO (qeR 4) (qeQ qfO (qeR 4) (qeQ qfO (qeR 4) (qeQ qfO (qeR 4) (quW qfO (qeR 4) 0) 0) 1) 2) 3 x 1=_;unfold qeQ;rw[w12,w23,w34];cases (z94 1==x) <;> cases (z94 2==x) <;> cases (z94 3==x) <;> rfl⟩
theorem qLt:∀ (s0:LU),(qEY s0=true)→∃ n,qFD n s0=qfO (z45 s0).1 (z45 s0).2:=fun s h=>⟨4,by
 have h:lenOk s=true:=h;unfold qFD;rw[show qun s=true from h,show quk (z98 s)=true from qn (yL (qib _ _) (qd h)),show z97 (z98 s)=z92 (z93 s) from rfl];unfold z45 z43;generalize z92 (z93 s)=x;show qeU qfO (qeV 4) (qeU qfO (qeV 4) (qeU qfO (qeV 4) (qeU qfO (qeV 4) (quY qfO (qeV 4) 0) 0) 1) 2) 3 x 1=_;unfold qeU;rw[w12,w23,w34];unfold z99;cases (z94 1==x) <;> cases (z94 2==x) <;> cases (z94 3==x) <;> rfl⟩
end
section
theorem qLu:∀ (coding0:Int) (charset1:Int) (s2:LU),(qqq coding0 charset1 s2=true)→∃ n,qRl n coding0 charset1 s2=qAg (z12 coding0 charset1 s2):=fun k cs s h=>⟨0,by
 have h:s.length≤300000:=by simpa [qqq] using h
 have h1:=qBt s;have h2:=qiJ s;unfold qRl z12;rw[show qFl s=true from qn (by omega),show qCz s=true from qn (by omega),show qnc cs s=true from qn (by omega),show qnc cs (z27 s)=true from qn (by omega),show qnc cs (z28 s)=true from qn (by omega)];cases (k==(2:Int)) <;> cases (k==(3:Int)) <;> rfl⟩
theorem qLv:∀ (coding0:Int) (charset1:Int) (s2:LU),(qqr coding0 charset1 s2=true)→∃ n,qRu n coding0 charset1 s2=qAg (z20 coding0 charset1 s2):=fun k cs s h=>⟨0,by
 have h:s.length≤300000:=by simpa [qqr] using h
 have h1:=qBt s;have h2:=qiJ s;unfold qRu z20 z12;rw[show qFm s=true from qn (by omega),show qCB s=true from qn (by omega),show qnd cs s=true from qn (by omega),show qnd cs (z40 s).1=true from qn (by show (z27 s).length≤_;omega),show qnd cs (z41 s).1=true from qn (by show (z28 s).length≤_;omega)];cases (k==(2:Int)) <;> cases (k==(3:Int)) <;> rfl⟩
theorem qLw:∀ (coding0:LU) (charset1:LU) (s2:LU),(quC coding0 charset1 s2=true)→∃ n,qRy n coding0 charset1 s2=qAg (z21 coding0 charset1 s2):=fun a b s h=>⟨0,by
 unfold quC at h;simp only[yf] at h;unfold qRy;rw[show qEX a=true from h.1,show qCw b=true from h.2.1,show qqq (z43 a).1 (z44 b).1 s=true from h.2.2];rfl⟩
theorem qLx:∀ (coding0:LU) (charset1:LU) (s2:LU),(qzB coding0 charset1 s2=true)→∃ n,qRA n coding0 charset1 s2=qAg (z22 coding0 charset1 s2):=fun a b s h=>⟨0,by
 unfold qzB at h;simp only[yf] at h;unfold qRA;rw[show qEY a=true from h.1,show qCx b=true from h.2.1,show qqr (z45 a).1 (z46 b).1 s=true from h.2.2];rfl⟩
theorem qzK {s:LU} (h:lenOk s=true):quB s 76=true:=by unfold quB;rw[h];rfl
theorem qLy:∀ (coding0:Int) (s1:LU),(qEZ coding0 s1=true)→∃ n,qRp n coding0 s1=qHL (z19 coding0 s1):=fun k s h=>⟨0,by
 have h:lenOk s=true:=h;unfold qRp z19;rw[qzK h,show qFi s=true from h,show qES s=true from h];cases (k==(1:Int)) <;> cases (k==(2:Int)) <;> cases (k==(3:Int)) <;> rfl⟩
theorem chk16 (s:LU):(z48 s).2=z39 s:=by
 unfold z48 z39 z84;cases h:((z147 s).2 != (0:Int))
 ·simp only[yd];cases h2:((z148 (z147 s).1).2 != (0:Int))
  ·simp only[yd];have:(z148 (z147 s).1).2=0:=by simpa using h2
   rw[this]
  ·rfl
 ·rfl
theorem qLz:∀ (coding0:Int) (s1:LU),(qFa coding0 s1=true)→∃ n,qRC n coding0 s1=qHL (z23 coding0 s1):=fun k s h=>⟨0,by
 have h:lenOk s=true:=h;unfold qRC z23 z19;rw[show qzA s 76=true from qzK h,show qFj s=true from h,show qET s=true from h,chk16];cases (k==(1:Int)) <;> cases (k==(2:Int)) <;> cases (k==(3:Int)) <;> rfl⟩
end
section
set_option linter.unusedSimpArgs false
end
section
set_option linter.unusedSimpArgs false
end
section
set_option linter.unusedSimpArgs false
end
section
theorem qFg (k cs:Int) (s:LU):(z12 k cs s).length≤s.length:=by
 have h1:=qBt s;have h2:=qiJ s;unfold z12;refine yL (qlt _ _) ?_;cases k==2
 ·cases k==3
  ·exact yv _
  ·exact h2
 ·exact h1
end
section
set_option linter.unusedSimpArgs false
end
end Go.Av
