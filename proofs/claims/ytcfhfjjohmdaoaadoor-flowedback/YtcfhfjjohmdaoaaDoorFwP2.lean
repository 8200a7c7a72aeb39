import Derived.Test.YtcfhfjjohmdaoaaDoorFwP1
namespace Go.Av
set_option linter.unusedSimpArgs false
set_option linter.unusedVariables false
theorem quY:∀ (r0:(List (Int×((List UInt8)×Unit)))×(Bool×Unit)) (line1:List UInt8),(qok r0 line1=true)→∃ n,qvD n r0 line1=qgr (z69 r0 line1):=fun r line h=>⟨0,by
 unfold qok at h;rw [yf,yf,yf,ym] at h;obtain ⟨⟨h1,h2⟩,h3,h4⟩:=h;have hl:=qm h1;have hb:=qer line;obtain ⟨ps,op,u⟩:=r;simp only at h2 h3 h4;have hroom:decide (List.length ps+List.length ([((z42 line),((z44 line),()))]:List (Int×((List UInt8)×Unit)))≤room)=true:=by
  rw [ym,List.length_singleton]; unfold room; omega
 unfold qvD qbr qiB qaU qbQ qcC qaT qdQ z69 takeP;simp only [show qkh line=true from h1,show qdi line=true from h1,show qgj line=true from h1,yi,y4,yc,hroom,qhK];cases op with
 | false=>rfl
 | true =>
  have hne:ps≠[]:=fun e=>by subst e; cases h4
  obtain ⟨l,p,rfl⟩:∃ l p,ps=l++[p]:=by
   rcases List.eq_nil_or_concat ps with e | ⟨l,p,e⟩
   ·exact absurd e hne
   ·exact ⟨l,p,by rw [e,List.concat_eq_append]⟩
  rw [yn,List.length_singleton] at h2;have hp:p.2.1.length≤1048576:=by
   rw [List.all_append,yf] at h3;have:=h3.2;simpa using this
  have e:IntKind.wrap .i64 (((List.length (l++[p]):Nat):Int) - (1:Int))=((l.length:Nat):Int):=by
   rw [yn,List.length_singleton,wr (by omega)]; omega
  have hi:((decide ((0:Int)≤((l.length:Nat):Int)))&&(decide (((l.length:Nat):Int) < (List.length (l++[p]):Nat))))=true:=by
   rw [yn,List.length_singleton,dT (by omega),dT (by omega)]; rfl
  have hr2:decide (List.length p.2.1+List.length (z44 line)≤room)=true:=by
   rw [ym]; unfold room
   have:(z44 line).length≤line.length:=hb;omega
  simp only [e,hi,tn,qcN,qlw,hr2,beq_self_eq_true,yi,yc,qhK,List.getLast?_append,List.getLast?_singleton,Option.some_or,yU,y5,y4,List.dropLast_concat];cases hc:(p.1==z42 line) with
  | false=>rfl
  | true =>
   have e2:p.1=z42 line:=eq_of_beq hc;rw [← e2];rfl⟩
theorem qqN (s cur:List UInt8):(Lib.index s [13,10] = -1∧qaA cur s=[cur++s])∨∃ k:Nat,Lib.index s [13,10]=k∧k+2≤s.length∧qaA cur s=(cur++s.take k) :: qaA [] (s.drop (k+2)):=by
 induction s generalizing cur with
 | nil=>exact .inl ⟨rfl,by rw [yG]; rfl⟩
 | cons c r ih =>
  have e:Lib.index (c :: r) [13,10]=if List.isPrefixOf [13,10] (c :: r) then 0 else if Lib.index r [13,10] == -1 then -1 else Lib.index r [13,10]+1:=rfl
  rw [qep]
  by_cases h:c=13∧r.head? = some 10
  ·rw [if_pos h];obtain ⟨rfl,h⟩:=h;obtain ⟨r',rfl⟩:∃ r',r=10 :: r':=by
    cases r with
    | nil=>cases h
    | cons x r'=>simp only [List.head?_cons,ya] at h; subst h; exact ⟨r',rfl⟩
   exact .inr ⟨0,rfl,by simp,by rw [List.take_zero,yG]; rfl⟩
  ·rw [if_neg h];have hp:List.isPrefixOf [13,10] (c :: r)=false:=by
    cases hq:List.isPrefixOf [13,10] (c :: r) with
    | false=>rfl
    | true =>
     exfalso;cases r with
     | nil=>simp [List.isPrefixOf] at hq
     | cons x r' =>
      simp only [List.isPrefixOf,yi,yf,beq_iff_eq] at hq;exact h ⟨hq.1.symm,by rw [← hq.2]; rfl⟩
   rw [e,hp];rcases ih (cur++[c]) with ⟨h1,h2⟩ | ⟨k,h1,h2,h3⟩
   ·left;rw [h1,h2];exact ⟨rfl,by simp⟩
   ·right;refine ⟨k+1,?_,by simp only [yg]; omega,?_⟩
    ·rw [h1];have:(((k:Nat):Int) == -1)=false:=bneI (by omega);rw [this];simp
    ·rw [h3];simp
theorem qsZ (x:List UInt8) (l:List (List UInt8)) (h:l≠[]):(qaB (x :: l)).1=x :: (qaB l).1:=by
 cases l with
 | nil=>exact absurd rfl h
 | cons y l=>rfl
theorem qkl (s:List UInt8) {k:Nat} (h:qaA [] s=s.take k :: qaA [] (s.drop (k+2))):z70 s=s.take k :: z70 (s.drop (k+2)):=by
 unfold z70;rw [h,qsZ _ _ (qiS _ _)]
theorem qkm {s:List UInt8} (hs:s≠[]) (h:qaA [] s=[s]):z70 s=[s]:=by
 unfold z70;rw [h];show (if s=[] then (([]:List (List UInt8)),true) else ([s],false)).1=[s];rw [if_neg hs]
theorem qgl (k0:List (List UInt8)→Option AV):∀ (d:Nat) (s:List UInt8) (out:List (List UInt8)) (n:Nat),s.length≤d→d < n→s.length≤1048576→out.length+s.length≤1048576→qiD k0 n s out=k0 (out++z70 s)
 | d,s,out,0,_,hn,_,_=>absurd hn (by omega)
 | d,[],out,n+1,_,_,_,_=>by
  rw [show z70 []=[] from rfl,yG];rfl
 | 0,c :: s,out,n+1,h,_,_,_=>absurd h (by simp)
 | d+1,c :: r,out,n+1,h,hn,hl,ho=>by
  obtain ⟨s,hs⟩:∃ s,c :: r=s:=⟨_,rfl⟩;rw [hs] at h hl ho ⊢;have hne:s≠[]:=fun e=>by rw [e] at hs; cases hs
  have hpos:0 < s.length:=List.length_pos_iff.2 hne;have hstep:qiD k0 (n+1) s out=qiC k0 (qiD k0 n) n s out:=rfl;rw [hstep];unfold qiC qaY;rw [show qnH s [13,10]=true by unfold qnH lenOk; rw [dT hl]; rfl];rw [dT (show (0:Int) < ((s.length:Nat):Int) by omega)];simp only [yc,yi];rw [dT (show List.length out+List.length ([z60 (z51 s [13,10]).1]:List (List UInt8))≤room by unfold room; rw [List.length_singleton]; omega)];rcases qqN s [] with ⟨h1,h2⟩ | ⟨k,h1,h2,h3⟩
  ·rw [List.nil_append] at h2;have hcut:z51 s [13,10]=(s,[],false):=by unfold z51; rw [h1]; rfl
   rw [hcut,show qie s=true by unfold qie lenOk; rw [dT hl],qkm hne h2];simp only [yc];have:=qgl k0 d [] (out++[s]) n (by simp) (by omega) (by simp) (by rw [yn,List.length_singleton]; simp; omega);rw [show z70 []=[] from rfl,yG] at this;exact this
  ·rw [List.nil_append] at h3;have hcut:z51 s [13,10]=(s.take k,s.drop (k+2),true):=by
    unfold z51;rw [h1,dT (show (0:Int)≤((k:Nat):Int) by omega),tn];rfl
   rw [hcut,show qie (s.take k)=true by unfold qie lenOk; rw [yz,dT (by omega)],qkl s h3];simp only [yc];have:=qgl k0 d (s.drop (k+2)) (out++[s.take k]) n (by rw [yK]; omega) (by omega) (by rw [yK]; omega) (by rw [yn,List.length_singleton,yK]; omega);rw [yl] at this;exact this
theorem quZ:∀ (s0:List UInt8),(qsW s0=true)→∃ n,qtd n s0=qtJ (z70 s0):=fun s h=>⟨s.length+1,by
 unfold qtd;rw [qgl _ s.length s [] _ (yv _) (Nat.lt_succ_self _) (qm h) (by simpa using qm h)];rfl⟩
def sumL (l:List (List UInt8)):Nat:=(l.map fun x=>x.length+1).sum
theorem qcA (x:List UInt8) (l:List (List UInt8)):sumL (x :: l)=x.length+1+sumL l:=by unfold sumL; rw [yI,List.sum_cons]
theorem qiv:∀ (d:Nat) (s:List UInt8),s.length≤d→sumL (z70 s)≤s.length+1:=by
 intro d;induction d with
 | zero =>
  intro s h;obtain rfl:=yF (Nat.le_zero.1 h);exact Nat.zero_le _
 | succ d ih =>
  intro s h
  by_cases hs:s=[]
  ·subst hs; exact Nat.zero_le _
  ·rcases qqN s [] with ⟨_,h2⟩ | ⟨k,_,h2,h3⟩
   ·rw [qkm hs (by rw [h2,List.nil_append]),qcA];exact yv _
   ·rw [qkl s (by rw [h3,List.nil_append]),qcA,yz];have:=ih (s.drop (k+2)) (by rw [yK]; omega);rw [yK] at this;omega
theorem qgm:∀ l:List (List UInt8),l.length≤sumL l
 | []=>yv _
 | x :: l=>by have:=qgm l; rw [qcA,yg]; omega
structure TakeInv (r:qcX) (m:Nat):Prop where
 len:r.1.length+1≤m
 txt:∀ p∈r.1,p.2.1.length+1≤m
 op:r.2.1=true→r.1≠[]
theorem qls {r:qcX} {m:Nat} (h:TakeInv r m) (line:List UInt8):TakeInv (z69 r line) (m+(line.length+1)):=by
 have hb:=qer line;obtain ⟨ps,op,u⟩:=r;obtain ⟨h1,h2,h3⟩:=h;simp only at h1 h2 h3;unfold z69 takeP;simp only;cases op with
 | false =>
  refine ⟨?_,fun p hp=>?_,fun _=>?_⟩
  ·show (ps++[_]).length+1≤_;rw [yn,List.length_singleton]; omega
  ·have hp:p∈ps++[(z42 line,(bareB line,()))]:=hp;rcases List.mem_append.1 hp with hp | hp
   ·have:=h2 p hp; omega
   ·rw [List.mem_singleton.1 hp];show (bareB line).length+1≤_;omega
  ·show ps++[_]≠[];simp
 | true =>
  obtain ⟨l,q,rfl⟩:∃ l p,ps=l++[p]:=by
   rcases List.eq_nil_or_concat ps with e | ⟨l,p,e⟩
   ·exact absurd e (h3 rfl)
   ·exact ⟨l,p,by rw [e,List.concat_eq_append]⟩
  simp only [y4,List.getLast?_append,List.getLast?_singleton,Option.some_or,yU,y5,List.dropLast_concat];rw [yn,List.length_singleton] at h1;have hq:=h2 q (by simp);cases (q.1==z42 line) with
  | true =>
   refine ⟨?_,fun p hp=>?_,fun _=>?_⟩
   ·show (l++[_]).length+1≤_;rw [yn,List.length_singleton]; omega
   ·have hp:p∈l++[(z42 line,(q.2.1++bareB line,()))]:=hp;rcases List.mem_append.1 hp with hp | hp
    ·have:=h2 p (List.mem_append_left _ hp); omega
    ·rw [List.mem_singleton.1 hp];show (q.2.1++bareB line).length+1≤_;rw [yn];omega
   ·show l++[_]≠[];simp
  | false =>
   refine ⟨?_,fun p hp=>?_,fun _=>?_⟩
   ·show (l++[q]++[_]).length+1≤_;rw [yn,yn,List.length_singleton,List.length_singleton]; omega
   ·have hp:p∈l++[q]++[(z42 line,(bareB line,()))]:=hp;rcases List.mem_append.1 hp with hp | hp
    ·have:=h2 p hp; omega
    ·rw [List.mem_singleton.1 hp];show (bareB line).length+1≤_;omega
   ·show l++[q]++[_]≠[];simp
theorem qta {r:qcX} {m:Nat} (h:TakeInv r m) (hm:m≤1048577) {line:List UInt8} (hl:line.length≤1048576):qok r line=true:=by
 obtain ⟨h1,h2,h3⟩:=h;unfold qok lenOk;rw [dT hl,dT (show r.1.length≤1048576 by omega)];have h4:(r.1.all fun p=>decide (p.2.1.length≤1048576))=true:=by
  rw [List.all_eq_true];intro p hp;have:=h2 p hp;rw [ym];omega
 rw [h4];cases hop:r.2.1 with
 | false=>rfl
 | true =>
  have:=h3 hop;cases hr:r.1 with
  | nil=>exact absurd hr this
  | cons a b=>rfl
theorem qmU (k0:(List (Int×((List UInt8)×Unit)))×(Bool×Unit)→Option AV) (ls:List (List UInt8)) (hs:sumL ls≤1048577):∀ (d i n:Nat) (r:qcX) (m:Nat),i+d=ls.length→d < n→TakeInv r m→m+sumL (ls.drop i)≤1048578 →
 qgs k0 n r ls ((ls.length:Nat):Int) ((i:Nat):Int)=k0 ((ls.drop i).foldl z69 r)
 | d,i,0,r,m,_,hn,_,_=>absurd hn (by omega)
 | 0,i,n+1,r,m,he,_,_,_=>by
  have hstep:qgs k0 (n+1) r ls ((ls.length:Nat):Int) ((i:Nat):Int)=qet k0 (qgs k0 n) n r ls ((ls.length:Nat):Int) ((i:Nat):Int):=rfl;rw [hstep];unfold qet;rw [dF (by omega),List.drop_of_length_le (by omega)];rfl
 | d+1,i,n+1,r,m,he,hn,hi,hm=>by
  have hlt:i < ls.length:=by omega
  have hstep:qgs k0 (n+1) r ls ((ls.length:Nat):Int) ((i:Nat):Int)=qet k0 (qgs k0 n) n r ls ((ls.length:Nat):Int) ((i:Nat):Int):=rfl;rw [hstep];unfold qet;have hd:ls.drop i=ls[i] :: ls.drop (i+1):=(List.drop_eq_getElem_cons hlt);have hg:List.getD ls i []=ls[i]:=by simp [List.getD,hlt]
  rw [hd,qcA] at hm;have hx:=qgm (ls.drop (i+1));have hcnt:ls.length≤1048577:=yL (qgm ls) hs;have hm1:1≤m:=by have:=hi.len; omega
  rw [tn,hg,hd,List.foldl_cons,qta hi (by omega) (by omega)];simp (disch:=omega) only [dT,yc,yi];rw [wr (by omega)];have:=qmU k0 ls hs d (i+1) n (z69 r ls[i]) (m+(ls[i].length+1)) (by omega) (by omega) (qls hi _) (by omega);exact this
theorem qfx:∀ (ls:List (List UInt8)) (r:qcX),ls.foldl z69 r=((ls.foldl takeP (r.1,r.2.1)).1,((ls.foldl takeP (r.1,r.2.1)).2,()))
 | [],r=>rfl
 | x :: ls,r=>by
  rw [List.foldl_cons,List.foldl_cons,qfx ls];rfl
theorem qva:∀ (s0:List UInt8),(qlq s0=true)→∃ n,qte n s0=qtK (z36 s0):=fun s h=>⟨(z70 s).length+1,by
 have hl:=qm h;have hsum:=qiv s.length s (yv _);unfold qte;rw [show qsW s=true from h];have:=qmU (qgt ((z70 s).length+1)) (z70 s) (by omega) (z70 s).length 0 ((z70 s).length+1) ([],(false,())) 1 (by omega) (Nat.lt_succ_self _) ⟨yv _,fun p hp=>absurd hp (List.not_mem_nil),fun e=>by cases e⟩ (by rw [yw]; omega);rw [yw,qfx] at this;exact this⟩
end Go.Av
