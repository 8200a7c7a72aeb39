import Derived.Test.YtcfhfjjohmdaoaaDoorFwP4
namespace Go.Av
set_option linter.unusedSimpArgs false
set_option linter.unusedVariables false
theorem qhp (k0:Int→List UInt8→List UInt8→Option AV) (d:Int) (t:List UInt8) (hd:d≤100):∀ (m i fu:Nat) (out:List UInt8),d.toNat≤i+m→i≤d.toNat→m < fu→out.length≤1000+i →
 qgI k0 fu d t out ((i:Nat):Int)=k0 d t (out++List.replicate (d.toNat - i) 62)
 | m,i,0,_,_,_,h,_=>absurd h (by omega)
 | 0,i,fu+1,out,h1,h2,_,_=>by
  have hstep:qgI k0 (fu+1) d t out ((i:Nat):Int)=qeF k0 (qgI k0 fu) fu d t out ((i:Nat):Int):=rfl;rw [hstep];unfold qeF;rw [dF (by omega),show d.toNat - i=0 by omega,List.replicate_zero,yG];rfl
 | m+1,i,fu+1,out,h1,h2,h3,h4=>by
  have hstep:qgI k0 (fu+1) d t out ((i:Nat):Int)=qeF k0 (qgI k0 fu) fu d t out ((i:Nat):Int):=rfl;rw [hstep];unfold qeF
  by_cases h:((i:Nat):Int) < d
  ·rw [dT h,dT (show out.length+([62]:List UInt8).length≤room by unfold room; simp; omega),wr (by omega)];simp only [yc];have:=qhp k0 d t hd m (i+1) fu (out++[62]) (by omega) (by omega) (by omega) (by rw [yn]; simp; omega);refine Eq.trans this ?_;rw [show d.toNat - i=(d.toNat - (i+1))+1 by omega,List.replicate_succ,yl];rfl
  ·rw [dF h,show d.toNat - i=0 by omega,List.replicate_zero,yG];rfl
def headS:List UInt8→Bool
 | []=>false
 | c :: _=>(c==32)||(c==62)
theorem qko (t:List UInt8):z80 t=((t.take 5==fromB)||headS t):=by cases t <;> rfl
theorem qot (out t:List UInt8):(bif (decide ((0:Int) < ((List.length t:Nat):Int))) then
 bif ((decide ((0:Int)≤(0:Int)))&&(decide ((0:Int) < (List.length t:Nat)))) then
  bif ((List.getD t (Int.toNat (0:Int)) (0:UInt8))==(32:UInt8)) then qaa (out++([32]++t))
  else
   bif ((decide ((0:Int)≤(0:Int)))&&(decide ((0:Int) < (List.length t:Nat)))) then
    bif ((List.getD t (Int.toNat (0:Int)) (0:UInt8))==(62:UInt8)) then qaa (out++([32]++t)) else qaa (out++t)
   else none
 else none
 else qaa (out++t))=qaa (out++((bif headS t then [32] else [])++t)):=by
 cases t with
 | nil=>rfl
 | cons c r =>
  rw [dT (by simp)];show (bif c==32 then qaa (out++([32]++c :: r)) else bif c==62 then qaa (out++([32]++c :: r)) else qaa (out++c :: r))=qaa (out++((bif (c==32)||(c==62) then [32] else [])++c :: r));cases (c==32)
  ·cases (c==62) <;> rfl
  ·rfl
theorem qqU (N:Nat) (d:Int) (t out:List UInt8) (ho:out.length≤1000) (hl:t.length≤1048576):qdl N d t out=qaa (out++((bif decide (0 < d)||z80 t then [32] else [])++t)):=by
 have r1:decide (List.length out+List.length ([(32:UInt8)]:List UInt8)≤room)=true:=dT (by unfold room; simp; omega);have r2:decide (List.length (out++([(32:UInt8)]:List UInt8))+List.length t≤room)=true:=dT (by unfold room; rw [yn]; simp; omega);have r3:decide (List.length out+List.length t≤room)=true:=dT (by unfold room; omega);have c1:qaa ((out++([(32:UInt8)]:List UInt8))++t)=qaa (out++([32]++t)):=by rw [yl]
 unfold qdl qau qbJ qat qas;rw [r1,r2,r3,c1];simp only [yc];have hfrom:(List.drop (Int.toNat ((0:Nat):Int)) (List.take (Int.toNat (5:Int)) t))=t.take 5:=rfl;rw [hfrom];have hshort:¬ 5≤t.length→(t.take 5==fromB)=false:=fun hc=>by
  rw [yB];intro e;have:=congrArg List.length e;rw [yz] at this;simp [fromB] at this;omega
 have rest:=qot out t;rw [qko]
 by_cases h5:5≤t.length
 ·rw [dT (show (5:Int)≤((t.length:Nat):Int) by omega)];simp (disch:=omega) only [dT,yc,yi]
  by_cases h0:0 < d
  ·rw [dT h0]; rfl
  ·rw [dF h0];simp only [yd,Bool.false_or];cases hf:(t.take 5==fromB) with
   | true =>
    rw [show (List.take 5 t==[70,114,111,109,32])=true from hf];rfl
   | false =>
    rw [show (List.take 5 t==[70,114,111,109,32])=false from hf];simp only [yd,Bool.false_or];simp (disch:=omega) only [dT,yc,yi] at rest;exact rest
 ·rw [dF (show ¬ (5:Int)≤((t.length:Nat):Int) by omega),hshort h5]
  by_cases h0:0 < d
  ·rw [dT h0]; rfl
  ·rw [dF h0];simp only [yd,Bool.false_or];exact rest
theorem qvk:∀ (depth0:Int) (text1:List UInt8),(qcO depth0 text1=true)→∃ n,qtr n depth0 text1=qaa (z49 depth0 text1):=fun d t h=>⟨d.toNat+1,by
 unfold qcO at h;rw [yf,ym] at h;unfold qtr;have:=qhp (qdl (d.toNat+1)) d t h.1 d.toNat 0 (d.toNat+1) [] (by omega) (by omega) (Nat.lt_succ_self _) (by simp);refine Eq.trans this ?_;rw [List.nil_append,Nat.sub_zero,qqU _ d t _ (by rw [yQ]; omega) (qm h.2)];rfl⟩
def sigIn:List UInt8→Bool
 | []=>false
 | c :: r=>((c :: r).take 3==sig)||sigIn r
theorem pre3 (t:List UInt8):List.isPrefixOf sig t=(t.take 3==sig):=by
 match t with
 | []=>rfl
 | [a]=>show (45==a&&false)=_; rw [y3]; symm; rw [yB]; intro e; have:=congrArg List.length e; simp [sig] at this
 | [a,b]=>show (45==a&&(45==b&&false))=_; rw [y3,y3]; symm; rw [yB]; intro e; have:=congrArg List.length e; simp [sig] at this
 | a :: b :: c :: r =>
  show (45==a&&(45==b&&(32==c&&true)))=([a,b,c]==[45,45,32]);rw [yi]
  by_cases h:[a,b,c]=[45,45,32]
  ·rw [h,beq_self_eq_true];injection h with h1 h; injection h with h2 h; injection h with h3 h
   subst h1 h2 h3; rfl
  ·rw [beq_eq_false_iff_ne.2 h]
   by_cases h1:a=45
   ·by_cases h2:b=45
    ·by_cases h3:c=32
     ·exact absurd (by rw [h1,h2,h3]) h
     ·rw [show ((32:UInt8)==c)=false from beq_eq_false_iff_ne.2 (Ne.symm h3),y3,y3]
    ·rw [show ((45:UInt8)==b)=false from beq_eq_false_iff_ne.2 (Ne.symm h2),Bool.false_and,y3]
   ·rw [show ((45:UInt8)==a)=false from beq_eq_false_iff_ne.2 (Ne.symm h1),Bool.false_and]
theorem qhq:∀ t:List UInt8,(Lib.index t sig == -1) = !sigIn t
 | []=>rfl
 | c :: r=>by
  have e:Lib.index (c :: r) sig=if List.isPrefixOf sig (c :: r) then 0 else if Lib.index r sig == -1 then -1 else Lib.index r sig+1:=rfl
  have ih:=qhq r;have hge:=Lib.index_ge r sig;rw [e,pre3];unfold sigIn;cases ((c :: r).take 3==sig) with
  | true=>rfl
  | false =>
   rw [ih];cases hs:sigIn r with
   | false=>rfl
   | true =>
    rw [hs] at ih;have:Lib.index r sig ≠ -1:=fun e=>by rw [e] at ih; cases ih
    show (Lib.index r sig+1 == -1)=false;exact bneI (by omega)
theorem qmW (ret:Bool→Option AV) (k0:Int×((List UInt8)×Unit)→Int→Option AV) (p:ParaT) (hl:p.2.1.length≤1048576):∀ (d i n:Nat),i+d=p.2.1.length→d < n →
 qgJ ret k0 n p ((p.2.1.length:Nat):Int) ((i:Nat):Int)=bif (p.2.1.drop i).any qaD||sigIn (p.2.1.drop i) then ret false else k0 p ((p.2.1.length:Nat):Int)
 | d,i,0,_,hn=>absurd hn (by omega)
 | 0,i,n+1,he,_=>by
  have hstep:qgJ ret k0 (n+1) p ((p.2.1.length:Nat):Int) ((i:Nat):Int)=qeG ret k0 (qgJ ret k0 n) n p ((p.2.1.length:Nat):Int) ((i:Nat):Int):=rfl;rw [hstep];unfold qeG;rw [dF (by omega),List.drop_of_length_le (show p.2.1.length≤i by omega)];rfl
 | d+1,i,n+1,he,hn=>by
  have h1:i < p.2.1.length:=by omega
  have hstep:qgJ ret k0 (n+1) p ((p.2.1.length:Nat):Int) ((i:Nat):Int)=qeG ret k0 (qgJ ret k0 n) n p ((p.2.1.length:Nat):Int) ((i:Nat):Int):=rfl;have hrec:=qmW ret k0 p hl d (i+1) n (by omega) (by omega);rw [hstep];unfold qeG;have hg:List.getD p.2.1 i (0:UInt8)=p.2.1[i]:=by simp [List.getD,h1]
  have hd:p.2.1.drop i=p.2.1[i] :: p.2.1.drop (i+1):=List.drop_eq_getElem_cons h1;have hw1:IntKind.wrap .i64 (((i:Nat):Int)+(1:Int))=((i+1:Nat):Int):=by rw [wr (by omega)]; omega
  have hw3:IntKind.wrap .i64 (((i:Nat):Int)+(3:Int))=((i+3:Nat):Int):=by rw [wr (by omega)]; omega
  have ht:List.drop i (List.take (i+3) p.2.1)=(p.2.1[i] :: p.2.1.drop (i+1)).take 3:=by rw [← hd,List.drop_take,show i+3 - i=3 by omega]
  rw [tn,hg,hw1,hw3,tn,ht,hrec,hd,List.any_cons];simp (disch:=omega) only [dT,yc,yi];have hs:sigIn (p.2.1[i] :: p.2.1.drop (i+1))=(((p.2.1[i] :: p.2.1.drop (i+1)).take 3==sig)||sigIn (p.2.1.drop (i+1))):=rfl;rw [hs];unfold qaD;cases (p.2.1[i]==13) with
  | true=>rfl
  | false =>
   cases (p.2.1[i]==10) with
   | true=>rfl
   | false =>
    simp only [yd,Bool.false_or]
    by_cases h3:i+3≤p.2.1.length
    ·rw [dT (show ((i+3:Nat):Int)≤((p.2.1.length:Nat):Int) by omega)];simp (disch:=omega) only [dT,yc,yi];cases hq:((p.2.1[i] :: p.2.1.drop (i+1)).take 3==sig) with
     | true =>
      rw [show ((p.2.1[i] :: p.2.1.drop (i+1)).take 3==[45,45,32])=true from hq];simp
     | false =>
      rw [show ((p.2.1[i] :: p.2.1.drop (i+1)).take 3==[45,45,32])=false from hq];simp
    ·rw [dF (show ¬ ((i+3:Nat):Int)≤((p.2.1.length:Nat):Int) by omega)];have hq:((p.2.1[i] :: p.2.1.drop (i+1)).take 3==sig)=false:=by
      rw [yB];intro e;have:=congrArg List.length e;rw [← hd,yz,yK] at this;simp [sig] at this;omega
     rw [hq];simp
theorem qvl:∀ (p0:Int×((List UInt8)×Unit)),(qqJ p0=true)→∃ n,qts n p0=qcY (z74 p0):=fun p h=>⟨p.2.1.length+1,by
 have hl:=qm h;unfold qts z74 mayB
 by_cases h1:p.1 < 0
 ·rw [dT h1,dF (show ¬ (0:Int)≤p.1 by omega)]; rfl
 ·by_cases h2:9 < p.1
  ·rw [dF h1,dT h2,dT (show (0:Int)≤p.1 by omega),dF (show ¬ p.1≤9 by omega)]; rfl
  ·rw [dF h1,dF h2,dT (show (0:Int)≤p.1 by omega),dT (show p.1≤9 by omega)];simp only [yd,y4];have:=qmW qcY (qeH (p.2.1.length+1)) p hl p.2.1.length 0 (p.2.1.length+1) (by omega) (Nat.lt_succ_self _);rw [yw] at this;refine Eq.trans this ?_;rw [qhq];cases p.2.1.any qaD with
   | true=>rfl
   | false =>
    cases sigIn p.2.1 with
    | true=>simp
    | false =>
     simp only [Bool.or_false,yd,Bool.not_false,y4,yi];unfold qeH endSp;rcases List.eq_nil_or_concat p.2.1 with e | ⟨l,c,e⟩
     ·rw [e]; rfl
     ·rw [e,List.concat_eq_append] at hl ⊢;simp only [yn,yg,List.length_nil] at hl ⊢;have e2:IntKind.wrap .i64 (((l.length+(0+1):Nat):Int) - (1:Int))=((l.length:Nat):Int):=by rw [wr (by omega)]; omega
      rw [e2,tn,qcN,List.getLast?_append,bneI (show (((l.length+(0+1):Nat):Int))≠0 by omega)];simp (disch:=omega) only [dT,yc,yd,yi];show qcY (c != 32)=qcY (!(some c==some 32));rfl⟩
theorem qkp (k0:Int→Option AV) (d:Int) (t:List UInt8) (w:Int) (hd:d≤100) (hl:t.length≤1048576):∀ (m i fu best:Nat),i+1+m=t.length→m < fu→best≤i →
 qgK k0 fu d t w ((best:Nat):Int) ((i+1:Nat):Int)=k0 ((scanC (fitB d t w) (t.drop i) i best:Nat):Int)
 | m,i,0,_,_,h,_=>absurd h (by omega)
 | 0,i,fu+1,best,he,_,_=>by
  have hstep:qgK k0 (fu+1) d t w ((best:Nat):Int) ((i+1:Nat):Int)=qeI k0 (qgK k0 fu) fu d t w ((best:Nat):Int) ((i+1:Nat):Int):=rfl;have h1:i < t.length:=by omega
  have hdr:t.drop i=[t[i]]:=by rw [List.drop_eq_getElem_cons h1,List.drop_of_length_le (by omega)]
  rw [hstep,hdr];unfold qeI;rw [dF (by omega)];have:scanC (fitB d t w) [t[i]] i best=bif (t[i]==32)&&(!(([]:List UInt8)).isEmpty&&((best==0)||fitB d t w (i+1))) then i+1 else best:=rfl
  rw [this];simp
 | m+1,i,fu+1,best,he,hf,hb=>by
  have hstep:qgK k0 (fu+1) d t w ((best:Nat):Int) ((i+1:Nat):Int)=qeI k0 (qgK k0 fu) fu d t w ((best:Nat):Int) ((i+1:Nat):Int):=rfl;have h1:i < t.length:=by omega
  have hdr:t.drop i=t[i] :: t.drop (i+1):=List.drop_eq_getElem_cons h1;have hne:(t.drop (i+1)).isEmpty=false:=by
   rw [List.isEmpty_eq_false_iff];intro e;have:=congrArg List.length e;rw [yK,List.length_nil] at this;omega
  have hg:List.getD t i (0:UInt8)=t[i]:=by simp [List.getD,h1]
  have hrec:=fun b hb=>qkp k0 d t w hd hl m (i+1) fu b (by omega) (by omega) hb;have hscan:scanC (fitB d t w) (t[i] :: t.drop (i+1)) i best=bif (t[i]==32)&&(!(t.drop (i+1)).isEmpty&&((best==0)||fitB d t w (i+1))) then scanC (fitB d t w) (t.drop (i+1)) (i+1) (i+1) else scanC (fitB d t w) (t.drop (i+1)) (i+1) best:=rfl
  rw [hstep,hdr,hscan,hne];unfold qeI;have hwm:IntKind.wrap .i64 (((i+1:Nat):Int) - (1:Int))=((i:Nat):Int):=by rw [wr (by omega)]; omega
  have hwp:IntKind.wrap .i64 (((i+1:Nat):Int)+(1:Int))=((i+1+1:Nat):Int):=by rw [wr (by omega)]; omega
  rw [hwm,hwp,tn,hg,tn,tn,yw,hrec best (by omega),hrec (i+1) (by omega)];rw [show qcO d (t.take (i+1))=true by unfold qcO lenOk; rw [dT hd,yz,dT (by omega)]; rfl];have hfit:decide (((List.length (z49 d (t.take (i+1))):Nat):Int)≤w)=fitB d t w (i+1):=rfl;rw [hfit];simp (disch:=omega) only [dT,yc,yi];have hz:((((best:Nat):Int))==(0:Int))=(best==0):=by
   by_cases hz:best=0
   ·rw [hz]; rfl
   ·rw [beq_eq_false_iff_ne.2 hz,bneI (by omega)]
  rw [hz,bne];cases (t[i]==32) with
  | false=>rfl
  | true =>
   cases (best==0) with
   | true=>rfl
   | false=>cases fitB d t w (i+1) <;> rfl
theorem qvm:∀ (depth0:Int) (t1:List UInt8) (width2:Int),(qom depth0 t1 width2=true)→∃ n,qtt n depth0 t1 width2=qtS (z75 depth0 t1 width2):=fun d t w h=>⟨t.length+1,by
 unfold qom at h;rw [yf,ym] at h;have hl:=qm h.2;unfold qtt;cases t with
 | nil=>rfl
 | cons c r =>
  have:=qkp (qgL ((c :: r).length+1)) d (c :: r) w h.1 hl r.length 0 ((c :: r).length+1) 0 (by rw [yg]; omega) (by rw [yg]; omega) (yv _);exact this⟩
end Go.Av
