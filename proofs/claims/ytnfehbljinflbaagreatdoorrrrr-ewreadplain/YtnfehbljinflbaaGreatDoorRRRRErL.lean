import Derived.Test.YtnfehbljinflbaaGreatDoorRRRRErM
import Derived.Test.YtnfehbljinflbaaGreatDoorRRRREfL
namespace Go.Av
set_option linter.unusedVariables false
set_option linter.unusedSimpArgs false
theorem fin8E {P:UInt8→Prop} (h:∀ i:Fin 256,P (UInt8.ofNat i.val)) (c:UInt8):P c:=by
 have:=h ⟨c.toNat,c.toNat_lt⟩;simpa using this
theorem qmr (p:qF):(qbd p).length≤p.2.1.length:=by
 unfold qbd;cases p.1==3 with
 | false=>exact qnt _ _
 | true=>exact qtU _
theorem qdV:∀ (n:Nat) (s:List UInt8),s.length≤n→joinP (qbz n s)=s
 | 0,s,h=>by
  obtain rfl:s=[]:=yF (by omega);rfl
 | n+1,[],_=>rfl
 | n+1,c :: r,h=>by
  show joinP ((kindB ((c :: r).take (alike (c :: r))),((c :: r).take (alike (c :: r)),())) :: qbz n ((c :: r).drop (alike (c :: r))))=c :: r;have hl:alike (c :: r)=(r.takeWhile fun x=>gapB x==gapB c).length+1:=rfl;have ih:=qdV n ((c :: r).drop (alike (c :: r))) (by rw [yK,hl]; simp only [yg] at h ⊢; omega);have e:joinP ((kindB ((c :: r).take (alike (c :: r))),((c :: r).take (alike (c :: r)),())) :: qbz n ((c :: r).drop (alike (c :: r))))=(c :: r).take (alike (c :: r))++joinP (qbz n ((c :: r).drop (alike (c :: r)))):=rfl;rw [e,ih,yX]
theorem qvx (l:List qF):∀ (d i:Nat),i+d=l.length→((showF l d i).map fun p=>p.2.1.length).sum≤((l.drop i).map fun p=>p.2.1.length).sum
 | 0,i,h=>Nat.zero_le _
 | d+1,i,h=>by
  have hlt:i < l.length:=by omega
  have ih:=qvx l d (i+1) (by omega);rw [List.drop_eq_getElem_cons hlt,yI,List.sum_cons];show ((bif qaR l i then showF l d (i+1) else l.getD i (0,([],())) :: showF l d (i+1)).map fun p=>p.2.1.length).sum≤_;cases qaR l i with
  | true=>show ((showF l d (i+1)).map fun p=>p.2.1.length).sum≤_; omega
  | false =>
   have e:l.getD i (0,([],()))=l[i]:=by rw [yY,yO hlt]; rfl
   rw [e];show ((l[i] :: showF l d (i+1)).map fun p=>p.2.1.length).sum≤_;rw [yI,List.sum_cons];omega
theorem qzC (l:List qF):(l.map fun p=>p.2.1.length).sum=(joinP l).length:=by
 unfold joinP;rw [List.length_flatMap]
theorem qqa (s:List UInt8):((z37 s).map fun p=>p.2.1.length).sum≤s.length:=by
 have h:=qvx (qcB s) (qcB s).length 0 (yE _);rw [yw,qzC (qcB s),show joinP (qcB s)=s from qdV _ s (yv _)] at h;exact h
theorem qgn:∀ (s:List UInt8) (k:Nat),(unfS k s).length≤s.length
 | [],k=>by cases k <;> exact yv _
 | x :: r,0=>by
  show (bif qfw (x :: r) then unfS 1 r else x :: unfS 0 r).length≤_;have h1:=qgn r 1;have h0:=qgn r 0;cases qfw (x :: r) with
  | true=>show (unfS 1 r).length≤_; rw [yg]; omega
  | false=>show (x :: unfS 0 r).length≤_; rw [yg,yg]; omega
 | x :: r,k+1=>by
  show (unfS k r).length≤_;have:=qgn r k;rw [yg];omega
def noEQE:List UInt8→Bool
 | a :: b :: r => !((a==61)&&(b==63))&&noEQE (b :: r)
 | _=>true
def qfm (c:UInt8):Bool:=decide (32≤c)&&decide (c≤126)
theorem qqb:∀ (n:Nat) (s:List UInt8),noEQE s=true→noEQE (s.drop n)=true
 | 0,_,h=>h
 | n+1,[],_=>rfl
 | n+1,[a],_=>by simp [noEQE]
 | n+1,a :: b :: r,h=>by
  have h:(!((a==61)&&(b==63))&&noEQE (b :: r))=true:=h;rw [yf] at h;exact qqb n (b :: r) h.2
theorem qqc:∀ (n:Nat) (s:List UInt8),noEQE s=true→noEQE (s.take n)=true
 | 0,_,_=>rfl
 | n+1,[],_=>rfl
 | n+1,[a],_=>by simp [noEQE]
 | 1,a :: b :: r,h=>rfl
 | n+2,a :: b :: r,h=>by
  have h:(!((a==61)&&(b==63))&&noEQE (b :: r))=true:=h;rw [yf] at h;have ih:noEQE ((b :: r).take (n+1))=true:=qqc (n+1) (b :: r) h.2;show (!((a==61)&&(b==63))&&noEQE (b :: r.take n))=true;rw [h.1];exact ih
theorem qqd:∀ (s:List UInt8) (c:UInt8),noEQE s=true→((c==63)&&(decide (0 < s.length)&&(s.getLast? == some 61)))=false→noEQE (s++[c])=true
 | [],c,_,_=>rfl
 | [a],c,_,h=>by
  show (!((a==61)&&(c==63))&&true)=true;cases ha:a==61 with
  | false=>rfl
  | true =>
   cases hc:c==63 with
   | false=>rfl
   | true =>
    rw [hc] at h;obtain rfl:=beq_iff_eq.1 ha;exact absurd h (by decide)
 | a :: b :: r,c,hs,h=>by
  have hs:(!((a==61)&&(b==63))&&noEQE (b :: r))=true:=hs;rw [yf] at hs;show (!((a==61)&&(b==63))&&noEQE (b :: r++[c]))=true;rw [hs.1,qqd (b :: r) c hs.2 (by
   have e:(a :: b :: r).getLast? = (b :: r).getLast? := rfl;rw [e] at h;simpa using h)]
  rfl
theorem qms (c:UInt8):∀ (s cur a:List UInt8) (rest:List (List UInt8)),cutC c cur s=a :: rest→rest≠[]→∃ r,cur++s=a++c :: r
 | [],cur,a,rest,h,hr=>by
  have h:[cur]=a :: rest:=h;simp only [List.cons.injEq] at h;exact absurd h.2.symm hr
 | x :: s,cur,a,rest,h,hr=>by
  have h:(bif x==c then cur :: cutC c [] s else cutC c (cur++[x]) s)=a :: rest:=h;cases hx:x==c with
  | true =>
   rw [hx] at h;simp only [yc,List.cons.injEq] at h;obtain rfl:=beq_iff_eq.1 hx;exact ⟨s,by rw [h.1]⟩
  | false =>
   rw [hx] at h;obtain ⟨r,e⟩:=qms c s (cur++[x]) a rest h hr;exact ⟨r,by rw [← e,yl]; rfl⟩
theorem qHL {s:List UInt8} (h:noEQE s=true):z130 s=false:=by
 unfold z130 z51;generalize hc:cutC 63 [] s=L;match L,hc with
 | [a,name,c,text,b],hc =>
  show ((bif decide (a=[61])&&decide (b=[61]) then _ else (qsv,(3:Int))).2==0)=false
  by_cases ha:a=[61]
  ·subst ha;obtain ⟨r,e⟩:=qms 63 s [] [61] _ hc (by simp);rw [List.nil_append] at e;subst e;exact absurd (show (!((61:UInt8)==61&&(63:UInt8)==63)&&noEQE (63 :: r))=true from h) (by simp)
  ·rw [show decide (a=[61])=false from yx ha];rfl
 | [],_=>rfl
 | [_],_=>rfl
 | [_,_],_=>rfl
 | [_,_,_],_=>rfl
 | [_,_,_,_],_=>rfl
 | _ :: _ :: _ :: _ :: _ :: _ :: _,_=>rfl
theorem qvy {s:List UInt8} (h:noEQE s=true):(kindB s==3)=false:=by
 unfold kindB;rw [qHL h];cases (!s.isEmpty&&s.all gapB) <;> rfl
theorem qhD:∀ (n:Nat) (s:List UInt8),noEQE s=true→s.all qfm=true→∀ p∈qbz n s,(p.1==3)=false∧p.2.1.all qfm=true
 | 0,s,_,_,p,hp=>by cases hp
 | n+1,[],_,_,p,hp=>by cases hp
 | n+1,c :: r,h,ha,p,hp=>by
  have hp:p∈(kindB ((c :: r).take (alike (c :: r))),((c :: r).take (alike (c :: r)),())) :: qbz n ((c :: r).drop (alike (c :: r))):=hp;have hsub:∀ l:List UInt8,(∀ x∈l,x∈c :: r)→l.all qfm=true:=fun l hl=>List.all_eq_true.2 fun x hx=>List.all_eq_true.1 ha x (hl x hx);rcases List.mem_cons.1 hp with rfl | hp
  ·exact ⟨qvy (qqc _ _ h),hsub _ fun x hx=>List.mem_of_mem_take hx⟩
  ·exact qhD n _ (qqb _ _ h) (hsub _ fun x hx=>List.mem_of_mem_drop hx) p hp
theorem qvz (l:List qF) (h:∀ p∈l,(p.1==3)=false):∀ (d i:Nat),i+d=l.length→showF l d i=l.drop i
 | 0,i,hi=>by
  obtain rfl:i=l.length:=by omega
  rw [List.drop_length];rfl
 | d+1,i,hi=>by
  have hlt:i < l.length:=by omega
  have hh:qaR l i=false:=by
   unfold qaR
   by_cases h0:0 < i
   ·have hm:(qxr l (i - 1)==3)=false:=by
     unfold qxr;rw [yY,yO (by omega)];exact h _ (List.getElem_mem _)
    rw [hm];simp
   ·rw [show decide (0 < i)=false from yx h0];simp
  show (bif qaR l i then showF l d (i+1) else l.getD i (0,([],())) :: showF l d (i+1))=_;rw [hh,qvz l h d (i+1) (by omega),List.drop_eq_getElem_cons hlt];show l.getD i (0,([],())) :: l.drop (i+1)=_;rw [yY,yO hlt];rfl
theorem qmt:∀ s:List UInt8,s.all qfm=true→unfS 0 s=s
 | [],_=>rfl
 | c :: r,h=>by
  rw [List.all_cons,yf] at h;have hf:qfw (c :: r)=false:=by
   have hc:(c==13)=false:=by
    rw [yB];intro e;subst e;exact absurd h.1 (by decide)
   unfold qfw;split
   ·rename_i a b z t e;cases e;rw [hc];rfl
   ·rfl
  show (bif qfw (c :: r) then unfS 1 r else c :: unfS 0 r)=_;rw [hf,qmt r h.2];rfl
theorem qqe:∀ (s:List UInt8) (n:Nat),s.all qfm=true→s.length < n→utfR n s=s.map fun c=>(c.toNat:Int)
 | [],0,_,h=>by simp at h
 | [],n+1,_,_=>rfl
 | c :: r,0,_,h=>by simp at h
 | c :: r,n+1,h,hn=>by
  rw [List.all_cons,yf] at h;have k:=fin8E (P:=fun c=>qfm c=true→qn c=1∧(c &&& (255 ^^^ z133 ((1:Nat):Int)))=c) (by decide +kernel) c h.1;have hf:farN (c :: r)=1:=by
   show (bif qn c==0 then 0 else 1+runB c (qn c - 1) true r)=1;rw [k.1];rfl
  have ht:z102 (c :: r)=((c.toNat:Int),1,0):=by
   unfold z102;simp only [hf,k.1];show (((c &&& (255 ^^^ z133 ((1:Nat):Int))).toNat:Int),((1:Nat):Int),(0:Int))=_;rw [k.2];rfl
  show (bif (z102 (c :: r)).2.2 != 0 then 65533 else (z102 (c :: r)).1) :: utfR n ((c :: r).drop (z102 (c :: r)).2.1.toNat)=_;rw [ht];show (c.toNat:Int) :: utfR n r=_;rw [qqe r n h.2 (by rw [yg] at hn; omega)];rfl
theorem qvA {s:List UInt8} (h:noEQE s=true) (ha:s.all qfm=true):z9 s=(s.map fun c=>(c.toNat:Int))∧z16 s=[]:=by
 have hu:unf s=s:=qmt s ha;have hp:=qhD s.length s h ha;have hsh:z37 s=qcB s:=by
  unfold z37 qIj;rw [qvz (qcB s) (fun p hp'=>(hp p hp').1) _ 0 (yE _),yw]
 refine ⟨?_,?_⟩
 ·unfold z9 z11;rw [hu,hsh];have key:∀ l:List qF,(∀ p∈l,(p.1==3)=false∧p.2.1.all qfm=true)→l.flatMap qbd=(joinP l).map fun c=>(c.toNat:Int):=fun l=>by
   induction l with
   | nil=>intro _; rfl
   | cons p l ih =>
    intro hl;obtain ⟨h1,h2⟩:=hl p (by simp);rw [List.flatMap_cons,ih (fun q hq=>hl q (by simp [hq]))];unfold joinP;rw [List.flatMap_cons,List.map_append];congr 1;unfold qbd;rw [h1];exact qqe _ _ h2 (Nat.lt_succ_self _)
  rw [key (qcB s) hp,show joinP (qcB s)=s from qdV _ s (yv _)]
 ·unfold z16 qfD;rw [hu,hsh];have:(qcB s).filter (fun p=>p.1==3)=[]:=by
   rw [List.filter_eq_nil_iff];intro p hp';rw [(hp p hp').1];decide
  rw [this];rfl
end Go.Av
