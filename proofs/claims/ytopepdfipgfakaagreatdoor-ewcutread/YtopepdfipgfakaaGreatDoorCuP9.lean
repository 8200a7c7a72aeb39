import Derived.Test.YtopepdfipgfakaaGreatDoorCuP8
namespace Go.Av
set_option linter.unusedVariables false
set_option linter.unusedSimpArgs false
theorem qBH {cs code:Int} {p:List Int} {r:Int} (h:i32s p=true) (hl:p.length≤1048576) (hf:z156 cs code p r=true) (h1:1≤cs∧cs≤5) (h2:code=1∨code=2) :
 (z76 cs p).2=0∧z15 cs code (z76 cs p).1=((z15 cs code (z76 cs p).1).1,0):=by
 obtain ⟨j1,j2,j3,j4⟩:=qEG cs code p r h hl hf
 obtain ⟨k1,_,k3⟩:=qyX j1
 rw [k3] at j3 j4
 obtain ⟨e1,_⟩:=qEh h1 h2 (qrp k1 j2) j3
 exact ⟨k1,by rw [← e1]⟩
def qFY (cs:Int) (p:List Int) (w:List UInt8):Prop:=z24 w=true∧z22 w=cs∧z19 w=(p,true)∧w.length≤75
theorem qti (t:List Int) (rm:Int) (h:i32s t=true) (hl:t.length≤1048576) (h0:(z32 t rm).2=0) :
 ∃ (cs:Int) (ps:List (List Int)) (g:List Int→List UInt8),(z32 t rm).1=ps.map g∧ps.flatten=t∧(∀ p∈ps,qFY cs p (g p))∧∀ p,ps.head? = some p→(((g p).length:Nat):Int)≤rm:=by
 unfold z32 at h0 ⊢
 by_cases hh:(z30 t).2.2=0
 ·rw [bneF hh] at h0 ⊢
  simp only [cond_false] at h0 ⊢
  by_cases h1:(z28 (z30 t).1 (z30 t).2.1 t rm).2=0
  ·rw [bneF h1] at h0 ⊢
   simp only [cond_false] at h0 ⊢
   obtain ⟨k1,k2⟩:=qOO h hl hh
   obtain ⟨hfl,hx,hhead⟩:=qOP h hl h1
   have hw:∀ x∈(z28 (z30 t).1 (z30 t).2.1 t rm).1,∃ r',z156 (z30 t).1 (z30 t).2.1 x r'=true∧i32s x=true∧x.length≤1048576:=fun x hm=>by
    obtain ⟨j1,j2,r',j3⟩:=hx x hm
    exact ⟨r',j3,j1,by omega⟩
   refine ⟨(z30 t).1,(z28 (z30 t).1 (z30 t).2.1 t rm).1,fun x=>(z75 (z30 t).1 (z30 t).2.1 x).1,?_,hfl,fun p hp=>?_,fun p hp=>?_⟩
   ·rw [qim (fun x hm=>by
     obtain ⟨r',j3,j1,j2⟩:=hw x hm
     rw [(qob j1 j2 j3 k1 k2).1])]
   ·obtain ⟨r',j3,j1,j2⟩:=hw p hp
    obtain ⟨a1,a2,_⟩:=qob j1 j2 j3 k1 k2
    obtain ⟨b1,b2⟩:=qBH j1 j2 j3 k1 k2
    show qFY (z30 t).1 p (z75 (z30 t).1 (z30 t).2.1 p).1
    rw [a1] at a2 ⊢
    obtain ⟨c1,c2,c3⟩:=qzq b2
    rw [qxi p k1 b1] at c3
    exact ⟨c1,c2,c3,by
     have a2:(((z15 (z30 t).1 (z30 t).2.1 (z76 (z30 t).1 p).1).1.length:Nat):Int)≤75:=a2
     show (z15 (z30 t).1 (z30 t).2.1 (z76 (z30 t).1 p).1).1.length≤75
     omega⟩
   ·have hm:p∈(z28 (z30 t).1 (z30 t).2.1 t rm).1:=List.mem_of_mem_head? hp
    obtain ⟨_,_,j1,j2⟩:=hw p hm
    exact (qob j1 j2 (hhead p hp) k1 k2).2.2
  ·rw [bneT h1] at h0
   exact absurd h0 h1
 ·rw [bneT hh] at h0
  exact absurd h0 hh
theorem qBI (t:List Int) (rm:Int) (h0:(z32 t rm).2≠0):(z32 t rm).1=[]:=by
 unfold z32 at h0 ⊢
 cases h1:(z30 t).2.2 != 0 with
 | true=>rfl
 | false =>
  rw [h1] at h0
  simp only [cond_false] at h0 ⊢
  cases h2:(z28 (z30 t).1 (z30 t).2.1 t rm).2 != 0 with
  | true=>rfl
  | false =>
   rw [h2] at h0
   simp only [cond_false] at h0 ⊢
   generalize (z28 (z30 t).1 (z30 t).2.1 t rm).1=l at h0 ⊢
   cases l with
   | nil=>exact absurd rfl h0
   | cons p l =>
    rw [qaH] at h0 ⊢
    cases h3:(z75 (z30 t).1 (z30 t).2.1 p).2 != 0 with
    | true=>rfl
    | false =>
     rw [h3] at h0
     simp only [cond_false] at h0 ⊢
     cases h4:(qM (z75 (z30 t).1 (z30 t).2.1) l).2 != 0 with
     | true=>rfl
     | false =>
      rw [h4] at h0
      exact absurd rfl h0
theorem qqx (m:Nat) (t:List Int) (rm cs:Int) (ps:List (List Int)) (g:List Int→List UInt8) (ht:t.length≤1048576) (hl:ps.length≤1048576) (hg:∀ p∈ps,qFY cs p (g p)) (hh:∀ p,ps.head? = some p→(((g p).length:Nat):Int)≤rm) :
 ∀ (d i n:Nat) (acc:List Int),i+d=ps.length→d < n→acc++(ps.drop i).flatten=t →
 z9_l8 qhX (qhG m) n t rm (ps.map g) acc (ps.map g) (((ps.map g).length:Nat):Int) (i:Int)=qhX true
 | d,i,0,acc,hi,hn,ha=>by omega
 | 0,i,n+1,acc,hi,hn,ha=>by
  obtain rfl:i=ps.length:=by omega
  rw [List.drop_length,List.flatten_nil,List.append_nil] at ha
  subst ha
  show qiu _ _ _ n _ _ _ _ _ _ _=_
  unfold qiu
  rw [List.length_map,dF (by omega)]
  show qhG m acc acc=_
  unfold qhG
  rw [show qDR acc acc=true from qr ht,qxa]
  rfl
 | d+1,i,n+1,acc,hi,hn,ha=>by
  have hlt:i < ps.length:=by omega
  have hm:ps[i]∈ps:=List.getElem_mem hlt
  have hgi:(ps.map g).getD i []=g ps[i]:=by
   rw [List.getD_eq_getElem?_getD,List.getElem?_eq_getElem (by rw [List.length_map]; exact hlt),List.getElem_map]
   rfl
  have h0:0 < ps.length:=by omega
  have hm0:ps[0]∈ps:=List.getElem_mem h0
  have hg0:(ps.map g).getD 0 []=g ps[0]:=by
   rw [List.getD_eq_getElem?_getD,List.getElem?_eq_getElem (by rw [List.length_map]; exact h0),List.getElem_map]
   rfl
  obtain ⟨w1,w2,w3,w4⟩:=hg _ hm
  obtain ⟨v1,v2,v3,v4⟩:=hg _ hm0
  have hdr:(ps.drop i).flatten=ps[i]++(ps.drop (i+1)).flatten:=by rw [List.drop_eq_getElem_cons hlt,List.flatten_cons]
  rw [hdr,← List.append_assoc] at ha
  have hal:(acc++ps[i]).length≤1048576:=by
   have:=congrArg List.length ha
   rw [List.length_append] at this
   omega
  rw [List.length_append] at hal
  have ih:=qqx m t rm cs ps g ht hl hg hh d (i+1) n (acc++ps[i]) (by omega) (by omega) ha
  have hlen:(ps.map g).length=ps.length:=List.length_map ..
  rw [hlen] at ih
  show qiu _ _ _ n _ _ _ _ _ _ _=_
  unfold qiu
  have e0:(ps.map g).getD (Int.toNat 0) []=g ps[0]:=hg0
  have hroom:decide (acc.length+ps[i].length≤room)=true:=dT (by unfold room; omega)
  rw [hlen,tn,hgi,e0,show qDP (g ps[i])=true from qr (by omega),show qDO (g ps[i])=true from qr (by omega),show qhM (g ps[i])=true from qr (by omega),show qhM (g ps[0])=true from qr (by omega),
   show z20 (g ps[i])=(ps[i],true) from w3,show z25 (g ps[i])=true from w1,show z23 (g ps[i])=cs from w2,show z23 (g ps[0])=cs from v2,
   dT (show (i:Int) < ((ps.length:Nat):Int) by omega),dT (show (0:Int)≤(i:Int) by omega),dF (show ¬ (75:Int) < (((g ps[i]).length:Nat):Int) by omega),
   dT (show (0:Int)≤0 by omega),dT (show (0:Int) < ((ps.length:Nat):Int) by omega),bneF rfl,hroom,qk (by omega)]
  simp only [Bool.and_true,Bool.not_true,cond_true,cond_false]
  by_cases hz:i=0
  ·subst hz
   have hr:(((g ps[0]).length:Nat):Int)≤rm:=hh _ (by rw [List.head?_eq_getElem?,List.getElem?_eq_getElem h0])
   rw [show (((0:Nat):Int)==0)=true from rfl,dF (by omega)]
   simp only [cond_true,cond_false]
   exact ih
  ·rw [show ((i:Int)==0)=false from beq_eq_false_iff_ne.2 (by omega)]
   simp only [cond_false]
   exact ih
theorem qMh:∀ (t0:List Int) (first1:Int),(z9_ok t0 first1=true)→∃ n,z9_sh n t0 first1=qhX (z9 t0 first1):=fun t rm h=>⟨1048577,by
 have hi:i32s t=true:=h
 unfold z9_sh
 by_cases h80:(80:Int) < ((t.length:Nat):Int)
 ·rw [dT h80]; rfl
 ·rw [dF h80]
  have hl:t.length≤65536:=by omega
  rw [show qku t rm=true from dT hl]
  simp only [Bool.and_true,cond_true,cond_false]
  by_cases h0:(z32 t rm).2=0
  ·rw [bneF h0]
   simp only [cond_false]
   obtain ⟨k1,k2⟩:=qwY t rm
   obtain ⟨cs,ps,g,e1,e2,e3,e4⟩:=qti t rm hi (by omega) h0
   rw [e1] at k1 ⊢
   rw [List.length_map] at k1
   exact qqx 1048577 t rm cs ps g (by omega) (by omega) e3 e4 _ 0 1048577 [] (Nat.zero_add _) (by omega) (by rw [List.drop_zero,e2]; rfl)
  ·rw [bneT h0,qBI t rm h0]
   rfl⟩
end Go.Av
