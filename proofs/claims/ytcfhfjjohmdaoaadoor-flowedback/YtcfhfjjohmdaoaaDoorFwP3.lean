import Derived.Test.YtcfhfjjohmdaoaaDoorFwP2
import Derived.Test.YtcfhfjjohmdaoaaDoorFwC
namespace Go.Av
set_option linter.unusedSimpArgs false
set_option linter.unusedVariables false
theorem qcB (d:Int) (t:List UInt8):(qx d t).length≤d.toNat+1+t.length:=by
 unfold qx;rw [yn,yn,yQ];cases (decide (0 < d)||z80 t) <;> simp <;> omega
theorem qqO (k0:Int→Option AV) (d:Int) (t:List UInt8) (w:Int) (hd:d≤100) (hl:t.length≤1048576):∀ (k fu at1 n:Nat),k≤fu→n≤t.length →
 (t.length < k+n)→1≤k→qiI k0 fu d t w ((at1:Nat):Int) ((n:Nat):Int)=k0 ((cutL (fitB d t w) t k at1 n:Nat):Int)
 | 0,_,_,_,_,_,_,h1=>absurd h1 (by omega)
 | k+1,0,_,_,hk,_,_,_=>absurd hk (by omega)
 | k+1,fu+1,at1,n,hk,hn,hlt,_=>by
  have hstep:qiI k0 (fu+1) d t w ((at1:Nat):Int) ((n:Nat):Int)=qiH k0 (qiI k0 fu) fu d t w ((at1:Nat):Int) ((n:Nat):Int):=rfl;have hcut:cutL (fitB d t w) t (k+1) at1 n=bif decide (0 < n)&&decide (n < t.length) then
   (bif blkN (t.drop n)==0 then (bif fitB d t w n then n else at1) else cutL (fitB d t w) t k (bif fitB d t w n then n else at1) (n+blkN (t.drop n)))
   else at1:=rfl
  rw [hstep,hcut];unfold qiH qev qbF
  by_cases h0:0 < n
  ·by_cases h1:n < t.length
   ·have hb:=qnL (t.drop n);rw [yK] at hb;have hix:z99 (t.drop n) 32+1=((blkN (t.drop n):Nat):Int):=qig _;rw [tn,tn,tn,List.take_length,yw,hix,wr (by omega),wr (by omega)];rw [show qdj d (t.take n)=true by unfold qdj lenOk; rw [dT hd,yz,dT (by omega)]; rfl];have hfit:decide (((List.length (z48 d (t.take n)):Nat):Int)≤w)=fitB d t w n:=rfl;rw [hfit];rw [dT h0,dT h1];simp (disch:=omega) only [dT,yc,yi];have hz:((((blkN (t.drop n):Nat):Int))==(0:Int))=(blkN (t.drop n)==0):=by
     by_cases hz:blkN (t.drop n)=0
     ·rw [hz]; rfl
     ·rw [beq_eq_false_iff_ne.2 hz,bneI (by omega)]
    rw [hz];have hsum:((n:Nat):Int)+((blkN (t.drop n):Nat):Int)=((n+blkN (t.drop n):Nat):Int):=by omega
    rw [hsum]
    by_cases hb0:blkN (t.drop n)=0
    ·rw [hb0];cases fitB d t w n <;> rfl
    ·rw [beq_eq_false_iff_ne.2 hb0];simp only [yd];have rec1:=fun at2=>qqO k0 d t w hd hl k fu at2 (n+blkN (t.drop n)) (by omega) (by omega) (by omega)
     by_cases hk1:1≤k
     ·cases fitB d t w n
      ·exact rec1 at1 hk1
      ·exact rec1 n hk1
     ·omega
   ·rw [dT (show (0:Int) < ((n:Nat):Int) by omega),dF (show ¬ ((n:Nat):Int) < ((t.length:Nat):Int) by omega),dF h1,y3];rfl
  ·rw [dF (show ¬ (0:Int) < ((n:Nat):Int) by omega),dF h0];rfl
theorem qvb:∀ (depth0:Int) (t1:List UInt8) (width2:Int),(qol depth0 t1 width2=true)→∃ n,qtg n depth0 t1 width2=qtO (z90 depth0 t1 width2):=fun d t w h=>⟨t.length+1,by
 unfold qol at h;rw [yf,ym] at h;have hl:=qm h.2;have hb:=qnL t;have hix:z99 t 32+1=((blkN t:Nat):Int):=qig t;unfold qtg;rw [hix,wr (by omega),qqO _ d t w h.1 hl (t.length+1) (t.length+1) (blkN t) (blkN t) (yv _) hb (by omega) (by omega),quL (Nat.lt_succ_self _)];rfl⟩
def crlfs (d:Int) (l:List (List UInt8)):List UInt8:=l.flatMap fun x=>qx d x++[13,10]
theorem qbE (d:Int) (x:List UInt8) (l:List (List UInt8)):crlfs d (x :: l)=qx d x++[13,10]++crlfs d l:=List.flatMap_cons
theorem qye {d:Int} {t:List UInt8} {w:Int} (h:endSp t=false):z90 d t w=((cutN d t w:Nat):Int):=by
 unfold z90;rw [h,y3];rfl
theorem qqP (N:Nat) (p:Int×((List UInt8)×Unit)) (w:Int) (hd:p.1≤9):∀ (m fu:Nat) (t out:List UInt8),t.length≤m→m < fu→t.length≤200→endSp t=false→out.length+300*m≤1048576 →
 qiL (qbw N) fu out w p t=qna (out++crlfs p.1 (qap p.1 w m t))
 | m,0,_,_,_,h,_,_,_=>absurd h (by omega)
 | m,fu+1,t,out,hm,hf,ht,he,ho=>by
  have hstep:qiL (qbw N) (fu+1) out w p t=qiK (qbw N) (qiL (qbw N) fu) fu out w p t:=rfl;have hsl:=qcB p.1 t;have hdn:p.1.toNat≤9:=by omega
  have hok:qdj p.1 t=true:=by unfold qdj lenOk; rw [dT (by omega),dT (by omega)]; rfl
  have hlast:qbw N out p t=qna (out++crlfs p.1 [t]):=by
   unfold qbw;rw [hok,show z48 p.1 t=qx p.1 t from rfl,dT (show out.length+(qx p.1 t).length≤room by unfold room; omega),dT (show (out++qx p.1 t).length+([13,10]:List UInt8).length≤room by unfold room; rw [yn]; simp; omega)];rw [qbE,show crlfs p.1 []=[] from rfl,yG,← yl];rfl
  rw [hstep];unfold qiK qbG;rw [hok,qye he,show z48 p.1 t=qx p.1 t from rfl,show qol p.1 t w=true by unfold qol lenOk; rw [dT (by omega),dT (by omega)]; rfl];simp only [yc,yi]
  by_cases hw:w < ((List.length (qx p.1 t):Nat):Int)
  ·by_cases hc:cutN p.1 t w=0
   ·rw [dT hw,hc];have e:qap p.1 w m t=[t]:=by
     cases m with
     | zero=>rfl
     | succ m =>
      show (bif decide (w < (((qx p.1 t).length:Nat):Int))&&cutN p.1 t w != 0 then _ else [t])=[t];rw [hc];simp
    rw [e];exact hlast
   ·obtain ⟨k1,k2⟩:=qfw hc;obtain ⟨m',rfl⟩:∃ m',m=m'+1:=⟨m - 1,by omega⟩;have e:qap p.1 w (m'+1) t=t.take (cutN p.1 t w) :: qap p.1 w m' (t.drop (cutN p.1 t w)):=by
     show (bif decide (w < (((qx p.1 t).length:Nat):Int))&&cutN p.1 t w != 0 then _ else [t])=_;rw [dT hw,show (cutN p.1 t w != 0)=true from bne_iff_ne.2 hc];rfl
    generalize hcn:cutN p.1 t w=c at hc k1 k2 e;rw [dT hw,bneI (show ((c:Nat):Int)≠0 by omega),tn,tn,tn,List.take_length,yw];have hs2:=qcB p.1 (t.take c);rw [yz] at hs2;rw [show qdj p.1 (t.take c)=true by unfold qdj lenOk; rw [dT (by omega),yz,dT (by omega)]; rfl,show z48 p.1 (t.take c)=qx p.1 (t.take c) from rfl];have r1:out.length+(qx p.1 (t.take c)).length≤room:=by unfold room; omega
    have r2:(out++qx p.1 (t.take c)).length+([13,10]:List UInt8).length≤room:=by unfold room; rw [yn]; simp; omega
    rw [dT r1,dT r2];simp (disch:=omega) only [dT,yc,yd,yi];rw [e,qbE];have:=qqP N p w hd m' fu (t.drop c) (out++qx p.1 (t.take c)++[13,10]) (by rw [yK]; omega) (by omega) (by rw [yK]; omega) (by rw [qgh k1]; exact he)
     (by rw [yn,yn]; simp; omega)
    rw [this];congr 1;simp only [yl]
  ·rw [dF hw];have e:qap p.1 w m t=[t]:=by
    cases m with
    | zero=>rfl
    | succ m =>
     show (bif decide (w < (((qx p.1 t).length:Nat):Int))&&cutN p.1 t w != 0 then _ else [t])=[t];rw [dF hw];rfl
   rw [e];exact hlast
theorem qvc:∀ (out0:List UInt8) (p1:Int×((List UInt8)×Unit)) (width2:Int),(qon out0 p1 width2=true)→∃ n,qth n out0 p1 width2=qna (z73 out0 p1 width2):=fun out p w h=>⟨p.2.1.length+1,by
 unfold qon at h;simp only [yf,ym,Bool.not_eq_true'] at h;obtain ⟨h1,h2,h3,h4⟩:=h;unfold qth;rw [qqP _ p w h1 p.2.1.length _ p.2.1 out (yv _) (Nat.lt_succ_self _) h2 h4 (by omega)];rfl⟩
theorem qqQ (d:Int) (hd:d≤9) (w:Int):∀ (m:Nat) (t:List UInt8),(crlfs d (qap d w m t)).length≤13*t.length+12:=by
 have one:∀ x:List UInt8,(qx d x++[13,10]).length≤x.length+12:=fun x=>by
  have:=qcB d x;have hdn:d.toNat≤9:=by omega
  rw [yn]; simp; omega
 have sing:∀ t:List UInt8,(crlfs d [t]).length≤13*t.length+12:=fun t=>by
  have:=one t;rw [qbE,show crlfs d []=[] from rfl,yG];omega
 intro m;induction m with
 | zero=>intro t; exact sing t
 | succ m ih =>
  intro t;show (crlfs d (bif decide (w < (((qx d t).length:Nat):Int))&&cutN d t w != 0 then t.take (cutN d t w) :: qap d w m (t.drop (cutN d t w)) else [t])).length≤_;cases hc:(decide (w < (((qx d t).length:Nat):Int))&&cutN d t w != 0) with
  | false=>exact sing t
  | true =>
   rw [yf,bne_iff_ne] at hc;obtain ⟨k1,_⟩:=qfw hc.2;have h1:=one (t.take (cutN d t w));have h2:=ih (t.drop (cutN d t w));rw [yz] at h1;rw [yK] at h2;have:=hc.2;show (crlfs d (t.take (cutN d t w) :: qap d w m (t.drop (cutN d t w)))).length≤_;rw [qbE,yn];omega
theorem qlt {p:ParaT} (hp:p.1≤9) (w:Int):(layP p w).length≤13*p.2.1.length+12:=qqQ p.1 hp w _ _
def qdk (p:ParaT):Prop:=p.2.1.length≤200
theorem qgn {l:List ParaT} (h:qgk l=true):l.length≤12∧∀ p∈l,qdk p:=by
 unfold qgk at h;rw [yf,ym,List.all_eq_true] at h;exact ⟨h.1,fun p hp=>by have:=h.2 p hp; rw [ym] at this; exact this⟩
theorem qqR (ret:List UInt8→Int→Option AV) (k0:List (Int×((List UInt8)×Unit))→Int→Option AV) (l:List ParaT) (w:Int) (hl:l.length≤12) (hp:∀ p∈l,qdk p):∀ (d i n:Nat),i+d=l.length→d < n →
 qgv ret k0 n l w l ((l.length:Nat):Int) ((i:Nat):Int)=bif (l.drop i).all mayB then k0 l w else ret [] 3
 | d,i,0,_,hn=>absurd hn (by omega)
 | 0,i,n+1,he,_=>by
  have hstep:qgv ret k0 (n+1) l w l ((l.length:Nat):Int) ((i:Nat):Int)=qew ret k0 (qgv ret k0 n) n l w l ((l.length:Nat):Int) ((i:Nat):Int):=rfl;rw [hstep];unfold qew;rw [dF (by omega),List.drop_of_length_le (by omega)];rfl
 | d+1,i,n+1,he,hn=>by
  have hlt:i < l.length:=by omega
  have hstep:qgv ret k0 (n+1) l w l ((l.length:Nat):Int) ((i:Nat):Int)=qew ret k0 (qgv ret k0 n) n l w l ((l.length:Nat):Int) ((i:Nat):Int):=rfl;rw [hstep];unfold qew;have hd:l.drop i=l[i] :: l.drop (i+1):=List.drop_eq_getElem_cons hlt;have hg:List.getD l i ((0:Int),(([]:List UInt8),()))=l[i]:=by simp [List.getD,hlt]
  have hx:qdk l[i]:=hp _ (List.getElem_mem hlt);rw [tn,hg,hd,List.all_cons,show z72 l[i]=mayB l[i] from rfl,show qqI l[i]=true by unfold qqI lenOk; unfold qdk at hx; rw [dT (by omega)]];simp (disch:=omega) only [dT,yc,yi];rw [wr (by omega)];have:=qqR ret k0 l w hl hp d (i+1) n (by omega) (by omega);cases mayB l[i] with
  | false=>rfl
  | true=>exact this
theorem qiw {p:ParaT} (h:mayB p=true):0≤p.1∧p.1≤9∧endSp p.2.1=false:=by
 unfold mayB at h;simp only [yf,ym,Bool.not_eq_true',beq_iff_eq] at h;exact ⟨h.1.1,h.1.2,h.2.2.1⟩
theorem qqS (k2:List UInt8→Option AV) (l:List ParaT) (w:Int) (hl:l.length≤12) (hp:∀ p∈l,qdk p) (hm:l.all mayB=true):∀ (d i n:Nat) (out:List UInt8),i+d=l.length→d < n→out.length≤3000*i →
 qcp k2 n w out l ((l.length:Nat):Int) ((i:Nat):Int)=k2 (out++(l.drop i).flatMap fun p=>layP p w)
 | d,i,0,_,_,hn,_=>absurd hn (by omega)
 | 0,i,n+1,out,he,_,_=>by
  have hstep:qcp k2 (n+1) w out l ((l.length:Nat):Int) ((i:Nat):Int)=qcH k2 (qcp k2 n) n w out l ((l.length:Nat):Int) ((i:Nat):Int):=rfl;rw [hstep];unfold qcH;rw [dF (by omega),List.drop_of_length_le (by omega),List.flatMap_nil,yG];rfl
 | d+1,i,n+1,out,he,hn,ho=>by
  have hlt:i < l.length:=by omega
  have hstep:qcp k2 (n+1) w out l ((l.length:Nat):Int) ((i:Nat):Int)=qcH k2 (qcp k2 n) n w out l ((l.length:Nat):Int) ((i:Nat):Int):=rfl;rw [hstep];unfold qcH;have hd:l.drop i=l[i] :: l.drop (i+1):=List.drop_eq_getElem_cons hlt;have hg:List.getD l i ((0:Int),(([]:List UInt8),()))=l[i]:=by simp [List.getD,hlt]
  have hx:qdk l[i]:=hp _ (List.getElem_mem hlt);unfold qdk at hx;have hmi:=qiw (List.all_eq_true.1 hm _ (List.getElem_mem hlt));have hlen:=qlt hmi.2.1 w;rw [tn,hg,hd,List.flatMap_cons,show qon out l[i] w=true by unfold qon; rw [dT hmi.2.1,dT hx,dT (by omega),hmi.2.2]; rfl];simp (disch:=omega) only [dT,yc,yi];rw [wr (by omega),← yl];exact qqS k2 l w hl hp hm d (i+1) n (out++layP l[i] w) (by omega) (by omega) (by rw [yn]; omega)
theorem qvd:∀ (l0:List (Int×((List UInt8)×Unit))) (width1:Int),(qlr l0 width1=true)→∃ n,qti n l0 width1=qgu (z39 l0 width1).1 (z39 l0 width1).2:=fun l w h=>⟨l.length+1,by
 obtain ⟨hl,hp⟩:=qgn h;unfold qti z39 qcP
 by_cases h1:w < 10
 ·rw [dT h1]; rfl
 ·by_cases h2:1000 < w
  ·rw [dF h1,dT h2]; rfl
  ·rw [dF h1,dF h2];simp only [yd,Bool.or_false];have:=qqR qgu (qex (l.length+1)) l w hl hp l.length 0 (l.length+1) (by omega) (Nat.lt_succ_self _);rw [yw] at this;rw [show (0:Int)=((0:Nat):Int) from rfl,this];cases hm:l.all mayB with
   | false=>rfl
   | true =>
    have h3:=qqS (qdV (l.length+1)) l w hl hp hm l.length 0 (l.length+1) [] (by omega) (Nat.lt_succ_self _) (yv _);rw [yw,List.nil_append] at h3;exact h3⟩
end Go.Av
