import Derived.Test.YtcfhfjjohmdaoaaDoorFwP5
import Derived.KernelRfl
namespace Go.Av
set_option linter.unusedSimpArgs false
set_option linter.unusedVariables false
theorem qbv {α:Type} {l:List α} (h:l.length≤1048576):lenOk l=true:=by unfold lenOk; rw [ym]; exact h
theorem qgo (ret:List UInt8→Int→Option AV) (k0:List (Int×((List UInt8)×Unit))→Int→Option AV) (l:List ParaT) (w:Int) (hl:l.length≤12) (hp:∀ p∈l,qdk p):∀ (d i n:Nat),i+d=l.length→d < n →
 qgN ret k0 n l w ((i:Nat):Int)=bif (l.drop i).all mayB then k0 l w else ret [] 3
 | d,i,0,_,hn=>absurd hn (by omega)
 | 0,i,n+1,he,_=>by
  have hstep:qgN ret k0 (n+1) l w ((i:Nat):Int)=qeJ ret k0 (qgN ret k0 n) n l w ((i:Nat):Int):=rfl;rw [hstep];unfold qeJ;rw [dF (by omega),List.drop_of_length_le (by omega)];rfl
 | d+1,i,n+1,he,hn=>by
  have hlt:i < l.length:=by omega
  have hstep:qgN ret k0 (n+1) l w ((i:Nat):Int)=qeJ ret k0 (qgN ret k0 n) n l w ((i:Nat):Int):=rfl;rw [hstep];unfold qeJ;have hd:l.drop i=l[i] :: l.drop (i+1):=List.drop_eq_getElem_cons hlt;have hg:List.getD l i ((0:Int),(([]:List UInt8),()))=l[i]:=by simp [List.getD,hlt]
  have hx:qdk l[i]:=hp _ (List.getElem_mem hlt);rw [tn,hg,hd,List.all_cons,show z74 l[i]=mayB l[i] from rfl,show qqJ l[i]=true by unfold qqJ lenOk; unfold qdk at hx; rw [dT (by omega)]];simp (disch:=omega) only [dT,yc,yi];rw [wr (by omega)];have:=qgo ret k0 l w hl hp d (i+1) n (by omega) (by omega);cases mayB l[i] with
  | false=>rfl
  | true=>exact this
theorem qkq (k2:List UInt8→Option AV) (nx:List (Int×((List UInt8)×Unit))→Int→List UInt8→Int→Option AV) (N:Nat) (l:List ParaT) (w:Int) (i:Nat) (hi:i < l.length) (hl:l.length≤12) (p:ParaT) (hpi:List.getD l i ((0:Int),(([]:List UInt8),()))=p) (hd:p.1≤9) :
 ∀ (m fu:Nat) (t out:List UInt8),t.length≤m→m < fu→t.length≤200→endSp t=false→out.length+300*m≤1048576 →
 qdW (qaL k2 nx N) fu l w out ((i:Nat):Int) t=nx l w (out++crlfs p.1 (qap p.1 w m t)) ((i+1:Nat):Int)
 | m,0,_,_,_,h,_,_,_=>absurd h (by omega)
 | m,fu+1,t,out,hm,hf,ht,he,ho=>by
  have hstep:qdW (qaL k2 nx N) (fu+1) l w out ((i:Nat):Int) t=qfA (qaL k2 nx N) (qdW (qaL k2 nx N) fu) fu l w out ((i:Nat):Int) t:=rfl;have hsl:=qcB p.1 t;have hdn:p.1.toNat≤9:=by omega
  have hok:qcO p.1 t=true:=by unfold qcO lenOk; rw [dT (by omega),dT (by omega)]; rfl
  have hidx:((decide ((0:Int)≤((i:Nat):Int)))&&(decide (((i:Nat):Int) < (List.length l:Nat))))=true:=by rw [dT (by omega),dT (by omega)]; rfl
  have hlast:qaL k2 nx N l w out ((i:Nat):Int) t=nx l w (out++crlfs p.1 [t]) ((i+1:Nat):Int):=by
   unfold qaL qbi;rw [hidx,tn,hpi,hok,show z49 p.1 t=qx p.1 t from rfl,dT (show out.length+(qx p.1 t).length≤room by unfold room; omega),dT (show (out++qx p.1 t).length+([13,10]:List UInt8).length≤room by unfold room; rw [yn]; simp; omega)];rw [qbE,show crlfs p.1 []=[] from rfl,yG,← yl,wr (by omega)];rfl
  rw [hstep];unfold qfA qT qdm qan qD;rw [hidx,tn,hpi,hok,show z49 p.1 t=qx p.1 t from rfl,show qom p.1 t w=true by unfold qom lenOk; rw [dT (by omega),dT (by omega)]; rfl,show z75 p.1 t w=((cutN p.1 t w:Nat):Int) from rfl];simp only [yc,yi]
  by_cases hw:w < ((List.length (qx p.1 t):Nat):Int)
  ·by_cases hc:cutN p.1 t w=0
   ·rw [dT hw,hc];have e:qap p.1 w m t=[t]:=by
     cases m with
     | zero=>rfl
     | succ m =>
      show (bif decide (w < (((qx p.1 t).length:Nat):Int))&&cutN p.1 t w != 0 then _ else [t])=[t];rw [hc];simp
    rw [e];exact hlast
   ·obtain ⟨k1,k2'⟩:=qfw hc;obtain ⟨m',rfl⟩:∃ m',m=m'+1:=⟨m - 1,by omega⟩;have e:qap p.1 w (m'+1) t=t.take (cutN p.1 t w) :: qap p.1 w m' (t.drop (cutN p.1 t w)):=by
     show (bif decide (w < (((qx p.1 t).length:Nat):Int))&&cutN p.1 t w != 0 then _ else [t])=_;rw [dT hw,show (cutN p.1 t w != 0)=true from bne_iff_ne.2 hc];rfl
    generalize hcn:cutN p.1 t w=c at hc k1 k2' e;rw [dT hw,bneI (show ((c:Nat):Int)≠0 by omega),tn,tn,tn,List.take_length,yw];have hs2:=qcB p.1 (t.take c);rw [yz] at hs2;rw [show qcO p.1 (t.take c)=true by unfold qcO lenOk; rw [dT (by omega),yz,dT (by omega)]; rfl,show z49 p.1 (t.take c)=qx p.1 (t.take c) from rfl];have r1:out.length+(qx p.1 (t.take c)).length≤room:=by unfold room; omega
    have r2:(out++qx p.1 (t.take c)).length+([13,10]:List UInt8).length≤room:=by unfold room; rw [yn]; simp; omega
    rw [dT r1,dT r2];simp (disch:=omega) only [dT,yc,yd,yi,qhK];rw [e,qbE];have:=qkq k2 nx N l w i hi hl p hpi hd m' fu (t.drop c) (out++qx p.1 (t.take c)++[13,10]) (by rw [yK]; omega) (by omega) (by rw [yK]; omega) (by rw [qgh k1]; exact he)
     (by rw [yn,yn]; simp; omega)
    rw [this];congr 1;simp only [yl]
  ·rw [dF hw];have e:qap p.1 w m t=[t]:=by
    cases m with
    | zero=>rfl
    | succ m =>
     show (bif decide (w < (((qx p.1 t).length:Nat):Int))&&cutN p.1 t w != 0 then _ else [t])=[t];rw [dF hw];rfl
   rw [e];exact hlast
theorem qmX (k2:List UInt8→Option AV) (l:List ParaT) (w:Int) (hl:l.length≤12) (hp:∀ p∈l,qdk p) (hm:l.all mayB=true):∀ (d i n:Nat) (out:List UInt8),i+d=l.length→d+201 < n→out.length≤3000*i →
 qbX k2 n l w out ((i:Nat):Int)=k2 (out++(l.drop i).flatMap fun p=>layP p w)
 | d,i,0,_,_,hn,_=>absurd hn (by omega)
 | 0,i,n+1,out,he,_,_=>by
  have hstep:qbX k2 (n+1) l w out ((i:Nat):Int)=qbS k2 (qbX k2 n) n l w out ((i:Nat):Int):=rfl;rw [hstep];unfold qbS;rw [dF (by omega),List.drop_of_length_le (by omega),List.flatMap_nil,yG];rfl
 | d+1,i,n+1,out,he,hn,ho=>by
  have hlt:i < l.length:=by omega
  have hstep:qbX k2 (n+1) l w out ((i:Nat):Int)=qbS k2 (qbX k2 n) n l w out ((i:Nat):Int):=rfl;rw [hstep];unfold qbS;have hd:l.drop i=l[i] :: l.drop (i+1):=List.drop_eq_getElem_cons hlt;have hg:List.getD l i ((0:Int),(([]:List UInt8),()))=l[i]:=by simp [List.getD,hlt]
  have hx:qdk l[i]:=hp _ (List.getElem_mem hlt);unfold qdk at hx;have hmi:=qiw (List.all_eq_true.1 hm _ (List.getElem_mem hlt));have hlen:=qlt hmi.2.1 w;have h1:=qkq k2 (qbX k2 n) n l w i hlt hl l[i] hg hmi.2.1 l[i].2.1.length n l[i].2.1 out (yv _) (by omega) hx hmi.2.2 (by omega);rw [tn,hg,hd,List.flatMap_cons];simp (disch:=omega) only [dT,yc,yi];rw [h1,← yl];exact qmX k2 l w hl hp hm d (i+1) n (out++layP l[i] w) (by omega) (by omega) (by rw [yn]; omega)
theorem qvn:∀ (l0:List (Int×((List UInt8)×Unit))) (width1:Int),(qsY l0 width1=true)→∃ n,qtu n l0 width1=qgM (z41 l0 width1).1 (z41 l0 width1).2:=fun l w h=>⟨l.length+202,by
 obtain ⟨hl,hp⟩:=qgn h;unfold qtu z41 qcP
 by_cases h1:w < 10
 ·rw [dT h1]; rfl
 ·by_cases h2:1000 < w
  ·rw [dF h1,dT h2]; rfl
  ·rw [dF h1,dF h2];simp only [yd,Bool.or_false];have:=qgo qgM (qeK (l.length+202)) l w hl hp l.length 0 (l.length+202) (by omega) (by omega);rw [yw] at this;rw [show (0:Int)=((0:Nat):Int) from rfl,this];cases hm:l.all mayB with
   | false=>rfl
   | true =>
    have h3:=qmX (qdX (l.length+202)) l w hl hp hm l.length 0 (l.length+202) [] (by omega) (by omega) (yv _);rw [yw,List.nil_append] at h3;exact h3⟩
theorem qqV (ret:Bool→Option AV) (k0:List (Int×((List UInt8)×Unit))→Option AV) (l s:List ParaT) (hl:s.length≤12):∀ (d i n:Nat),i+d=s.length→d < n →
 qgE ret k0 n l s ((s.length:Nat):Int) ((i:Nat):Int)=bif (s.drop i).any (fun p=>decide (200 < p.2.1.length)) then ret true else k0 l
 | d,i,0,_,hn=>absurd hn (by omega)
 | 0,i,n+1,he,_=>by
  have hstep:qgE ret k0 (n+1) l s ((s.length:Nat):Int) ((i:Nat):Int)=qeD ret k0 (qgE ret k0 n) n l s ((s.length:Nat):Int) ((i:Nat):Int):=rfl;rw [hstep];unfold qeD;rw [dF (by omega),List.drop_of_length_le (by omega)];rfl
 | d+1,i,n+1,he,hn=>by
  have hlt:i < s.length:=by omega
  have hstep:qgE ret k0 (n+1) l s ((s.length:Nat):Int) ((i:Nat):Int)=qeD ret k0 (qgE ret k0 n) n l s ((s.length:Nat):Int) ((i:Nat):Int):=rfl;rw [hstep];unfold qeD;have hd:s.drop i=s[i] :: s.drop (i+1):=List.drop_eq_getElem_cons hlt;have hg:List.getD s i ((0:Int),(([]:List UInt8),()))=s[i]:=by simp [List.getD,hlt]
  rw [tn,hg,hd,List.any_cons];simp (disch:=omega) only [dT,yc,yi];rw [wr (by omega)];have:=qqV ret k0 l s hl d (i+1) n (by omega) (by omega);have e:decide ((200:Int) < ((List.length s[i].2.1:Nat):Int))=decide (200 < s[i].2.1.length):=by
   by_cases h:200 < s[i].2.1.length
   ·rw [dT h,dT (by omega)]
   ·rw [dF h,dF (by omega)]
  rw [e];cases decide (200 < s[i].2.1.length) with
  | true=>rfl
  | false=>exact this
theorem qvo:∀ (l0:List (Int×((List UInt8)×Unit))),(qop l0=true)→∃ n,qtp n l0=qgD (z38 l0):=fun l _=>⟨13,by
 unfold qtp qcM z38;have e:(bif (decide ((12:Int) < ((List.length l:Nat):Int))) then (12:Int) else ((List.length l:Nat):Int))=((min 12 l.length:Nat):Int):=by
  by_cases h:(12:Int) < ((List.length l:Nat):Int)
  ·rw [dT h,yc]; omega
  ·rw [dF h,yd]; omega
 have ht:List.take (min 12 l.length) l=l.take 12:=by
  rcases Nat.le_total 12 l.length with h | h
  ·rw [Nat.min_eq_left h]
  ·rw [Nat.min_eq_right h,List.take_length,List.take_of_length_le h]
 rw [e,tn,tn,yw,ht];rw [dT (show ((0:Nat):Int)≤((min 12 l.length:Nat):Int) by omega),dT (show ((min 12 l.length:Nat):Int)≤((l.length:Nat):Int) by omega),dT (show (0:Int)≤((0:Nat):Int) by omega)];have hlen:(l.take 12).length≤12:=by rw [yz]; omega
 have:=qqV qgD (qgF 13) l (l.take 12) hlen (l.take 12).length 0 13 (by omega) (by omega);rw [yw] at this;refine Eq.trans this ?_;cases (l.take 12).any fun p=>decide (200 < p.2.1.length) with
 | true=>rfl
 | false =>
  show qgD (decide ((12:Int) < ((List.length l:Nat):Int)))=qgD (decide (12 < l.length));congr 1
  by_cases h:12 < l.length
  ·rw [dT h,dT (by omega)]
  ·rw [dF h,dF (by omega)]⟩
theorem qhr (k0:List (Int×((List UInt8)×Unit))→Option AV) (s:List ParaT) (hl:s.length≤1048576):∀ (d i n:Nat),i+d=s.length→d < n →
 qgG k0 n (s.take i) s ((s.length:Nat):Int) ((i:Nat):Int)=k0 s
 | d,i,0,_,hn=>absurd hn (by omega)
 | 0,i,n+1,he,_=>by
  have hstep:qgG k0 (n+1) (s.take i) s ((s.length:Nat):Int) ((i:Nat):Int)=qeE k0 (qgG k0 n) n (s.take i) s ((s.length:Nat):Int) ((i:Nat):Int):=rfl;rw [hstep];unfold qeE;rw [dF (by omega),List.take_of_length_le (by omega)];rfl
 | d+1,i,n+1,he,hn=>by
  have hlt:i < s.length:=by omega
  have hstep:qgG k0 (n+1) (s.take i) s ((s.length:Nat):Int) ((i:Nat):Int)=qeE k0 (qgG k0 n) n (s.take i) s ((s.length:Nat):Int) ((i:Nat):Int):=rfl;rw [hstep];unfold qeE;have hg:List.getD s i ((0:Int),(([]:List UInt8),()))=s[i]:=by simp [List.getD,hlt]
  have ht:s.take i++[s[i]]=s.take (i+1):=by rw [List.take_add_one,yO hlt]; rfl
  have hr:decide (List.length (s.take i)+List.length [s[i]]≤room)=true:=dT (by unfold room; rw [yz]; simp; omega);rw [tn,hg,hr,ht];simp (disch:=omega) only [dT,yc,yi];rw [wr (by omega)];exact qhr k0 s hl d (i+1) n (by omega) (by omega)
theorem qvp:∀ (l0:List (Int×((List UInt8)×Unit))),(qoo l0=true)→∃ n,qtq n l0=qtR (z40 l0):=fun l h=>⟨l.length+1,by
 unfold qtq;exact qhr (qgH (l.length+1)) l (qm h) l.length 0 (l.length+1) (by omega) (Nat.lt_succ_self _)⟩
theorem qvq:∃ n,qwY n  = qku z34:=⟨0,by kernel_rfl⟩
theorem qqW:∀ (ls:List (List UInt8)) (r:qcX) (m:Nat),TakeInv r m→TakeInv (ls.foldl z69 r) (m+sumL ls)
 | [],r,m,h=>h
 | x :: ls,r,m,h=>by
  rw [List.foldl_cons,qcA,← yS];exact qqW ls _ _ (qls h x)
theorem qmY (s:List UInt8) (h:s.length≤1048000):qiu (z36 s) (z36 s)=true:=by
 have h1:=qqW (z70 s) ([],(false,())) 1 ⟨yv _,fun p hp=>absurd hp (List.not_mem_nil),fun e=>by cases e⟩;rw [qfx] at h1;have hsum:=qiv s.length s (yv _);have e:z36 s=((z70 s).foldl takeP ([],false)).1:=rfl;obtain ⟨k1,k2,_⟩:=h1;rw [e];unfold qiu;rw [yf,List.all_eq_true];refine ⟨qbv ?_,fun p hp=>qbv ?_⟩
 ·have k1:((z70 s).foldl takeP ([],false)).1.length+1≤1+sumL (z70 s):=k1;omega
 ·have:=k2 p hp;omega
theorem qhs {a b c:List ParaT} (h:qiu a b=true):qiu a c=true:=h
theorem qwV:∀ (s0:List UInt8),∃ n,z9_sh n s0=qto (z9 s0):=fun s=>⟨0,by
 unfold z9_sh
 by_cases h:(600:Int) < ((s.length:Nat):Int)
 ·rw [dT h]; rfl
 ·rw [dF h];have hl:lenOk s=true:=qbv (by omega);rw [show qlq s=true from hl,show qsX s=true from hl,qhs (qmY s (by omega))];rw [show z35 (z36 s) (z37 s)=true from dT rfl];rfl⟩
theorem qkr {l:List ParaT} (h:qgk l=true) (w:Int):(qcP l w).1.length≤40000:=by
 obtain ⟨hl,hp⟩:=qgn h;unfold qcP;cases decide (w < 10)||decide (1000 < w) with
 | true=>exact Nat.zero_le _
 | false =>
  cases hm:l.all mayB with
  | false=>exact Nat.zero_le _
  | true =>
   show (l.flatMap fun p=>layP p w).length≤40000;have key:∀ l:List ParaT,(∀ p∈l,qdk p∧mayB p=true)→(l.flatMap fun p=>layP p w).length≤3000*l.length:=by
    intro l;induction l with
    | nil=>intro _; exact Nat.zero_le _
    | cons p l ih =>
     intro h;have h1:=ih (fun q hq=>h q (List.mem_cons_of_mem _ hq));obtain ⟨h2,h3⟩:=h p (List.mem_cons_self ..);have h4:=qlt (qiw h3).2.1 w;unfold qdk at h2;rw [List.flatMap_cons,yn,yg];omega
   have:=key l (fun p hq=>⟨hp p hq,List.all_eq_true.1 hm p hq⟩);omega
theorem qmZ {l:List ParaT} (h:z38 l=false):qgk l=true:=by
 unfold z38 at h;rw [Bool.or_eq_false_iff,decide_eq_false_iff_not] at h;obtain ⟨h1,h2⟩:=h;unfold qgk;rw [List.take_of_length_le (by omega),List.any_eq_false] at h1;rw [dT (by omega),y4,List.all_eq_true];intro p hp;have:=h1 p hp;rw [ym] at this ⊢;omega
theorem qvr:∀ (l0:List (Int×((List UInt8)×Unit))) (width1:Int),∃ n,qvM n l0 width1=qkw (z10 l0 width1):=fun l w=>⟨0,by
 unfold qvM;rw [show qop l=true from rfl];cases hf:z38 l with
 | true=>rfl
 | false =>
  have hp:=qmZ hf;obtain ⟨hl,_⟩:=qgn hp;have hlen:=qkr hp w;rw [show qoo l=true from qbv (by omega),show z40 l=l from rfl,show qlr l w=true from hp,show qsY l w=true from hp,
   show z39 l w=qcP l w from rfl,show z41 l w=qcP l w from rfl,show qha (qcP l w).1 (qcP l w).1=true from qbv (by omega),show z15 (qcP l w).1 (qcP l w).1=true from dT rfl,beq_self_eq_true]
  rfl⟩
theorem qvs:∀ (line0:List UInt8) (depth1:Int),∃ n,qvN n line0 depth1=qeX (z11 line0 depth1):=fun s d=>⟨0,by
 unfold qvN
 by_cases h:(300:Int) < ((s.length:Nat):Int)
 ·rw [dT h]; rfl
 ·rw [dF h]
  by_cases h2:100 < d
  ·rw [dT h2]; rfl
  ·rw [dF h2];have hl:lenOk s=true:=qbv (by omega);have hb:=qer s;have hst:=qcB d s;have hso:qdj d s=true:=by unfold qdj; rw [hl,dT (by omega)]; rfl
   rw [show qkh s=true from hl,show qki s=true from hl,show (z42 s==z43 s)=true from beq_self_eq_true _,show qdi s=true from hl,show qhb s=true from hl,
    show qha (z44 s) (z45 s)=true from qbv (show (bareB s).length≤1048576 by omega),show z15 (z44 s) (z45 s)=true from dT rfl,show qgj s=true from hl,show qkj s=true from hl,
    show (z46 s==z47 s)=true from beq_self_eq_true _,hso,show qcO d s=true from hso,show qha (z48 d s) (z49 d s)=true from qbv (show (qx d s).length≤1048576 by omega),
    show z15 (z48 d s) (z49 d s)=true from dT rfl]
   rfl⟩
theorem qvt:∀ (l0:List (Int×((List UInt8)×Unit))) (width1:Int),∃ n,qvO n l0 width1=qhw (z12 l0 width1):=fun l w=>⟨0,by
 unfold qvO;rw [show qop l=true from rfl];cases hf:z38 l with
 | true=>rfl
 | false =>
  have hp:=qmZ hf;obtain ⟨hl,_⟩:=qgn hp;have hlen:=qkr hp w;rw [show qoo l=true from qbv (by omega),show z40 l=l from rfl,show qlr l w=true from hp,show z39 l w=qcP l w from rfl,
   show qlq (qcP l w).1=true from qbv (by omega),qhs (qmY (qcP l w).1 (by omega))]
  unfold qcP;cases decide (w < 10)||decide (1000 < w) with
  | true=>rfl
  | false =>
   cases hm:l.all mayB with
   | false=>rfl
   | true =>
    show (bif z35 (z36 (l.flatMap fun p=>layP p w)) l then _ else _)=_;rw [show z35 (z36 (l.flatMap fun p=>layP p w)) l=true from dT (qoh l w hm)];rfl⟩
end Go.Av
