import Derived.Test.YtabdohophompiaaGreatDoorPxP4
namespace Go.Av
set_option linter.unusedSimpArgs false
set_option linter.unusedVariables false
theorem qCx {name:List UInt8} {n:Int} (cs cs':List UInt8) (h:0 < n):headL name n cs=headL name n cs':=by
 unfold headL;rw [dT h];rfl
theorem qug (name cs:List UInt8) (l:List (List UInt8)) (hn:name.length≤100) (hc:cs.length≤20) (hl:l.length≤100) (hu:∀ u∈l,u.length≤75) (k2:List (List UInt8)→Option AV):∀ (d i n:Nat) (st:PutT),i+d=l.length→d < n→PutI name cs i st →
 qhf k2 n name l (st.2.2++[st.2.1]) st.1 (i:Int)=k2 (((l.drop i).foldl (putU name cs) st).2.2++[((l.drop i).foldl (putU name cs) st).2.1])
 | d,i,0,st,hi,hd,_=>by omega
 | 0,i,n+1,st,hi,hd,_=>by
  show qcC _ _ n _ _ _ _ _=_;unfold qcC qaB qS qal qac qak qz qD;rw [dF (by omega),yA (by omega)];rfl
 | d+1,i,n+1,(e,now,pre),hi,hd,h=>by
  show qcC _ _ n _ _ _ _ _=_;unfold qcC qaB qS qal qac qak qz qD;have hlt:i < l.length:=by omega
  have hm:l.getD i []∈l:=by rw [yW,yN hlt]; exact List.getElem_mem hlt
  have hu':=hu _ hm;have h2:=h.n;have h3:=h.l;have ih:=qug name cs l hn hc hl hu k2 d (i+1) n (putU name cs (e,now,pre) (l.getD i [])) (by omega) (by omega) (qoS h hu' hc);rw [qM (d:=([]:List UInt8)) hlt,List.foldl_cons,← ih];simp only [tn];revert hu';generalize l.getD i []=u;intro hu';simp only at h2 h3;have hk:IntKind.wrap .i64 (((List.length (pre++[now]):Nat):Int) - 1)=((pre.length:Nat):Int):=by
   rw [yn,yg,List.length_nil,wr (by omega)];omega
  have hk1:IntKind.wrap .i64 (((pre.length:Nat):Int)+1)=((pre.length+1:Nat):Int):=by
   rw [wr (by omega)];omega
  have hwr:IntKind.wrap .i64 (((now.length:Nat):Int)+((u.length:Nat):Int))=((now.length+u.length:Nat):Int):=by rw [wr (by omega)]; omega
  have hlen:(pre++[now]).length=pre.length+1:=by simp
  have hlen2:∀ x:List UInt8,(pre++[now]++[x]).length=pre.length+2:=fun x=>by simp
  have hg1:List.getD (pre++[now]) pre.length []=now:=qpj pre now [];have hg2:∀ x:List UInt8,List.getD (pre++[now]++[x]) (pre.length+1) []=x:=fun x=>by rw [← hlen]; exact qpj (pre++[now]) x []
  have hs1:∀ y:List UInt8,List.set (pre++[now]) pre.length y=pre++[y]:=fun y=>qvl pre now y;have hs2:∀ x y:List UInt8,List.set (pre++[now]++[x]) (pre.length+1) y=pre++[now]++[y]:=fun x y=>by rw [← hlen]; exact qvl (pre++[now]) x y
  have hhd:=qfj name ((pre.length+1:Nat):Int) [];simp only [List.length_nil] at hhd;have hho:qfy name ((pre.length+1:Nat):Int) []=true:=by
   unfold qfy;rw [qC (by omega),dT (show ((pre.length+1:Nat):Int) < 100 by
    cases e with
    | true=>have:=h.e rfl; simp only [yc] at h2; omega
    | false=>simp only [yd] at h2; omega)]
   rfl
  have hrh:z34 name ((pre.length+1:Nat):Int) []=headL name ((pre.length+1:Nat):Int) cs:=qCx [] cs (by omega);simp only [hk,hk1,tn,hg1,hwr,ql (i:=i) (by omega),hho,hrh];simp only [hlen2,hg2,hs2,hs1,hlen];have hhd':=qfj name ((pre.length+1:Nat):Int) cs;unfold room putU;simp only [beq_self_eq_true,yi,yn,yg,List.length_nil];rw [show decide ((74:Int) < ((now.length+u.length:Nat):Int))=decide (74 < now.length+u.length) from by
   by_cases hx:74 < now.length+u.length
   ·rw [dT hx,dT (by omega)]
   ·rw [dF hx,dF (by omega)]]
  cases e with
  | true =>
   simp (disch:=omega) only [dT,yc,yd,yi,Bool.not_true,Bool.false_and]
  | false =>
   cases hq:decide (74 < now.length+u.length) with
   | true =>
    simp (disch:=omega) only [dT,yc,yd,yi,Bool.not_false,yZ]
   | false =>
    simp (disch:=omega) only [dT,yc,yd,yi,Bool.not_false,yZ]
theorem quh (name:List UInt8) (n8:Int) (l:List (List UInt8)) (hl:l.length≤100) (hu:∀ u∈l,u.length≤75) (w:List UInt8) (hw:w.length≤200) (N:Nat) (k0:List UInt8→Int→List (List UInt8)→List UInt8→Option AV) (hN:l.length < N) :
 qfp k0 N name n8 l w 0=k0 name n8 l (w++l.flatten):=by
 have:=qar (t:=l) (dv:=([]:List UInt8)) (f:=fun u=>u) (b:=75) (M:=9000) (k0:=k0 name n8 l) (L:=fun n out i=>qfp k0 n name n8 l out i) hu (fun n i out hi hb=>by
  show qcB _ _ n _ _ _ _ _=_;unfold qcB room;have hx:=hu (l.getD i []) (by rw [yW,yN hi]; exact List.getElem_mem hi);simp (disch:=omega) only [dT,yc,yi,tn,ql]) (fun n out=>by
  show qcB _ _ n _ _ _ _ _=_;unfold qcB;rw [dF (by omega)];rfl) l.length 0 N w (by omega) (by omega) (by omega)
 refine Eq.trans (this:_) ?_;rw [yw];simp
theorem qCy:∀ (name0:List UInt8) (t1:List Int),(qkG name0 t1=true)→∃ n,qyZ n name0 t1=qkU (z14 name0 t1).1 (z14 name0 t1).2:=fun name t h=>⟨t.length+1,by
 unfold qkG at h;simp only [yf] at h;obtain ⟨hn,ht⟩:=quc h.1;unfold qyZ z14 qbg;rw [show qiR name t=true from by unfold qiR; rw [qv (by omega),qv (by omega),h.2]; rfl,
  show qkF name t=true from by unfold qkF; rw [qC (by omega),qC (by omega),h.2]; rfl,
  show qpP t=true from qv (by omega),show qiS t=true from by unfold qiS; rw [qC (by omega),h.2]; rfl,
  ← qoW t h.2,qhI,show z32 name t=qbM name t from rfl]
 unfold z33 z16;cases hq:qbM name t != 0 with
 | true=>rfl
 | false =>
  have hq0:(qbM name t==0)=true:=by
   unfold bne at hq;simpa using hq
  have hr:z49 t=true:=by
   have h0:=eq_of_beq hq0;unfold qbM at h0;cases hm:mayN name with
   | false=>rw [hm] at h0; cases h0
   | true =>
    cases hs:z49 t with
    | true=>rfl
    | false=>rw [hm,hs] at h0; cases h0
  have hsel:=qyv hr;rw [hq0];simp only [yZ,yi,yc,yd];cases hp:(z28 name t).2 with
  | true=>rfl
  | false =>
   simp only [yd];have hun:=qoU (z22 t).1 t;have hu:=qfO (z22 t).1 t;have hcl:=qfb (z22 t).1;have hh:=qfj name (-1) (z56 (z22 t).1);rw [show (z10 t).1=z23 (z22 t).1 t from by
    unfold z10 z9;rw [hsel];rfl,
    show qfy name (-1) (z35 (z22 t).1)=true from by
     unfold qfy;rw [qC (by omega),show len1k (z35 (z22 t).1)=true from qC (l:=z56 (z22 t).1) (by omega)];rfl,
    show z34 name (-1) (z35 (z22 t).1)=headL name (-1) (z56 (z22 t).1) from rfl,hsel]
   rw [quh name _ _ (by omega) hu _ (by omega) _ _ (by omega)];unfold qcD;rw [show decide (((List.length (headL name (-1) (z56 (z22 t).1)++(z23 (z22 t).1 t).flatten):Nat):Int)≤74)=decide ((headL name (-1) (z56 (z22 t).1)++(z23 (z22 t).1 t).flatten).length≤74) from qqR _ 74];cases decide ((headL name (-1) (z56 (z22 t).1)++(z23 (z22 t).1 t).flatten).length≤74) with
   | true=>rfl
   | false =>
    simp only [yd];rw [show qfy name 0 (z35 (z22 t).1)=true from by
     unfold qfy;rw [qC (by omega),show len1k (z35 (z22 t).1)=true from qC (l:=z56 (z22 t).1) (by omega)];rfl,
     show z34 name 0 (z35 (z22 t).1)=headL name 0 (z56 (z22 t).1) from rfl]
    have:=qug name (z56 (z22 t).1) (z23 (z22 t).1 t) hn (by omega) (by omega) hu (qdT (t.length+1)) (z23 (z22 t).1 t).length 0 (t.length+1) (true,(headL name 0 (z56 (z22 t).1),[])) (by omega) (by omega) (qfN _ _);refine Eq.trans (this:_) ?_;rw [yw];rfl⟩
end Go.Av
