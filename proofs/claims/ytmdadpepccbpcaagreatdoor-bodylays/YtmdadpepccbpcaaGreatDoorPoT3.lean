import Derived.Test.YtmdadpepccbpcaaGreatDoorPoT
namespace Go.Av
set_option linter.unusedSimpArgs false
set_option linter.unusedVariables false
section
theorem qrw {α:Type} (pre:List α) (c d:α):List.getD (pre++[c]) pre.length d=c:=by simp
theorem qGH {α:Type} (pre:List α) (c y:α):List.set (pre++[c]) pre.length y=pre++[y]:=by
 rw [List.set_append_right _ _ (yv _),Nat.sub_self];rfl
theorem qfe (cur:LU):qaE cur []=[cur]:=rfl
theorem qdD (cur:LU) (c:UInt8) (r:LU):qaE cur (c :: r)=if c=13∧r.head? = some 10 then cur :: qaE [] (r.drop 1) else qaE (cur++[c]) r:=by
 have h:lineB true [] r=qaE [] (r.drop 1):=by cases r <;> rfl
 unfold qaE;rw [show lineB false cur (c :: r)=if c=13∧r.head? = some 10 then cur :: lineB true [] r else lineB false (cur++[c]) r from rfl,h];rfl
theorem qlu {s:LU} {i:Nat}:(s.drop i).head? = some 10↔(i < s.length∧s.getD i 0=10):=by
 rw [List.head?_drop];constructor
 ·intro h;obtain ⟨h1,h2⟩:=List.getElem?_eq_some_iff.1 h;exact ⟨h1,by simp [List.getD,h1,h2]⟩
 ·intro ⟨h1,h2⟩;simp [List.getD,h1] at h2;rw [yO h1,h2]
theorem qyJ (k0:List LU→Option AV) (s:LU) (hl:s.length≤1048576):∀ (d i n:Nat) (pre:List LU) (cur:LU),i+d=s.length→d < n→pre.length+d≤1048576→cur.length+d≤1048576 →
 qfb k0 n s (pre++[cur]) (i:Nat)=k0 (pre++qaE cur (s.drop i)):=by
 intro d;induction d using Nat.strongRecOn with
 | ind d ih =>
  intro i n pre cur hi hn hp hc;cases n with
  | zero=>omega
  | succ n =>
   show qgW k0 (qfb k0 n) n _ _ _=_;unfold qgW qcx qbI qcw qcv qas qaf
   by_cases hlt:i < s.length
   ·have hlen:(pre++[cur]).length=pre.length+1:=by simp
    have hw:IntKind.wrap .i64 (((pre++[cur]).length:Int) - 1)=((pre.length:Nat):Int):=by rw [wr (by omega)]; omega
    rw [qA (d:=(0:UInt8)) hlt,qdD];have one:qfb k0 n s (pre++[cur++[s.getD i 0]]) ((i+1:Nat):Int)=k0 (pre++qaE (cur++[s.getD i 0]) (s.drop (i+1))):=ih (d - 1) (by omega) (i+1) n pre _ (by omega) (by omega) (by omega) (by simp; omega);have hr:decide ((cur.length:Nat)+([s.getD i 0]:LU).length≤room)=true:=dT (by unfold room; simp; omega);have h13:(s.getD i 0==13)=decide (s.getD i 0=13):=rfl;rw [hw];simp (disch:=omega) only [dT,yc,yi,tn,qn,qrw,qGH,hr,h13,beq_self_eq_true]
    by_cases h1:s.getD i 0=13
    ·rw [yo h1,yc]
     by_cases h2:i+1 < s.length
     ·simp (disch:=omega) only [dT,yc,yi,tn,qn]
      by_cases h3:s.getD (i+1) 0=10
      ·rw [show (s.getD (i+1) 0==10)=true from beq_iff_eq.2 h3,yc,if_pos ⟨h1,qlu.2 ⟨h2,h3⟩⟩,dT (show (pre++[cur]).length+([[]]:List LU).length≤room by unfold room; simp; omega),yc,List.drop_drop];have:=ih (d - 2) (by omega) (i+2) n (pre++[cur]) [] (by omega) (by omega) (by simp; omega) (by simp; omega);refine Eq.trans this ?_;rw [yl,List.singleton_append]
      ·rw [show (s.getD (i+1) 0==10)=false from beq_eq_false_iff_ne.2 h3,yd,if_neg (fun h=>h3 (qlu.1 h.2).2)];exact one
     ·rw [dF (by omega),yd,if_neg (fun h=>h2 (qlu.1 h.2).1)];exact one
    ·rw [yx h1,yd,if_neg (fun h=>h1 h.1)];exact one
   ·rw [dF (by omega),yd,yA (by omega)];rfl
theorem qlv:∀ (s cur:LU),qaE cur s≠[]
 | [],cur=>by simp [qfe]
 | c :: r,cur=>by
  rw [qdD];split
  ·simp
  ·exact qlv r _
theorem qgq:∀ (pre:List LU) (x:LU),qba (pre++[x])=if x=[] then (pre,true) else (pre++[x],false)
 | [],x=>by
  simp only [List.nil_append,qba]
 | a :: pre,x=>by
  have ih:=qgq pre x;have:qba (a :: pre++[x])=(a :: (qba (pre++[x])).1,(qba (pre++[x])).2):=by
   cases pre with
   | nil=>rfl
   | cons b p=>rfl
  rw [this,ih];split <;> rfl
theorem qCU:∀ (s0:LU),(qql s0=true)→∃ n,qro n s0=qpd (z102 s0).1 (z102 s0).2:=fun s h=>⟨s.length+1,by
 have hl:=qm h;unfold qro;refine (qyJ (qdA (s.length+1)) s hl s.length 0 (s.length+1) [] [] (by omega) (by omega) (by simp; omega) (by simp; omega)).trans ?_;rw [List.nil_append,yw];unfold z102;have hlen:(qaE [] s).length≤s.length+1:=by
  have:∀ (n:Nat) (s cur:LU),s.length≤n→(qaE cur s).length≤s.length+1:=by
   intro n;induction n with
   | zero=>intro s cur h0; cases s with
    | nil=>simp [qfe]
    | cons a b=>simp at h0
   | succ n ih =>
    intro s cur h0;cases s with
    | nil=>simp [qfe]
    | cons c r =>
     rw [qdD];simp only [yg] at h0 ⊢;split
     ·have:=ih (r.drop 1) [] (by simp; omega);simp only [yg,yK] at this ⊢;omega
     ·have:=ih r (cur++[c]) (by omega);omega
  exact this s.length s [] (yv _)
 rcases List.eq_nil_or_concat (qaE [] s) with h0 | ⟨pre,x,h0⟩
 ·exact absurd h0 (qlv s [])
 ·rw [List.concat_eq_append] at h0;rw [h0] at hlen ⊢;rw [qgq];have hl2:(pre++[x]).length=pre.length+1:=by simp
  have hw:IntKind.wrap .i64 (((pre++[x]).length:Int) - 1)=((pre.length:Nat):Int):=by rw [wr (by omega)]; omega
  unfold qdA qat;rw [hw];have ht:List.drop (Int.toNat ((0:Nat):Int)) (List.take pre.length (pre++[x]))=pre:=by simp
  simp (disch:=omega) only [dT,yc,yi,tn,qrw,ht];cases x with
  | nil=>rw [if_pos rfl]; simp
  | cons a b=>rw [if_neg (by simp),bneI (by simp only [yg]; omega)]; rfl⟩
theorem qGI:∀ (s0:LU),(qzR s0=true)→∃ n,qGb n s0=qEc (z76 s0):=fun s h=>⟨0,by
 unfold qGb;rw [show qql s=true from h];rfl⟩
end
section
theorem qCV:∀ (bufLen0:Int),∃ n,qDD n bufLen0=qxf (z166 bufLen0):=fun _=>⟨0,rfl⟩
theorem qpn (c:Nat) (h:128≤c):2≤(Utf8.encode (c:Int)).size∧(c < 2048→(Utf8.encode (c:Int)).size≤2)∧(c < 65536→(Utf8.encode (c:Int)).size≤3)∧(Utf8.encode (c:Int)).size≤4:=by
 by_cases hv:Utf8.valid (c:Int)=true
 ·have hc:(c:Int).toNat=c:=by omega
  unfold Utf8.encode;simp only [hv,if_true,hc];rw [if_neg (by omega)];split
  ·refine ⟨?_,?_,?_,?_⟩ <;> simp [ByteArray.size]
  ·split
   ·refine ⟨?_,?_,?_,?_⟩ <;> simp [ByteArray.size] <;> omega
   ·refine ⟨?_,?_,?_,?_⟩ <;> simp [ByteArray.size] <;> omega
 ·have hn:2048≤c:=by
   rcases Nat.lt_or_ge c 2048 with h2 | h2
   ·exact absurd (by unfold Utf8.valid; simp; omega) hv
   ·exact h2
  have hv':Utf8.valid (c:Int)=false:=by simpa using hv
  have he:Utf8.encode (c:Int)=⟨#[239,191,189]⟩:=by
   unfold Utf8.encode;simp only [hv',yq,if_false];decide
  rw [he];refine ⟨?_,?_,?_,?_⟩ <;> simp [ByteArray.size] <;> omega
theorem qrx (c:Nat) (h:128≤c):∃ e r,(Utf8.encode (c:Int)).data.toList=e :: r∧128≤e.toNat:=by
 unfold Utf8.encode;generalize hg:(if Utf8.valid (c:Int)=true then (c:Int).toNat else Utf8.runeError)=x;have hx:128≤x∧x≤1114111:=by
  split at hg
  ·rename_i hv;unfold Utf8.valid at hv;simp only [yR,yf,ym] at hv;omega
  ·unfold Utf8.runeError at hg; omega
 simp only [if_neg (show ¬ x < 128 by omega)];split
 ·exact ⟨_,_,rfl,by simp; omega⟩
 ·split
  ·exact ⟨_,_,rfl,by simp; omega⟩
  ·exact ⟨_,_,rfl,by simp; omega⟩
theorem qCW (p:LU) (hp:0 < p.length) (h0:128≤(p.getD 0 0).toNat):128≤(Lib.decodeL p).1∧1≤(Lib.decodeL p).2∧(Lib.decodeL p).2≤p.length∧(∀ j,j < (Lib.decodeL p).2→128≤(p.getD j 0).toNat) ∧
 ((Lib.decodeL p).1≠65533→2≤(Utf8.encode ((Lib.decodeL p).1:Int)).size∧(Utf8.encode ((Lib.decodeL p).1:Int)).size≤(Lib.decodeL p).2):=by
 rw [Lib.decodeL_N];have b0:=qgp (p.getD 0 0);have b1:=qgp (p.getD 1 0);have b2:=qgp (p.getD 2 0);have b3:=qgp (p.getD 3 0);rcases Lib.decodeN_shape p.length (p.getD 0 0).toNat (p.getD 1 0).toNat (p.getD 2 0).toNat (p.getD 3 0).toNat with ⟨h,_⟩ | ⟨h1,h2,h3,h4,e⟩ | ⟨h1,h2,h3,h4,h5,_,e⟩ | ⟨h1,h2,h3,h4,h5,h6,h7,e⟩ | e
 ·omega
 ·rw [e];dsimp only;have hs:=qpn _ h4;refine ⟨h4,by omega,by omega,fun j hj=>?_,fun _=>⟨hs.1,hs.2.1 (by omega)⟩⟩;match j,hj with
  | 0,_=>exact h0
  | 1,_=>omega
  | n+2,hj=>omega
 ·rw [e];dsimp only;have hs:=qpn (((p.getD 0 0).toNat % 16)*4096+(p.getD 1 0).toNat % 64*64+(p.getD 2 0).toNat % 64) (by omega);refine ⟨by omega,by omega,by omega,fun j hj=>?_,fun _=>⟨hs.1,hs.2.2.1 (by omega)⟩⟩;match j,hj with
  | 0,_=>exact h0
  | 1,_=>omega
  | 2,_=>omega
  | n+3,hj=>omega
 ·rw [e];dsimp only;have hs:=qpn (((p.getD 0 0).toNat % 8)*262144+(p.getD 1 0).toNat % 64*4096+(p.getD 2 0).toNat % 64*64+(p.getD 3 0).toNat % 64) (by omega);refine ⟨by omega,by omega,by omega,fun j hj=>?_,fun _=>⟨hs.1,hs.2.2.2⟩⟩;match j,hj with
  | 0,_=>exact h0
  | 1,_=>omega
  | 2,_=>omega
  | 3,_=>omega
  | n+4,hj=>omega
 ·rw [e];dsimp only;refine ⟨by omega,by omega,by omega,fun j hj=>?_,fun h=>absurd rfl h⟩;match j,hj with
  | 0,_=>exact h0
  | n+1,hj=>omega
theorem qiO {cs:LU} (ha:ascii cs=true) {i:Nat} (hi:i < cs.length):(cs.getD i 0).toNat < 128:=by
 unfold ascii at ha;rw [List.all_eq_true] at ha;have:=ha (cs.getD i 0) (by simp [List.getD,hi]);simp only [ym] at this;exact this
theorem qry {cs:LU} (ha:ascii cs=true) {x:UInt8} (hx:128≤x.toNat):cs.contains x=false:=by
 cases h:cs.contains x with
 | false=>rfl
 | true =>
  unfold ascii at ha;rw [List.all_eq_true] at ha;have:=ha x (by simpa using h);simp only [ym] at this;have:x.toNat < 128:=this;omega
theorem qno {cs:LU} (ha:ascii cs=true) {i:Nat} (hi:i < cs.length):decL cs i=(((cs.getD i 0).toNat:Int),1):=by
 unfold decL;rw [Lib.decode_N];rw [Lib.decodeN_ascii _ _ _ _ _ (by simpa using qiO ha hi)]
theorem qpo {cs:LU} (ha:ascii cs=true) (c:Nat) (hc:128≤c):Lib.index cs (Utf8.encode (c:Int)).data.toList = -1:=by
 obtain ⟨e,r,he,h1⟩:=qrx c hc;rw [he];refine Lib.index_none fun j _=>?_;unfold Lib.occAt;cases hd:cs.drop j with
 | nil=>rfl
 | cons x t =>
  have hj:j < cs.length:=by
   rcases Nat.lt_or_ge j cs.length with h | h
   ·exact h
   ·rw [yA h] at hd; cases hd
  have hx:x=cs.getD j 0:=by
   rw [qA (d:=0) hj] at hd;exact (List.cons.inj hd).1.symm
  have:=qiO ha hj;rw [← hx] at this;have hne:(e==x)=false:=by
   rw [yB];rintro rfl;omega
  simp [List.isPrefixOf,hne]
theorem qto {cs:LU} (ha:ascii cs=true) (hn:cs≠[]) (c:Nat) (hc:128≤c):(cs==(Utf8.encode (c:Int)).data.toList)=false:=by
 obtain ⟨e,r,he,h1⟩:=qrx c hc;rw [he,yB];rintro rfl;have:=qiO ha (i:=0) (by simp);simp at this;omega
theorem qyK (cs:LU):∀ (w:Nat) (p:LU) (i:Int),w≤p.length→(∀ j,j < w→cs.contains (p.getD j 0)=false)→anyAt cs p i=anyAt cs (p.drop w) (i+w)
 | 0,p,i,_,_=>by simp
 | w+1,[],i,h,_=>by simp at h
 | w+1,x :: p,i,h,hc=>by
  have h0:=hc 0 (by omega);simp only [List.getD_cons_zero] at h0;have ih:=qyK cs w p (i+1) (by simpa using h) (fun j hj=>by have:=hc (j+1) (by omega); simpa using this);show (bif cs.contains x then i else anyAt cs p (i+1))=anyAt cs (p.drop w) (i+((w+1:Nat):Int));rw [h0,yd,ih];congr 1;omega
variable (m0:Int)
theorem qLR (ret:Int→Option AV) (k0:Option AV) (cs:LU) (ha:ascii cs=true):∀ (d i n:Nat),i+d=cs.length→d < n→qeH m0 ret k0 n cs i=k0
 | d,i,0,hi,hn=>by omega
 | 0,i,n+1,hi,hn=>by
  show qdo m0 ret k0 (qeH m0 ret k0 n) n cs i=_;unfold qdo;rw [yx (by omega)];rfl
 | d+1,i,n+1,hi,hn=>by
  show qdo m0 ret k0 (qeH m0 ret k0 n) n cs i=_;unfold qdo;have hlt:i < cs.length:=by omega
  have hx:=qiO ha hlt;rw [yo hlt,qno ha hlt,yc,yc,yc,show ((((cs.getD i 0).toNat:Nat):Int)==65533)=false by rw [yB]; omega,yd];exact qLR ret k0 cs ha d (i+1) n (by omega) (by omega)
theorem qEg (ret:Int→Option AV) (k6:LU→LU→Int→Int→Option AV) (s cs:LU) (w at1 r:Int) (hr:128≤r) (ha:ascii cs=true):∀ (d i n:Nat),i+d=cs.length→d < n→qbx m0 ret k6 n s cs w at1 r cs i=k6 s cs w at1
 | d,i,0,hi,hn=>by omega
 | 0,i,n+1,hi,hn=>by
  show qcb m0 ret k6 (qbx m0 ret k6 n) n s cs w at1 r cs i=_;unfold qcb;rw [yx (by omega)];rfl
 | d+1,i,n+1,hi,hn=>by
  show qcb m0 ret k6 (qbx m0 ret k6 n) n s cs w at1 r cs i=_;unfold qcb;have hlt:i < cs.length:=by omega
  have hx:=qiO ha hlt;rw [yo hlt,qno ha hlt,yc,yc,yc,show (r==(((cs.getD i 0).toNat:Nat):Int))=false by rw [yB]; omega,yd];exact qEg ret k6 s cs w at1 r hr ha d (i+1) n (by omega) (by omega)
theorem qEh (ret:Int→Option AV) (k2:Option AV) (hk:k2=ret (-1)) (s cs:LU) (hl:s.length≤1048576):∀ (d i n:Nat),i+d=s.length→d < n →
 qcq m0 ret k2 n (setOf cs (List.replicate 256 false)) s (s.length:Nat) (i:Nat)=ret (anyAt cs (s.drop i) i)
 | d,i,0,hi,hn=>by omega
 | 0,i,n+1,hi,hn=>by
  show qca m0 ret k2 (qcq m0 ret k2 n) n _ s _ _=_;unfold qca;rw [yx (by omega),yd,yA (by omega),hk];rfl
 | d+1,i,n+1,hi,hn=>by
  show qca m0 ret k2 (qcq m0 ret k2 n) n _ s _ _=_;unfold qca z168;have hlt:i < s.length:=by omega
  rw [qnB,yo hlt,yc,qaV,y5,yc,qbM,qGi _ _ _ yQ,qn (by omega),qEh ret k2 hk s cs hl d (i+1) n (by omega) (by omega),qA (d:=0) hlt];have:(List.replicate 256 false).getD (s.getD i 0).toNat false=false:=by rw [yY,List.getElem?_replicate]; split <;> rfl
  rw [this,Bool.or_false];show _=ret (bif cs.contains (s.getD i 0) then (i:Int) else anyAt cs (s.drop (i+1)) (i+1));cases cs.contains (s.getD i 0) <;> rfl
set_option maxRecDepth 100000 in
theorem qyL (ret:Int→Option AV) (k4:Option AV) (hk:k4=ret (-1)) (s cs:LU) (hl:s.length≤1048576) (ha:ascii cs=true) (hc2:2≤cs.length) (hcl:cs.length≤1048576) (d i n:Nat) (hi:i+d=s.length) (hn:d+cs.length+1 < n) :
 qby m0 ret k4 n s cs (i:Nat)=ret (anyAt cs (s.drop i) i):=by
 obtain ⟨n,rfl⟩:∃ n',n=n'+1:=⟨n - 1,by omega⟩;show qcS m0 ret k4 (qby m0 ret k4 n) n s cs (i:Nat)=_;unfold qcS qr;match d,hi,hn with
 | 0,hi,hn =>
  rw [yx (by omega),yd,yA (by omega),hk];rfl
 | d+1,hi,hn =>
  have hlt:i < s.length:=by omega
  have hb:=qgp (s.getD i 0);rw [qnB,yo hlt,yc,qaV,y5,yc,yc,qbM,qbM,List.take_length,IntWalk.i32_in _ (by omega)]
  by_cases h128:(s.getD i 0).toNat < 128
  ·rw [yo (show (((s.getD i 0).toNat:Nat):Int) < 128 by omega),yc,qn (by omega),qyL ret k4 hk s cs hl ha hc2 hcl d (i+1) n (by omega) (by omega),qA (d:=0) hlt];show (bif decide ((0:Int)≤Lib.indexByte cs (s.getD i 0)) then ret i else ret (anyAt cs (s.drop (i+1)) ((i+1:Nat):Int)))=ret (bif cs.contains (s.getD i 0) then (i:Int) else anyAt cs (s.drop (i+1)) (i+1));rw [← Lib.contains_iff_indexByte];cases cs.contains (s.getD i 0) <;> rfl
  ·rw [yx (show ¬ (((s.getD i 0).toNat:Nat):Int) < 128 by omega),yd,yo (show (i:Int)≤((s.length:Nat):Int) by omega),yo (Int.le_refl _)];have hp:0 < (s.drop i).length:=by rw [yK]; omega
   have h0:128≤((s.drop i).getD 0 0).toNat:=by
    rw [qA (d:=0) hlt];simp only [List.getD_cons_zero];omega
   obtain ⟨f1,f2,f3,f4,f5⟩:=qCW (s.drop i) hp h0;rw [show qmm (s.drop i)=true by unfold qmm; exact yo hp];have hd1:(z169 (s.drop i)).1=((Lib.decodeL (s.drop i)).1:Int):=rfl;have hd2:(z169 (s.drop i)).2=((Lib.decodeL (s.drop i)).2:Int):=rfl;rw [hd1,hd2];obtain ⟨r,hr⟩:∃ r,(Lib.decodeL (s.drop i)).1=r:=⟨_,rfl⟩;obtain ⟨w,hw⟩:∃ w,(Lib.decodeL (s.drop i)).2=w:=⟨_,rfl⟩;rw [hr] at f1 f5;rw [hw] at f2 f3 f4 f5;rw [hr,hw];rw [yK] at f3;have hnext:qby m0 ret k4 n s cs (IntKind.wrap .i64 ((i:Int)+(w:Int)))=ret (anyAt cs (s.drop i) i):=by
    rw [IntWalk.i64_in _ (by omega),show (i:Int)+(w:Int)=((i+w:Nat):Int) by omega,qyL ret k4 hk s cs hl ha hc2 hcl (d+1 - w) (i+w) n (by omega) (by omega),
     qyK cs w (s.drop i) i (by rw [yK]; exact f3) (fun j hj=>qry ha (f4 j hj)),List.drop_drop]
    congr 2
   have h48:qbx m0 ret (qcc m0 ret k4 (qby m0 ret k4 n) n) n s cs (w:Int) (i:Int) (r:Int) cs 0=ret (anyAt cs (s.drop i) i):=by
    rw [qEg m0 ret _ s cs w i r (by omega) ha cs.length 0 n (by omega) (by omega)];exact hnext
   simp only [Bool.and_self,yc]
   by_cases hre:r=65533
   ·rw [show ((r:Int) != 65533)=false by simp only [bne_eq_false_iff_eq]; omega,yd,h48]
   ·obtain ⟨e1,e2⟩:=f5 hre;rw [show ((r:Int) != 65533)=true by simp only [bne_iff_ne,ne_eq]; omega,yc,qto ha (by rintro rfl; simp at hc2) r f1,yd,hnext];cases ((cs.length:Int)==(w:Int)) with
    | true=>rfl
    | false =>
     rw [yd]
     by_cases hm:(w:Int)≤m0
     ·have hok:qml m0 cs (Utf8.encode (r:Int)).data.toList=true:=by
       unfold qml;rw [← Lib.size_eq];simp only [yf,ym];omega
      rw [yo hm,hok];unfold z170;rw [qpo ha r f1];rfl
     ·rw [yx hm,yd,h48]
 termination_by d
 decreasing_by all_goals omega
set_option maxRecDepth 100000 in
theorem qCX:∀ (s0:LU) (chars1:LU),(qji s0 chars1=true)→∃ n,qqV m0 n s0 chars1=qH (z109 s0 chars1):=fun s cs h=>⟨s.length+cs.length+2,by
 unfold qji at h;simp only [yf,ym] at h;obtain ⟨⟨hc2,ha,hcl⟩,hl⟩:=h;have hcl':=qm hcl;have hl':=qm hl;unfold qqV qcT z109;rw [show (cs==[])=false by cases cs with | nil=>simp at hc2 | cons c r=>rfl,yd];have hcne:(((cs.length:Nat):Int)==1)=false:=by rw [yB]; omega
 by_cases h1:s.length=1
 ·rw [show (((s.length:Nat):Int)==1)=true by rw [beq_iff_eq]; omega,yc];obtain ⟨x,rfl⟩:=List.length_eq_one_iff.1 h1;have hx:=qgp x;show (bif decide ((128:Int)≤IntKind.wrap .i32 ((x.toNat:Nat):Int)) then _ else _)=_;rw [IntWalk.i32_in _ (by omega)]
  by_cases h128:x.toNat < 128
  ·rw [yx (show ¬ (128:Int)≤((x.toNat:Nat):Int) by omega),yd];show (bif decide ((0:Int)≤Lib.indexByte cs x) then qH 0 else qH (-1))=qH (bif cs.contains x then 0 else -1);rw [← Lib.contains_iff_indexByte];cases cs.contains x <;> rfl
  ·rw [yo (show (128:Int)≤((x.toNat:Nat):Int) by omega),yc,qLR m0 _ _ cs ha cs.length 0 _ (by omega) (by omega)];show qH (-1)=qH (bif cs.contains x then 0 else -1);rw [qry ha (by omega)];rfl
 ·rw [show (((s.length:Nat):Int)==1)=false by rw [yB]; omega,yd,hcne,yd];have h32:=qyL m0 qH (qcd m0 (s.length+cs.length+2)) rfl s cs hl' ha hc2 hcl' s.length 0 (s.length+cs.length+2) (by omega) (by omega);have h24:=qEh m0 qH (qcR m0 (s.length+cs.length+2)) rfl s cs hl' s.length 0 (s.length+cs.length+2) (by omega) (by omega);rw [show qjh cs=true by unfold qjh; rw [ha,hcl]; rfl];cases z166 ((s.length:Nat):Int) with
  | true=>exact h24
  | false =>
   rw [yd];exact h32⟩
theorem qCY (c:UInt8) (r:LU):(([13,10]:LU).isPrefixOf (c :: r))=decide (c=13∧r.head? = some 10):=by
 cases r with
 | nil=>simp [List.isPrefixOf]
 | cons e r =>
  simp only [List.isPrefixOf,yi,List.head?_cons,ya];rw [Bool.eq_iff_iff];simp only [yf,beq_iff_eq,ym];exact ⟨fun h=>⟨h.1.symm,h.2.symm⟩,fun h=>⟨h.1.symm,h.2.symm⟩⟩
theorem qGJ (c:UInt8) (r:LU):Lib.index (c :: r) [13,10]=if c=13∧r.head? = some 10 then 0 else if Lib.index r [13,10] = -1 then -1 else Lib.index r [13,10]+1:=by
 have:Lib.index (c :: r) [13,10]=if ([13,10]:LU).isPrefixOf (c :: r) then 0 else if Lib.index r [13,10] == -1 then -1 else Lib.index r [13,10]+1:=rfl
 rw [this,qCY]
 by_cases h:c=13∧r.head? = some 10
 ·rw [if_pos h,if_pos (by simpa using h)]
 ·rw [if_neg h,if_neg (by simpa using h)]
  by_cases h2:Lib.index r [13,10] = -1
  ·simp [h2]
  ·rw [if_neg h2,if_neg (by simpa using h2)]
theorem qCZ {r:LU} (h:r.head? = some 10):1≤r.length:=by cases r with
 | nil=>cases h
 | cons a b=>simp
theorem qrz:∀ (s cur:LU),(Lib.index s [13,10] = -1∧qaE cur s=[cur++s]) ∨
 (∃ k:Nat,Lib.index s [13,10]=k∧k+2≤s.length∧qaE cur s=(cur++s.take k) :: qaE [] (s.drop (k+2)))
 | [],cur=>.inl ⟨rfl,by simp [qfe]⟩
 | c :: r,cur=>by
  rw [qGJ,qdD]
  by_cases h:c=13∧r.head? = some 10
  ·right;rw [if_pos h,if_pos h];refine ⟨0,rfl,by have:=qCZ h.2; simp; omega,?_⟩;simp
  ·rw [if_neg h,if_neg h];rcases qrz r (cur++[c]) with ⟨h1,h2⟩ | ⟨k,h1,h2,h3⟩
   ·left;rw [h1,if_pos rfl,h2];exact ⟨rfl,by simp⟩
   ·right;refine ⟨k+1,by rw [h1,if_neg (by omega)]; omega,by simp; omega,?_⟩;rw [h3];simp
theorem qyM (s:LU):(z82 s [13,10]=(s,[],false)∧qaE [] s=[s]∧Lib.index s [13,10] = -1) ∨
 (∃ k:Nat,k+2≤s.length∧z82 s [13,10]=(s.take k,s.drop (k+2),true)∧qaE [] s=s.take k :: qaE [] (s.drop (k+2))∧Lib.index s [13,10]=k):=by
 rcases qrz s [] with ⟨h1,h2⟩ | ⟨k,h1,h2,h3⟩
 ·left;refine ⟨?_,by simpa using h2,h1⟩;unfold z82;rw [h1];rfl
 ·right;refine ⟨k,h2,?_,by simpa using h3,h1⟩;unfold z82;rw [h1,dT (by omega),yc,tn];rfl
theorem qDa:∀ (c0:UInt8) (ends1:Bool),∃ n,qxJ n c0 ends1=qcX (z122 c0 ends1):=fun c e=>⟨0,by
 unfold qxJ qcY z122 unitQ;rw [show qqa ([]:LU) 61 c=true from rfl];cases (c != 61) <;> cases z144 c 4 <;> cases z144 c 2 <;> cases e <;> rfl⟩
theorem qGK:∀ (c0:UInt8) (ends1:Bool),∃ n,qFZ n c0 ends1=qgn (z73 c0 ends1):=fun c e=>⟨0,by
 unfold qFZ qeV z73 unitQ z136;rw [show qqb ([]:LU) 61 c=true from rfl];cases (c != 61) <;> cases z144 c 4 <;> cases z144 c 2 <;> cases e <;> rfl⟩
theorem qyN (c:UInt8) (e:Bool):(unitQ c e).length≤3∧1≤(unitQ c e).length:=by
 unfold unitQ;cases (((c != 61)&&z144 c 4)||(!e&&z144 c 2))
 ·exact ⟨yv 3,by show 1≤3; omega⟩
 ·exact ⟨by show 1≤3; omega,yv 1⟩
theorem qGL:∀ b1 b3:Bool,(bif b1 then 1 else bif b3 then 1 else 0:Nat)≤1:=by decide
theorem qGM:∀ b1 b2 b3:Bool,(bif b1 then (bif b2 then 2 else 1) else bif b3 then 1 else 0:Nat)≤2:=by decide
theorem qOx:∀ l:LU,brk l≤l.length∧brk l≤2
 | []=>⟨yv _,by decide⟩
 | [x]=>by
  have h:brk [x]≤1:=qGL (x==13) (x==10);exact ⟨h,yL h (by omega)⟩
 | x :: y :: r=>by
  have h:brk (x :: y :: r)≤2:=qGM (x==13) (y==10) (x==10);exact ⟨yL h (by simp),h⟩
theorem qLS {s:LU} {i:Nat} (h:i < s.length):brk (s.drop i)=bif s.getD i 0==13 then (bif decide (i+1 < s.length) then (bif s.getD (i+1) 0==10 then 2 else 1) else 1) else bif s.getD i 0==10 then 1 else 0:=by
 rw [qA (d:=(0:UInt8)) h]
 by_cases h2:i+1 < s.length
 ·rw [qA (d:=(0:UInt8)) h2,yo h2]; rfl
 ·rw [yA (by omega),yx h2]; rfl
theorem qDb:∀ (s0:LU) (at1:Int),(qhW s0 at1=true)→∃ n,qxC n s0 at1=qbE (z120 s0 at1):=fun s at1 h=>⟨0,by
 unfold qhW at h;simp only [yf,ym] at h;have hl:=qm h.1;obtain ⟨i,rfl⟩:∃ i:Nat,at1=(i:Int):=⟨at1.toNat,by omega⟩;unfold qxC qcW z120;rw [tn]
 by_cases hi:i < s.length
 ·rw [qLS hi,qn (by omega),dF (show ¬ ((s.length:Nat):Int)≤(i:Int) by omega),tn];simp (disch:=omega) only [dT,yc,yd,yi];rw [show decide (((i+1:Nat):Int) < ((s.length:Nat):Int))=decide (i+1 < s.length) by congr 1; apply propext; omega];generalize s.getD i 0=x;generalize s.getD (i+1) 0=y
  by_cases h13:x=13
  ·subst h13;cases decide (i+1 < s.length) <;> cases (y==10) <;> rfl
  ·have e1:(x==13)=false:=by simp [h13]
   have e2:(x != 13)=true:=by simp [bne,h13]
   rw [e1,e2]
   by_cases h10:x=10
   ·subst h10; rfl
   ·have e3:(x==10)=false:=by simp [h10]
    have e4:(x != 10)=true:=by simp [bne,h10]
    rw [e3,e4]; rfl
 ·rw [dT (show ((s.length:Nat):Int)≤(i:Int) by omega),yA (by omega)]; rfl⟩
theorem qnp:∀ (k:Nat) (l:LU),brksS k l=brksS 0 (l.drop k)
 | 0,l=>rfl
 | k+1,[]=>rfl
 | k+1,x :: r=>by rw [show brksS (k+1) (x :: r)=brksS k r from rfl,qnp k r]; rfl
theorem qrA:∀ (k:Nat) (l:LU) (p:Page),layS k l p=layS 0 (l.drop k) p
 | 0,l,p=>rfl
 | k+1,[],p=>rfl
 | k+1,x :: r,p=>by rw [show layS (k+1) (x :: r) p=layS k r p from rfl,qrA k r p]; rfl
theorem qDc {s:LU} {i:Nat} (h:i < s.length):brksS 0 (s.drop i)=bif decide (0 < brk (s.drop i)) then 13 :: 10 :: brksS 0 (s.drop (i+brk (s.drop i))) else s.getD i 0 :: brksS 0 (s.drop (i+1)):=by
 have e:=qA (d:=(0:UInt8)) h;cases hb:brk (s.drop i) with
 | zero =>
  rw [e] at hb ⊢;rw [show brksS 0 (s.getD i 0 :: s.drop (i+1))=(match brk (s.getD i 0 :: s.drop (i+1)) with | 0=>s.getD i 0 :: brksS 0 (s.drop (i+1)) | k+1=>13 :: 10 :: brksS k (s.drop (i+1))) from rfl,hb];rfl
 | succ k =>
  rw [e] at hb ⊢;rw [show brksS 0 (s.getD i 0 :: s.drop (i+1))=(match brk (s.getD i 0 :: s.drop (i+1)) with | 0=>s.getD i 0 :: brksS 0 (s.drop (i+1)) | k+1=>13 :: 10 :: brksS k (s.drop (i+1))) from rfl,hb];show 13 :: 10 :: brksS k (s.drop (i+1))=13 :: 10 :: brksS 0 (s.drop (i+(k+1)));rw [qnp k,List.drop_drop,show i+1+k=i+(k+1) by omega]
theorem qGN {s:LU} {i:Nat} (h:i < s.length) (p:Page):layS 0 (s.drop i) p=bif decide (0 < brk (s.drop i)) then layS 0 (s.drop (i+brk (s.drop i))) (pEnd p false) else layS 0 (s.drop (i+1)) (pPut p (unitQ (s.getD i 0) (decide (0 < brk (s.drop (i+1)))))):=by
 have e:=qA (d:=(0:UInt8)) h;cases hb:brk (s.drop i) with
 | zero =>
  rw [e] at hb ⊢;rw [show layS 0 (s.getD i 0 :: s.drop (i+1)) p=(match brk (s.getD i 0 :: s.drop (i+1)) with | 0=>layS 0 (s.drop (i+1)) (pPut p (unitQ (s.getD i 0) (decide (0 < brk (s.drop (i+1)))))) | k+1=>layS k (s.drop (i+1)) (pEnd p false)) from rfl,hb];rfl
 | succ k =>
  rw [e] at hb ⊢;rw [show layS 0 (s.getD i 0 :: s.drop (i+1)) p=(match brk (s.getD i 0 :: s.drop (i+1)) with | 0=>layS 0 (s.drop (i+1)) (pPut p (unitQ (s.getD i 0) (decide (0 < brk (s.drop (i+1)))))) | k+1=>layS k (s.drop (i+1)) (pEnd p false)) from rfl,hb];show layS k (s.drop (i+1)) (pEnd p false)=layS 0 (s.drop (i+(k+1))) (pEnd p false);rw [qrA k,List.drop_drop,show i+1+k=i+(k+1) by omega]
theorem qiP (s:LU) (i:Nat):z120 s (i:Int)=((brk (s.drop i):Nat):Int):=by unfold z120; rw [tn]
theorem qiQ {s:LU} {i:Nat} (hl:s.length≤1048576) (hi:i≤1048577):qhW s (i:Int)=true:=by
 unfold qhW;rw [qau hl,dT (by omega)]; rfl
theorem qcy (k0:LU→Option AV) (s:LU) (hl:s.length≤1048576):∀ (d i n:Nat) (out:LU),i+d=s.length→d < n→out.length+2*d≤room →
 qne k0 n s out (i:Nat)=k0 (out++brksS 0 (s.drop i))
 | d,i,0,out,hi,hn,_=>by omega
 | 0,i,n+1,out,hi,hn,_=>by
  show qfU _ _ n _ _ _=_;unfold qfU qaw qaS qL;rw [dF (by omega),yd,yA (by omega)];show k0 out=k0 (out++[]);rw [yG]
 | d+1,i,n+1,out,hi,hn,hb=>by
  have hlt:i < s.length:=by omega
  have hat:=qLS hlt;have ih1:=fun out hh=>qcy k0 s hl d (i+1) n out (by omega) (by omega) hh;have ih2:∀ out:LU,i+2≤s.length→out.length+2*(d - 1)≤room→qne k0 n s out ((i+2:Nat):Int)=k0 (out++brksS 0 (s.drop (i+2))):=fun out h2 hh=>qcy k0 s hl (d - 1) (i+2) n out (by omega) (by omega) hh;show qfU _ _ n _ _ _=_;unfold qfU qaw qaS qL;rw [qDc hlt,hat,tn,qn (by omega),qn (i:=i+1) (by omega),tn];simp (disch:=(first | omega | (simp; omega))) only [dT,yc,yi];rw [show decide (((i+1:Nat):Int) < ((s.length:Nat):Int))=decide (i+1 < s.length) by congr 1; apply propext; omega];rw [ih1 _ (by simp; omega),ih1 _ (by simp; omega)];generalize s.getD i 0=x
  by_cases h13:x=13
  ·subst h13
   by_cases h2:i+1 < s.length
   ·rw [ih2 _ (by omega) (by simp; omega),dT h2];generalize s.getD (i+1) 0=y;cases (y==10) <;> simp [yl]
   ·rw [dF h2]; simp [yl]
  ·have e1:(x==13)=false:=by simp [h13]
   have e2:(x != 13)=true:=by simp [bne,h13]
   rw [e1,e2]
   by_cases h10:x=10
   ·subst h10; simp [yl]
   ·have e3:(x==10)=false:=by simp [h10]
    have e4:(x != 10)=true:=by simp [bne,h10]
    rw [e3,e4]; simp [yl]
 termination_by d=>d
theorem qGO:∀ (s0:LU),(qBA s0=true)→∃ n,qBO n s0=qDX (z72 s0):=fun s h=>⟨s.length+1,by
 have hl:=qm (l:=s) h;unfold qBO z72;refine (qcy (qiA (s.length+1)) s hl s.length 0 (s.length+1) [] (by omega) (by omega) (by unfold room; simp; omega)).trans ?_;rw [yw]; rfl⟩
theorem qDd:∀ (p0:LU×(Int×Unit)) (soft1:Bool),(qeD p0 soft1=true)→∃ n,qxA n p0 soft1=qoS (z121 p0 soft1):=fun p soft h=>⟨0,by
 unfold qeD at h;have hl:p.1.length≤100000000:=by simpa using h
 have hr:room=1073741824:=rfl;unfold qxA qce z121 pEnd;cases soft
 ·simp only [yd];rw [dT (by rw [hr]; simp; omega),yc]
 ·simp only [yc];rw [dT (show p.1.length+([61]:LU).length≤room by rw [hr]; simp; omega),yc,dT (by rw [hr]; simp; omega),yc,yl];rfl⟩
theorem qDe:∀ (p0:LU×(Int×Unit)) (u1:LU),(qjk p0 u1=true)→∃ n,qxB n p0 u1=qoT (z119 p0 u1):=fun p u h=>⟨0,by
 unfold qjk at h;simp only [yf,ym] at h;obtain ⟨h1,h2,h3⟩:=h;have hr:room=1073741824:=rfl;have he:qeD p true=true:=dT h1;unfold qxB z119 pPut;rw [he,show IntKind.wrap .i64 (p.2.1+((u.length:Nat):Int))=p.2.1+((u.length:Nat):Int) from IntWalk.i64_in _ (by omega)]
 by_cases h75:75 < p.2.1+((u.length:Nat):Int)
 ·rw [dT h75];have hl:(pEnd p true).1.length≤100000003:=by unfold pEnd; simp; omega
  simp only [yc];rw [show z121 p true=pEnd p true from rfl,dT (by rw [hr]; omega),yc,show (pEnd p true).2.1=0 from rfl,IntWalk.i64_in _ (by omega)]
 ·rw [dF h75];simp only [yd];rw [dT (by rw [hr]; omega),yc]⟩
def okP (p:Page) (b:Nat):Prop:=p.1.length≤b∧0≤p.2.1∧p.2.1≤75
theorem qnq {p:Page} {b:Nat} (h:okP p b) (soft:Bool):okP (pEnd p soft) (b+3):=by
 unfold okP pEnd at *
 cases soft <;> simp <;> omega
theorem qEi {p:Page} {b:Nat} (h:okP p b) {u:LU} (hu:u.length≤3):okP (pPut p u) (b+6):=by
 unfold pPut
 by_cases h75:75 < p.2.1+((u.length:Nat):Int)
 ·rw [dT h75];have:=qnq h true;unfold okP at this ⊢;show ((pEnd p true).1++u).length≤_∧0≤(0:Int)+(u.length:Nat)∧(0:Int)+(u.length:Nat)≤75;rw [yn]; omega
 ·rw [dF h75];unfold okP at h ⊢;show (p.1++u).length≤_∧0≤p.2.1+(u.length:Nat)∧p.2.1+(u.length:Nat)≤75;rw [yn]; omega
theorem qlw (k0:Page→Option AV) (s:LU) (hl:s.length≤1048576):∀ (d i n:Nat) (p:Page),i+d=s.length→d < n→okP p (6*i) →
 qoU k0 n s p (i:Nat)=k0 (layS 0 (s.drop i) p)∧okP (layS 0 (s.drop i) p) (6*s.length)
 | d,i,0,p,hi,hn,_=>by omega
 | 0,i,n+1,p,hi,hn,hp=>by
  obtain rfl:i=s.length:=by omega
  refine ⟨?_,?_⟩
  ·show qcZ _ _ n _ _ _=_;unfold qcZ;rw [dF (by omega),yd,yA (by omega)];rfl
  ·rw [yA (by omega)]; exact hp
 | d+1,i,n+1,p,hi,hn,hp=>by
  have hlt:i < s.length:=by omega
  have hbk:=qOx (s.drop i);rw [yK] at hbk;rw [qGN hlt]
  by_cases h0:0 < brk (s.drop i)
  ·have ih:=qlw k0 s hl (d+1 - brk (s.drop i)) (i+brk (s.drop i)) n (pEnd p false) (by omega) (by omega) (by have:=qnq hp false; unfold okP at this ⊢; omega);rw [dT h0,yc];refine ⟨?_,ih.2⟩;show qcZ _ _ n _ _ _=_;unfold qcZ;rw [qiQ hl (by omega),qiP,dT (by omega),dT (show (0:Int) < ((brk (s.drop i):Nat):Int) by omega),show qeD p false=true from dT (by unfold okP at hp; omega),
    show IntKind.wrap .i64 ((i:Int)+((brk (s.drop i):Nat):Int))=((i+brk (s.drop i):Nat):Int) by rw [IntWalk.i64_in _ (by omega)]; omega]
   exact ih.1
  ·have hu:=qyN (s.getD i 0) (decide (0 < brk (s.drop (i+1))));have ih:=qlw k0 s hl d (i+1) n (pPut p (unitQ (s.getD i 0) (decide (0 < brk (s.drop (i+1)))))) (by omega) (by omega) (by have:=qEi hp hu.1; unfold okP at this ⊢; omega);rw [dF h0,yd];refine ⟨?_,ih.2⟩;show qcZ _ _ n _ _ _=_;unfold qcZ;rw [qn (by omega),qiQ hl (by omega),qiQ hl (by omega),qiP,qiP,tn,dT (show (i:Int) < ((s.length:Nat):Int) by omega),dF (show ¬ (0:Int) < ((brk (s.drop i):Nat):Int) by omega),
    show decide ((0:Int) < ((brk (s.drop (i+1)):Nat):Int))=decide (0 < brk (s.drop (i+1))) by congr 1; apply propext; omega]
   have hok:qjk p (z122 (s.getD i 0) (decide (0 < brk (s.drop (i+1)))))=true:=by
    unfold qjk okP at *
    rw [dT (by omega),dT (by omega),dT (by show (unitQ _ _).length≤_; omega)]; rfl
   rw [hok,dT (show (0:Int)≤(i:Int) by omega)];exact ih.1
 termination_by d=>d
theorem qyO (s:LU) (hl:s.length≤1048576):okP (layS 0 s ([],(0,()))) (6*s.length):=by
 have:=(qlw (fun _=>none) s hl s.length 0 (s.length+1) ([],(0,())) (by omega) (by omega) (by unfold okP; simp)).2;rwa [yw] at this
theorem qGP:∀ (s0:LU),(qBB s0=true)→∃ n,qBF n s0=qxK (z62 s0):=fun s h=>⟨s.length+1,by
 have hl:=qm (l:=s) h;have hp:=qyO s hl;unfold qBF z62;refine (qlw (qfE (s.length+1)) s hl s.length 0 (s.length+1) ([],(0,())) (by omega) (by omega) (by unfold okP; simp)).1.trans ?_;rw [yw];unfold qfE pDone;generalize layS 0 s ([],(0,()))=p at hp ⊢;rw [show qeD p true=true from dT (by unfold okP at hp; omega)];cases decide ((0:Int) < p.2.1) <;> rfl⟩
def refS:Nat→LU→Page→Page
 | _,[],p=>p
 | 0,x :: r,p=>bif x==13 then refS 1 r (pEnd p false) else refS 0 r (pPut p (unitQ x (r.headD 0==13)))
 | k+1,_ :: r,p=>refS k r p
theorem qrB:∀ r:LU,((brksS 0 r).headD 0==13)=decide (0 < brk r)
 | []=>rfl
 | x :: r=>by
  cases hb:brk (x :: r) with
  | zero =>
   rw [show brksS 0 (x :: r)=(match brk (x :: r) with | 0=>x :: brksS 0 r | k+1=>13 :: 10 :: brksS k r) from rfl,hb];show (x==13)=false
   by_cases h13:x=13
   ·subst h13;have:brk (13 :: r)≠0:=by
     cases r with
     | nil=>decide
     | cons y r=>show (bif y==10 then 2 else 1)≠0; cases (y==10) <;> decide
    exact absurd hb this
   ·simp [h13]
  | succ k =>
   rw [show brksS 0 (x :: r)=(match brk (x :: r) with | 0=>x :: brksS 0 r | k+1=>13 :: 10 :: brksS k r) from rfl,hb];rfl
theorem qrC:∀ (s:LU) (k:Nat) (p:Page),refS 0 (brksS k s) p=layS k s p
 | [],0,p=>rfl
 | [],k+1,p=>rfl
 | x :: r,k+1,p=>qrC r k p
 | x :: r,0,p=>by
  cases hb:brk (x :: r) with
  | zero =>
   have h13:(x==13)=false:=by
    have:=qrB (x :: r);rw [show brksS 0 (x :: r)=(match brk (x :: r) with | 0=>x :: brksS 0 r | k+1=>13 :: 10 :: brksS k r) from rfl,hb] at this;exact this
   rw [show brksS 0 (x :: r)=(match brk (x :: r) with | 0=>x :: brksS 0 r | k+1=>13 :: 10 :: brksS k r) from rfl,hb,
    show layS 0 (x :: r) p=(match brk (x :: r) with | 0=>layS 0 r (pPut p (unitQ x (decide (0 < brk r)))) | k+1=>layS k r (pEnd p false)) from rfl,hb]
   show (bif x==13 then refS 1 (brksS 0 r) (pEnd p false) else refS 0 (brksS 0 r) (pPut p (unitQ x ((brksS 0 r).headD 0==13))))=_;rw [h13,yd,qrB,qrC r 0]
  | succ k =>
   rw [show brksS 0 (x :: r)=(match brk (x :: r) with | 0=>x :: brksS 0 r | k+1=>13 :: 10 :: brksS k r) from rfl,hb,
    show layS 0 (x :: r) p=(match brk (x :: r) with | 0=>layS 0 r (pPut p (unitQ x (decide (0 < brk r)))) | k+1=>layS k r (pEnd p false)) from rfl,hb]
   exact qrC r k (pEnd p false)
theorem qrD:∀ (k:Nat) (l:LU) (p:Page),refS k l p=refS 0 (l.drop k) p
 | 0,l,p=>rfl
 | k+1,[],p=>rfl
 | k+1,x :: r,p=>by rw [show refS (k+1) (x :: r) p=refS k r p from rfl,qrD k r p]; rfl
theorem qgd (k0:LU→Int→Option AV) (b:LU) (hl:b.length≤2097152):∀ (d i n:Nat) (p:Page),b.length≤i+d→i≤2097160→d < n→okP p (6*i) →
 qln k0 n b p.1 p.2.1 (i:Nat)=k0 (refS 0 (b.drop i) p).1 (refS 0 (b.drop i) p).2.1
 | d,i,0,p,hi,hi2,hn,_=>by omega
 | 0,i,n+1,p,hi,hi2,hn,hp=>by
  show qfW _ _ n _ _ _ _=_;unfold qfW qak qax qaj;rw [dF (by omega),yd,yA (by omega)];rfl
 | d+1,i,n+1,p,hi,hi2,hn,hp=>by
  show qfW _ _ n _ _ _ _=_;unfold qfW qak qax qaj
  by_cases hlt:i < b.length
  ·have hr:room=1073741824:=rfl;have hpl:=hp.1;rw [dT (show (i:Int) < ((b.length:Nat):Int) by omega),qn (by omega),qn (i:=i+1) (by omega),tn,tn,qA (d:=(0:UInt8)) hlt];rw [show refS 0 (b.getD i 0 :: b.drop (i+1)) p=bif b.getD i 0==13 then refS 1 (b.drop (i+1)) (pEnd p false) else refS 0 (b.drop (i+1)) (pPut p (unitQ (b.getD i 0) ((b.drop (i+1)).headD 0==13))) from rfl];rw [show decide (((i+1:Nat):Int) < ((b.length:Nat):Int))=decide (i+1 < b.length) by congr 1; apply propext; omega];have hpe:=qnq hp true;cases h13:(b.getD i 0==13) with
   | true =>
    have ih:=qgd k0 b hl d (i+2) n (pEnd p false) (by omega) (by omega) (by omega) (by have:=qnq hp false; unfold okP at this ⊢; omega);rw [qrD,List.drop_drop];simp (disch:=(first | omega | (rw [hr]; simp; omega))) only [dT,yc,yi];exact ih
   | false =>
    have hu:=fun e=>qyN (b.getD i 0) e;have ih:=fun e=>qgd k0 b hl d (i+1) n (pPut p (unitQ (b.getD i 0) e)) (by omega) (by omega) (by omega) (by have:=qEi hp (hu e).1; unfold okP at this ⊢; omega);have hput:∀ e,(bif decide ((75:Int) < IntKind.wrap .i64 (p.2.1+(((z73 (b.getD i 0) e).length:Nat):Int))) then
     bif decide (p.1.length+([61,13,10]:LU).length≤room) then
      bif decide ((p.1++([61,13,10]:LU)).length+(z73 (b.getD i 0) e).length≤room) then
       qln k0 n b ((p.1++([61,13,10]:LU))++z73 (b.getD i 0) e) (IntKind.wrap .i64 (0+(((z73 (b.getD i 0) e).length:Nat):Int))) ((i+1:Nat):Int) else none else none
     else bif decide (p.1.length+(z73 (b.getD i 0) e).length≤room) then
      qln k0 n b (p.1++z73 (b.getD i 0) e) (IntKind.wrap .i64 (p.2.1+(((z73 (b.getD i 0) e).length:Nat):Int))) ((i+1:Nat):Int) else none) =
     k0 (refS 0 (b.drop (i+1)) (pPut p (unitQ (b.getD i 0) e))).1 (refS 0 (b.drop (i+1)) (pPut p (unitQ (b.getD i 0) e))).2.1:=fun e=>by
     rw [← ih e,show z73 (b.getD i 0) e=unitQ (b.getD i 0) e from rfl];have hu1:=(hu e).1;have hp2:=hp.2;rw [show IntKind.wrap .i64 (p.2.1+(((unitQ (b.getD i 0) e).length:Nat):Int))=p.2.1+(((unitQ (b.getD i 0) e).length:Nat):Int) from IntWalk.i64_in _ (by omega),
      show IntKind.wrap .i64 ((0:Int)+(((unitQ (b.getD i 0) e).length:Nat):Int))=0+(((unitQ (b.getD i 0) e).length:Nat):Int) from IntWalk.i64_in _ (by omega)]
     generalize unitQ (b.getD i 0) e=u at hu1 ⊢;unfold pPut
     by_cases h75:75 < p.2.1+((u.length:Nat):Int)
     ·rw [dT h75,dT (by rw [hr]; simp; omega),dT (by rw [hr]; simp; omega)]; rfl
     ·rw [dF h75,yd,dT (show p.1.length+u.length≤room by rw [hr]; omega)]; rfl
    by_cases h2:i+1 < b.length
    ·rw [dT h2,dT (show (0:Int)≤(i:Int) by omega),dT (show (0:Int)≤((i+1:Nat):Int) by omega),qA (d:=(0:UInt8)) h2];have hq:=hput (b.getD (i+1) 0==13);rw [qA (d:=(0:UInt8)) h2] at hq;exact hq
    ·rw [dF h2,dT (show (0:Int)≤(i:Int) by omega),yA (show b.length≤i+1 by omega)];have hq:=hput false;rw [yA (show b.length≤i+1 by omega)] at hq;exact hq
  ·rw [dF (by omega),yd,yA (by omega)];rfl
theorem qlx:∀ (s:LU) (k:Nat),(brksS k s).length≤2*s.length
 | [],0=>by simp [brksS]
 | [],k+1=>by simp [brksS]
 | x :: r,k+1=>by have:=qlx r k; simp only [brksS,yg]; omega
 | x :: r,0=>by
  rw [show brksS 0 (x :: r)=(match brk (x :: r) with | 0=>x :: brksS 0 r | k+1=>13 :: 10 :: brksS k r) from rfl];cases hb:brk (x :: r) with
  | zero=>have:=qlx r 0; simp only [yg]; omega
  | succ k=>have:=qlx r k; simp only [yg]; omega
theorem qGQ:∀ (s0:LU),(qBC s0=true)→∃ n,qBP n s0=qyo (z33 s0):=fun s h=>⟨2*s.length+1,by
 have hl:=qm (l:=s) h;have hb:=qlx s 0;have hp:=qyO s hl;have hr:room=1073741824:=rfl;unfold qBP z33 z62 z72;rw [show qBA s=true from h,y5,yc];refine (qgd (qfX (2*s.length+1)) (brksS 0 s) (by omega) (2*s.length) 0 (2*s.length+1) ([],(0,())) (by omega) (by omega) (by omega) (by unfold okP; simp)).trans ?_;rw [yw,qrC];unfold qfX pDone;generalize layS 0 s ([],(0,()))=p at hp ⊢;have:=hp.1;rw [dT (show p.1.length+([61,13,10]:LU).length≤room by rw [hr]; simp; omega)];cases decide ((0:Int) < p.2.1) <;> rfl⟩
theorem qjq (s sep:LU):Lib.index s sep = -1∨0≤Lib.index s sep:=by
 rcases Lib.index_spec s sep with ⟨h1,_⟩ | ⟨i,h1,_⟩
 ·exact .inl h1
 ·right; omega
theorem qnr (ret:Int→Option AV) (sep:LU) (h2:2≤sep.length) (hs:sep.length≤1048576):∀ (f:Nat) (s:LU) (m n:Nat),s.length < f→f≤n→s.length≤1048576→m+s.length≤1048576 →
 qib ret n s sep (m:Nat)=ret ((m+cntF sep f s:Nat):Int)
 | 0,s,m,n,h,_,_,_=>by omega
 | f+1,s,m,0,h,hn,_,_=>by omega
 | f+1,s,m,n+1,h,hn,hl,hm=>by
  show qgO _ _ n _ _ _=_;unfold qgO;have hok:qhD s sep=true:=by
   unfold qhD;rw [qau hl,qau hs,dT (by omega)]; rfl
  rw [hok,show z143 s sep=Lib.index s sep from rfl];rw [show cntF sep (f+1) s=bif Lib.index s sep == -1 then 0 else cntF sep f (s.drop ((Lib.index s sep).toNat+sep.length))+1 from rfl];rcases qjq s sep with e | e
  ·rw [e]; rfl
  ·have hr:=Lib.index_room s sep e;rw [show (Lib.index s sep == -1)=false by rw [yB]; omega];rw [show IntKind.wrap .i64 (Lib.index s sep+((sep.length:Nat):Int))=(((Lib.index s sep).toNat+sep.length:Nat):Int) by rw [IntWalk.i64_in _ (by omega)]; omega];rw [tn,tn,List.take_length,qn (by omega),dT (by omega),dT (show (((Lib.index s sep).toNat+sep.length:Nat):Int)≤((s.length:Nat):Int) by omega),dT (Int.le_refl _)];simp only [Bool.and_self,yc,yd];rw [qnr ret sep h2 hs f (s.drop ((Lib.index s sep).toNat+sep.length)) (m+1) n (by rw [yK]; omega) (by omega) (by rw [yK]; omega) (by rw [yK]; omega)];congr 1;omega
theorem qDf:∀ (s0:LU) (sep1:LU),(qeB s0 sep1=true)→∃ n,qqW n s0 sep1=qfA (z139 s0 sep1):=fun s sep h=>⟨s.length+1,by
 unfold qeB at h;simp only [yf,ym] at h;have hl:=qm h.1;have hs:=qm h.2.1
 by_cases h1:sep.length=1
 ·obtain ⟨c,rfl⟩:=List.length_eq_one_iff.1 h1;rfl
 unfold qqW z139;rw [show (((sep.length:Nat):Int)==0)=false by rw [yB]; omega,show (((sep.length:Nat):Int)==1)=false by rw [yB]; omega,show (sep.length==1)=false by rw [yB]; exact h1];have:=qnr qfA sep (by omega) hs (s.length+1) s 0 (s.length+1) (by omega) (by omega) hl (by omega);rw [yE] at this;exact this⟩
theorem cap2 (a b:UInt8):z146 [a,b]=(!(([97,98,99,100,101,102]:LU).contains a) && !(([97,98,99,100,101,102]:LU).contains b)):=by
 unfold z146 z200 z109;rw [show anyAt [97,98,99,100,101,102] [a,b] 0=bif ([97,98,99,100,101,102]:LU).contains a then 0 else bif ([97,98,99,100,101,102]:LU).contains b then 1 else -1 from rfl];cases ([97,98,99,100,101,102]:LU).contains a <;> cases ([97,98,99,100,101,102]:LU).contains b <;> rfl
theorem qDg:∀ (s0:LU) (prefix1:LU),∃ n,qxk n s0 prefix1=qoR (z171 s0 prefix1):=fun s t=>⟨0,by
 unfold qxk z171
 by_cases hc:t.length≤s.length
 ·rw [tn,dT hc];simp (disch:=omega) only [dT,yc,yi];rfl
 ·rw [dF hc,dF (by omega)]; rfl⟩
theorem qDh:∀ (s0:LU),∃ n,qxl n s0=qhY (z110 s0):=fun s=>⟨0,by
 unfold qxl z110;match s with
 | []=>rfl
 | [x]=>rfl
 | x :: y :: r =>
  have e:z171 (x :: y :: r) [13,10]=((x==13)&&(y==10)):=by
   unfold z171;rw [dT (by simp),yc];show ([x,y]==[13,10])=_;simp [List.cons_beq_cons]
  rw [e,dT (show (0:Int) < (((x :: y :: r).length:Nat):Int) by simp; omega)];show _=qhY ((bif (x==13)&&(y==10) then 2 else 1:Nat):Int);cases (x==13) <;> cases (y==10) <;> rfl⟩
theorem qpp (c:UInt8):([13,10]:LU).contains c=isBrk c:=by
 unfold isBrk;simp only [List.contains_cons,List.contains_nil,Bool.or_false]
theorem qbn (s:LU):qP s++qaF s=s:=List.takeWhile_append_dropWhile
theorem qns:∀ (s:LU) (i:Int),anyAt [13,10] s i=bif (qaF s).isEmpty then -1 else i+((qP s).length:Nat)
 | [],i=>rfl
 | x :: r,i=>by
  show (bif ([13,10]:LU).contains x then i else anyAt [13,10] r (i+1))=_;rw [qpp];cases hb:isBrk x with
  | true =>
   have e1:qaF (x :: r)=x :: r:=by unfold qaF; rw [List.dropWhile_cons,hb]; rfl
   have e2:qP (x :: r)=[]:=by unfold qP; rw [List.takeWhile_cons,hb]; rfl
   rw [e1,e2];show i=i+0;omega
  | false =>
   have e1:qaF (x :: r)=qaF r:=by unfold qaF; rw [List.dropWhile_cons,hb]; rfl
   have e2:qP (x :: r)=x :: qP r:=by unfold qP; rw [List.takeWhile_cons,hb]; rfl
   rw [e1,e2,yd,qns r (i+1)];cases (qaF r).isEmpty
   ·simp only [yd,yg]; omega
   ·rfl
theorem qyP:∀ l:LU,brkA l≤l.length
 | []=>yv _
 | [x]=>yv _
 | x :: y :: r=>by
  show (bif (x==13)&&(y==10) then 2 else 1)≤_;simp only [yg];cases (x==13)&&(y==10) <;> simp
theorem qGR:∀ l:LU,l≠[]→0 < brkA l
 | [],h=>absurd rfl h
 | [x],_=>Nat.one_pos
 | x :: y :: r,_=>by
  show 0 < (bif (x==13)&&(y==10) then 2 else 1);cases (x==13)&&(y==10) <;> decide
theorem qrE (s:LU):(qP s).length+(endOf s).length+(qeE s).length=s.length:=by
 have h:=congrArg List.length (qbn s);rw [yn] at h;unfold endOf qeE;rw [yz,yK];have:=qyP (qaF s);omega
theorem qLT {s:LU} (h:s≠[]):(qeE s).length < s.length:=by
 have hp:=qrE s;cases hb:qaF s with
 | nil =>
  have h1:=qbn s;rw [hb,yG] at h1;have:qeE s=[]:=by unfold qeE; rw [hb]; rfl
  rw [this];cases s with
  | nil=>exact absurd rfl h
  | cons x r=>simp
 | cons x r =>
  have:=qGR (qaF s) (by rw [hb]; simp);have h2:=qyP (qaF s);have h3:(endOf s).length=brkA (qaF s):=by unfold endOf; rw [yz]; omega
  omega
theorem anyOk {s:LU} (hl:s.length≤1048576):qji s [13,10]=true:=by
 unfold qji;rw [qau hl];rfl
theorem qDi (s:LU):s.take (qP s).length=qP s:=by
 have:=congrArg (List.take (qP s).length) (qbn s);rw [List.take_left] at this;exact this.symm
theorem qDj (s:LU):s.drop (qP s).length=qaF s:=by
 have:=congrArg (List.drop (qP s).length) (qbn s);rw [List.drop_left] at this;exact this.symm
theorem qjr (V:Sigma Inv) (K:Den V.1→LU→Option AV):∀ (m:Nat) (x:Den V.1) (s:LU),s.length≤1048576→(qnc (fun x a0 a1=>V.2.spec x [⟨(.sl .byte),a0⟩,⟨(.sl .byte),a1⟩]) m x s).1=true →
 qeI V K K m x s=K (qnc (fun x a0 a1=>V.2.spec x [⟨(.sl .byte),a0⟩,⟨(.sl .byte),a1⟩]) m x s).2.1 (qnc (fun x a0 a1=>V.2.spec x [⟨(.sl .byte),a0⟩,⟨(.sl .byte),a1⟩]) m x s).2.2
 | 0,x,s,_,h=>by cases h
 | m+1,x,s,hl,h=>by
  show qgM V K K (qeI V K K m) m x s=_;unfold qgM qbC qbB qbA qbz qaq qO qap qao;unfold qnc at h ⊢
  by_cases hs:s=[]
  ·subst hs; rfl
  ·have e0:s.isEmpty=false:=by cases s with
    | nil=>exact absurd rfl hs
    | cons _ _=>rfl
   have hpos:0 < s.length:=List.length_pos_iff.2 hs;rw [e0,yd] at h;rw [e0,yd,dT (show (0:Int) < ((s.length:Nat):Int) by omega),yc,anyOk hl];simp only [yi,yc];have hp:=qrE s;have hb:=qyP (qaF s);have hlb:=congrArg List.length (qbn s);rw [yn] at hlb;have hrl:=qLT hs;have fin:(bif (V.2.spec x [⟨(.sl .byte),qP s⟩,⟨(.sl .byte),endOf s⟩]).1 then (bif !(V.2.spec x [⟨(.sl .byte),qP s⟩,⟨(.sl .byte),endOf s⟩]).2.1 then K (V.2.spec x [⟨(.sl .byte),qP s⟩,⟨(.sl .byte),endOf s⟩]).2.2 s
    else qeI V K K m (V.2.spec x [⟨(.sl .byte),qP s⟩,⟨(.sl .byte),endOf s⟩]).2.2 (qeE s)) else none)=_:=(?_:_=K (bif (V.2.spec x [⟨(.sl .byte),qP s⟩,⟨(.sl .byte),endOf s⟩]).1 then
     bif (V.2.spec x [⟨(.sl .byte),qP s⟩,⟨(.sl .byte),endOf s⟩]).2.1 then qnc (fun x a0 a1=>V.2.spec x [⟨(.sl .byte),a0⟩,⟨(.sl .byte),a1⟩]) m (V.2.spec x [⟨(.sl .byte),qP s⟩,⟨(.sl .byte),endOf s⟩]).2.2 (qeE s) else (true,(V.2.spec x [⟨(.sl .byte),qP s⟩,⟨(.sl .byte),endOf s⟩]).2.2,s)
     else (false,x,s)).2.1 (bif (V.2.spec x [⟨(.sl .byte),qP s⟩,⟨(.sl .byte),endOf s⟩]).1 then
     bif (V.2.spec x [⟨(.sl .byte),qP s⟩,⟨(.sl .byte),endOf s⟩]).2.1 then qnc (fun x a0 a1=>V.2.spec x [⟨(.sl .byte),a0⟩,⟨(.sl .byte),a1⟩]) m (V.2.spec x [⟨(.sl .byte),qP s⟩,⟨(.sl .byte),endOf s⟩]).2.2 (qeE s) else (true,(V.2.spec x [⟨(.sl .byte),qP s⟩,⟨(.sl .byte),endOf s⟩]).2.2,s)
     else (false,x,s)).2.2)
   ·have eA:z109 s [13,10]=bif (qaF s).isEmpty then (-1:Int) else (((qP s).length:Nat):Int):=by
     unfold z109;rw [qns];cases (qaF s).isEmpty
     ·simp only [yd]; omega
     ·rfl
    rw [eA];cases hbe:(qaF s).isEmpty with
    | true =>
     have hbn:qaF s=[]:=List.isEmpty_iff.1 hbe;have hls:qP s=s:=by have:=qbn s; rw [hbn,yG] at this; exact this
     have eE:endOf s=[]:=by unfold endOf; rw [hbn]; rfl
     have eR:qeE s=[]:=by unfold qeE; rw [hbn]; rfl
     rw [eE,eR,hls] at fin;simp only [yc,tn,List.take_length,List.drop_length];rw [show z110 []=0 from rfl,Int.add_zero,wr (show -9223372036854775808≤((s.length:Nat):Int)∧((s.length:Nat):Int)≤9223372036854775807 by omega)];simp (disch:=omega) only [dT,yc,yd,yi,tn,List.take_length,List.drop_length];rw [hls,eE,eR];exact fin
    | false =>
     have eB:List.drop (qP s).length s=qaF s:=qDj s;simp only [yd,tn,List.take_length];rw [dF (show ¬ (((qP s).length:Nat):Int) < 0 by omega),yd,eB,show z110 (qaF s)=((brkA (qaF s):Nat):Int) from rfl,
      show IntKind.wrap .i64 ((((qP s).length:Nat):Int)+((brkA (qaF s):Nat):Int))=(((qP s).length+brkA (qaF s):Nat):Int) by rw [IntWalk.i64_in _ (by omega)]; omega,tn]
     simp (disch:=omega) only [dT,yc,yd,yi];have eT:List.drop 0 (List.take (qP s).length s)=qP s:=qDi s;have eE:List.drop (qP s).length (List.take ((qP s).length+brkA (qaF s)) s)=endOf s:=by
      unfold endOf;rw [List.drop_take,eB,Nat.add_sub_cancel_left]
     have eR:List.drop ((qP s).length+brkA (qaF s)) s=qeE s:=by
      unfold qeE;rw [← eB,List.drop_drop]
     rw [eT,eE,eR];exact fin
   ·cases h1:(V.2.spec x [⟨(.sl .byte),qP s⟩,⟨(.sl .byte),endOf s⟩]).1 with
    | false=>rw [h1] at h; cases h
    | true =>
     rw [h1] at h;simp only [yc] at h ⊢;cases h2:(V.2.spec x [⟨(.sl .byte),qP s⟩,⟨(.sl .byte),endOf s⟩]).2.1 with
     | false=>rfl
     | true =>
      rw [h2] at h;simp only [yc,Bool.not_true,yd] at h ⊢;exact qjr V K m _ (qeE s) (by omega) h
theorem qDk (V:Sigma Inv):∀ (x0:Den V.1) (x1:LU),(z108 (fun x a0 a1=>V.2.spec x [⟨(.sl .byte),a0⟩,⟨(.sl .byte),a1⟩]) x0 x1).1=true→∃ n,qxm V n x0 x1=qhZ V (z108 (fun x a0 a1=>V.2.spec x [⟨(.sl .byte),a0⟩,⟨(.sl .byte),a1⟩]) x0 x1).2.1 (z108 (fun x a0 a1=>V.2.spec x [⟨(.sl .byte),a0⟩,⟨(.sl .byte),a1⟩]) x0 x1).2.2:=fun x s h=>⟨s.length+1,by
 unfold z108 at h ⊢;cases hl:lenOk s with
 | false=>rw [hl] at h; cases h
 | true =>
  rw [hl] at h;simp only [yc] at h ⊢;exact qjr V (qhZ V) (s.length+1) x s (qm hl) h⟩
end
end Go.Av
