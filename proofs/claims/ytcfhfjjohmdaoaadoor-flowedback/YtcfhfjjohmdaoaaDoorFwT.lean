import Derived.Test.YtcfhfjjohmdaoaaDoorFwSh
import Derived.Test.YtcfhfjjohmdaoaaDoorAvE
import Derived.Lib.IndexAny
import Derived.Lib.IndexMore
import Derived.Lib.IndexBytes
import Derived.IntWalk
import Derived.KernelRfl
namespace Go.Av
set_option linter.unusedVariables false
theorem qiR {s:List UInt8} {i:Nat}:(s.drop i).head? = some 10↔(i < s.length∧s.getD i 0=10):=by
 rw [List.head?_drop];constructor
 ·intro h;obtain ⟨h1,h2⟩:=List.getElem?_eq_some_iff.1 h;exact ⟨h1,by simp [List.getD,h1,h2]⟩
 ·intro ⟨h1,h2⟩;simp [List.getD,h1] at h2;rw [yO h1,h2]
theorem qtv {α:Type} [DecidableEq α] {a b:List α} {i:Nat} (ha:i < a.length) (hb:i < b.length) (d:α):decide (a.drop i=b.drop i)=bif a.getD i d != b.getD i d then false else decide (a.drop (i+1)=b.drop (i+1)):=by
 rw [qbn (d:=d) ha,qbn (d:=d) hb];generalize a.getD i d=x;generalize b.getD i d=y
 by_cases h:x=y
 ·subst h; simp
 ·simp [h]
theorem qrj (ret:Bool→Option AV) (a b:List UInt8) (hab:a.length=b.length) (hl:a.length≤1048576):∀ (d i n:Nat),i+d=a.length→d < n →
 qiN ret (ret true) n a b (i:Nat)=ret (decide (a.drop i=b.drop i))
 | d,i,0,hi,hn=>by omega
 | 0,i,n+1,hi,hn=>by
  show qey ret (ret true) (qiN ret (ret true) n) n a b _=_;unfold qey;rw [yx (by omega),yd,yA (by omega),yA (by omega)];rfl
 | d+1,i,n+1,hi,hn=>by
  show qey ret (ret true) (qiN ret (ret true) n) n a b _=_;unfold qey;have hlt:i < a.length:=by omega
  have hlt':i < b.length:=by omega
  have ih:=qrj ret a b hab hl d (i+1) n (by omega) (by omega);rw [qoH,yo hlt,yc,qby,y4,yc,y4,qoH,yo hlt',yc,qea (by omega),qbK,ih,qtv hlt hlt' 0];cases (a.getD i 0 != b.getD i 0) <;> rfl
theorem qvQ:∀ (a0:List UInt8) (b1:List UInt8),(qha a0 b1=true)→∃ n,qtj n a0 b1=qhu (z15 a0 b1):=fun a b h=>⟨a.length+1,by
 unfold qtj z15
 by_cases hab:a.length=b.length
 ·rw [show (((a.length:Nat):Int) != ((b.length:Nat):Int))=false by simp [hab],yd];exact qrj qhu a b hab (qm h) a.length 0 (a.length+1) (by omega) (by omega)
 ·rw [show (((a.length:Nat):Int) != ((b.length:Nat):Int))=true by simp only [bne_iff_ne,ne_eq]; omega,yc,yx (fun e=>hab (by rw [e]))]⟩
theorem qtw:∀ (bufLen0:Int),∃ n,qtL n bufLen0=qrg (z107 bufLen0):=fun _=>⟨0,rfl⟩
theorem qky (c:UInt8):decide (((UInt8.toNat c:Nat):Int) < (256:Nat))=true:=by
 have:=c.toNat_lt;rw [yo];omega
theorem qbY (ret:List Bool→Bool→Option AV) (k0:List Bool→Option AV) (cs:List UInt8) (ha:ascii cs=true) (hl:cs.length≤1048576):∀ (d i n:Nat) (a:List Bool),i+d=cs.length→d < n →
 qiy ret k0 n cs a (i:Nat)=k0 (setOf (cs.drop i) a)
 | d,i,0,a,hi,hn=>by omega
 | 0,i,n+1,a,hi,hn=>by
  show qes ret k0 (qiy ret k0 n) n cs a _=_;unfold qes;rw [yx (by omega),yd,yA (by omega)];rfl
 | d+1,i,n+1,a,hi,hn=>by
  show qes ret k0 (qiy ret k0 n) n cs a _=_;unfold qes;have hlt:i < cs.length:=by omega
  have hc:decide ((128:UInt8)≤List.getD cs i 0)=false:=by
   unfold ascii at ha;rw [List.all_eq_true] at ha;have:=ha (cs.getD i 0) (by simp [List.getD,hlt]);rw [decide_eq_false_iff_not];simp only [ym] at this;exact UInt8.not_le.2 this
  rw [qoH,yo hlt,yc,qby,y4,yc,qbK,hc,yd,qby,qky,y4,yc,qea (by omega),
   qbY ret k0 cs ha hl d (i+1) n _ (by omega) (by omega),qbn (d:=0) hlt]
  rfl
theorem qvR:∀ (chars0:List UInt8),(qjB chars0=true)→∃ n,qvv n chars0=qks (z92 chars0).1 (z92 chars0).2:=fun cs h=>⟨cs.length+1,by
 unfold qjB at h;rw [yf] at h;exact qbY qks (qgp (cs.length+1)) cs h.1 (qm h.2) cs.length 0 (cs.length+1) _ (by omega) (by omega)⟩
theorem qtx:∀ (as0:List Bool) (c1:UInt8),∃ n,qqY n as0 c1=qqX (z108 as0 c1):=fun as c=>⟨0,by
 unfold qqY;rw [qby,qky];rfl⟩
theorem qeY (c:UInt8):c.toNat < 256:=c.toNat_lt
theorem qlu (c:Nat) (h:128≤c):2≤(Utf8.encode (c:Int)).size∧(c < 2048→(Utf8.encode (c:Int)).size≤2)∧(c < 65536→(Utf8.encode (c:Int)).size≤3)∧(Utf8.encode (c:Int)).size≤4:=by
 by_cases hv:Utf8.valid (c:Int)=true
 ·have hc:(c:Int).toNat=c:=by omega
  unfold Utf8.encode;simp only [hv,if_true,hc];rw [if_neg (by omega)];split
  ·refine ⟨?_,?_,?_,?_⟩ <;> simp [ByteArray.size]
  ·split
   ·refine ⟨?_,?_,?_,?_⟩ <;> simp [ByteArray.size] <;> omega
   ·refine ⟨?_,?_,?_,?_⟩ <;> simp [ByteArray.size] <;> omega
 ·have hn:2048≤c:=by
   rcases Nat.lt_or_ge c 2048 with h2 | h2
   ·exact absurd (by unfold Utf8.valid; simp; omega) hv
   ·exact h2
  have hv':Utf8.valid (c:Int)=false:=by simpa using hv
  have he:Utf8.encode (c:Int)=⟨#[239,191,189]⟩:=by
   unfold Utf8.encode;simp only [hv',yq,if_false];decide
  rw [he];refine ⟨?_,?_,?_,?_⟩ <;> simp [ByteArray.size] <;> omega
theorem qnc (c:Nat) (h:128≤c):∃ e r,(Utf8.encode (c:Int)).data.toList=e :: r∧128≤e.toNat:=by
 unfold Utf8.encode;generalize hg:(if Utf8.valid (c:Int)=true then (c:Int).toNat else Utf8.runeError)=x;have hx:128≤x∧x≤1114111:=by
  split at hg
  ·rename_i hv;unfold Utf8.valid at hv;simp only [Bool.or_eq_true,yf,ym] at hv;omega
  ·unfold Utf8.runeError at hg; omega
 simp only [if_neg (show ¬ x < 128 by omega)];split
 ·exact ⟨_,_,rfl,by simp; omega⟩
 ·split
  ·exact ⟨_,_,rfl,by simp; omega⟩
  ·exact ⟨_,_,rfl,by simp; omega⟩
theorem qty (p:List UInt8) (hp:0 < p.length) (h0:128≤(p.getD 0 0).toNat):128≤(Lib.decodeL p).1∧1≤(Lib.decodeL p).2∧(Lib.decodeL p).2≤p.length∧(∀ j,j < (Lib.decodeL p).2→128≤(p.getD j 0).toNat) ∧
 ((Lib.decodeL p).1≠65533→2≤(Utf8.encode ((Lib.decodeL p).1:Int)).size∧(Utf8.encode ((Lib.decodeL p).1:Int)).size≤(Lib.decodeL p).2):=by
 rw [Lib.decodeL_N];have b0:=qeY (p.getD 0 0);have b1:=qeY (p.getD 1 0);have b2:=qeY (p.getD 2 0);have b3:=qeY (p.getD 3 0);rcases Lib.decodeN_shape p.length (p.getD 0 0).toNat (p.getD 1 0).toNat (p.getD 2 0).toNat (p.getD 3 0).toNat with ⟨h,_⟩ | ⟨h1,h2,h3,h4,e⟩ | ⟨h1,h2,h3,h4,h5,_,e⟩ | ⟨h1,h2,h3,h4,h5,h6,h7,e⟩ | e
 ·omega
 ·rw [e];dsimp only;have hs:=qlu _ h4;refine ⟨h4,by omega,by omega,fun j hj=>?_,fun _=>⟨hs.1,hs.2.1 (by omega)⟩⟩;match j,hj with
  | 0,_=>exact h0
  | 1,_=>omega
  | n+2,hj=>omega
 ·rw [e];dsimp only;have hs:=qlu (((p.getD 0 0).toNat % 16)*4096+(p.getD 1 0).toNat % 64*64+(p.getD 2 0).toNat % 64) (by omega);refine ⟨by omega,by omega,by omega,fun j hj=>?_,fun _=>⟨hs.1,hs.2.2.1 (by omega)⟩⟩;match j,hj with
  | 0,_=>exact h0
  | 1,_=>omega
  | 2,_=>omega
  | n+3,hj=>omega
 ·rw [e];dsimp only;have hs:=qlu (((p.getD 0 0).toNat % 8)*262144+(p.getD 1 0).toNat % 64*4096+(p.getD 2 0).toNat % 64*64+(p.getD 3 0).toNat % 64) (by omega);refine ⟨by omega,by omega,by omega,fun j hj=>?_,fun _=>⟨hs.1,hs.2.2.2⟩⟩;match j,hj with
  | 0,_=>exact h0
  | 1,_=>omega
  | 2,_=>omega
  | 3,_=>omega
  | n+4,hj=>omega
 ·rw [e];dsimp only;refine ⟨by omega,by omega,by omega,fun j hj=>?_,fun h=>absurd rfl h⟩;match j,hj with
  | 0,_=>exact h0
  | n+1,hj=>omega
theorem qeL {cs:List UInt8} (ha:ascii cs=true) {i:Nat} (hi:i < cs.length):(cs.getD i 0).toNat < 128:=by
 unfold ascii at ha;rw [List.all_eq_true] at ha;have:=ha (cs.getD i 0) (by simp [List.getD,hi]);simp only [ym] at this;exact this
theorem qnd {cs:List UInt8} (ha:ascii cs=true) {x:UInt8} (hx:128≤x.toNat):cs.contains x=false:=by
 cases h:cs.contains x with
 | false=>rfl
 | true =>
  unfold ascii at ha;rw [List.all_eq_true] at ha;have:=ha x (by simpa using h);simp only [ym] at this;have:x.toNat < 128:=this;omega
theorem qkz {cs:List UInt8} (ha:ascii cs=true) {i:Nat} (hi:i < cs.length):decL cs i=(((cs.getD i 0).toNat:Int),1):=by
 unfold decL;rw [Lib.decode_N];rw [Lib.decodeN_ascii _ _ _ _ _ (by simpa using qeL ha hi)]
theorem qlv {cs:List UInt8} (ha:ascii cs=true) (c:Nat) (hc:128≤c):Lib.index cs (Utf8.encode (c:Int)).data.toList = -1:=by
 obtain ⟨e,r,he,h1⟩:=qnc c hc;rw [he];refine Lib.index_none fun j _=>?_;unfold Lib.occAt;cases hd:cs.drop j with
 | nil=>rfl
 | cons x t =>
  have hj:j < cs.length:=by
   rcases Nat.lt_or_ge j cs.length with h | h
   ·exact h
   ·rw [yA h] at hd; cases hd
  have hx:x=cs.getD j 0:=by
   rw [qbn (d:=0) hj] at hd;exact (List.cons.inj hd).1.symm
  have:=qeL ha hj;rw [← hx] at this;have hne:(e==x)=false:=by
   rw [yB];rintro rfl;omega
  simp [List.isPrefixOf,hne]
theorem qow {cs:List UInt8} (ha:ascii cs=true) (hn:cs≠[]) (c:Nat) (hc:128≤c):(cs==(Utf8.encode (c:Int)).data.toList)=false:=by
 obtain ⟨e,r,he,h1⟩:=qnc c hc;rw [he,yB];rintro rfl;have:=qeL ha (i:=0) (by simp);simp at this;omega
theorem qrk (cs:List UInt8):∀ (w:Nat) (p:List UInt8) (i:Int),w≤p.length→(∀ j,j < w→cs.contains (p.getD j 0)=false)→anyAt cs p i=anyAt cs (p.drop w) (i+w)
 | 0,p,i,_,_=>by simp
 | w+1,[],i,h,_=>by simp at h
 | w+1,x :: p,i,h,hc=>by
  have h0:=hc 0 (by omega);simp only [List.getD_cons_zero] at h0;have ih:=qrk cs w p (i+1) (by simpa using h) (fun j hj=>by have:=hc (j+1) (by omega); simpa using this);show (bif cs.contains x then i else anyAt cs p (i+1))=anyAt cs (p.drop w) (i+((w+1:Nat):Int));rw [h0,yd,ih];congr 1;omega
variable (m0:Int)
theorem qxa (ret:Int→Option AV) (k0:Option AV) (cs:List UInt8) (ha:ascii cs=true):∀ (d i n:Nat),i+d=cs.length→d < n→qiF m0 ret k0 n cs i=k0
 | d,i,0,hi,hn=>by omega
 | 0,i,n+1,hi,hn=>by
  show qeu m0 ret k0 (qiF m0 ret k0 n) n cs i=_;unfold qeu;rw [yx (by omega)];rfl
 | d+1,i,n+1,hi,hn=>by
  show qeu m0 ret k0 (qiF m0 ret k0 n) n cs i=_;unfold qeu;have hlt:i < cs.length:=by omega
  have hx:=qeL ha hlt;rw [yo hlt,qkz ha hlt,yc,yc,yc,show ((((cs.getD i 0).toNat:Nat):Int)==65533)=false by rw [yB]; omega,yd];exact qxa ret k0 cs ha d (i+1) n (by omega) (by omega)
theorem qtT (ret:Int→Option AV) (k6:List UInt8→List UInt8→Int→Int→Option AV) (s cs:List UInt8) (w at1 r:Int) (hr:128≤r) (ha:ascii cs=true):∀ (d i n:Nat),i+d=cs.length→d < n→qcn m0 ret k6 n s cs w at1 r cs i=k6 s cs w at1
 | d,i,0,hi,hn=>by omega
 | 0,i,n+1,hi,hn=>by
  show qcE m0 ret k6 (qcn m0 ret k6 n) n s cs w at1 r cs i=_;unfold qcE;rw [yx (by omega)];rfl
 | d+1,i,n+1,hi,hn=>by
  show qcE m0 ret k6 (qcn m0 ret k6 n) n s cs w at1 r cs i=_;unfold qcE;have hlt:i < cs.length:=by omega
  have hx:=qeL ha hlt;rw [yo hlt,qkz ha hlt,yc,yc,yc,show (r==(((cs.getD i 0).toNat:Nat):Int))=false by rw [yB]; omega,yd];exact qtT ret k6 s cs w at1 r hr ha d (i+1) n (by omega) (by omega)
theorem qvS (cs:List UInt8) (x:UInt8):∀ (a:List Bool),a.length=256→(setOf cs a).getD x.toNat false=(cs.contains x||a.getD x.toNat false):=by
 induction cs with
 | nil=>intro a _; simp [setOf]
 | cons c cs ih =>
  intro a hl;show (setOf cs (List.set a c.toNat true)).getD x.toNat false=_;rw [ih _ (by simpa using hl)];have hx:=qeY x;have hc:=qeY c
  by_cases e:c=x
  ·subst e;have:(List.set a c.toNat true).getD c.toNat false=true:=by simp [List.getD,hl,hc]
   rw [this];simp
  ·have hne:c.toNat≠x.toNat:=fun h=>e (UInt8.toNat_inj.1 h);have:(List.set a c.toNat true).getD x.toNat false=a.getD x.toNat false:=by simp [List.getD,List.getElem?_set_ne hne]
   rw [this];have hb:¬ x=c:=fun h=>e h.symm;simp [hb]
theorem qtU (ret:Int→Option AV) (k2:Option AV) (hk:k2=ret (-1)) (s cs:List UInt8) (hl:s.length≤1048576):∀ (d i n:Nat),i+d=s.length→d < n →
 qdR m0 ret k2 n (setOf cs (List.replicate 256 false)) s (s.length:Nat) (i:Nat)=ret (anyAt cs (s.drop i) i)
 | d,i,0,hi,hn=>by omega
 | 0,i,n+1,hi,hn=>by
  show qcD m0 ret k2 (qdR m0 ret k2 n) n _ s _ _=_;unfold qcD;rw [yx (by omega),yd,yA (by omega),hk];rfl
 | d+1,i,n+1,hi,hn=>by
  show qcD m0 ret k2 (qdR m0 ret k2 n) n _ s _ _=_;unfold qcD z108;have hlt:i < s.length:=by omega
  rw [qoH,yo hlt,yc,qby,y4,yc,qbK,qvS _ _ _ yQ,qea (by omega),qtU ret k2 hk s cs hl d (i+1) n (by omega) (by omega),qbn (d:=0) hlt];have:(List.replicate 256 false).getD (s.getD i 0).toNat false=false:=by rw [List.getD_eq_getElem?_getD,List.getElem?_replicate]; split <;> rfl
  rw [this,Bool.or_false];show _=ret (bif cs.contains (s.getD i 0) then (i:Int) else anyAt cs (s.drop (i+1)) (i+1));cases cs.contains (s.getD i 0) <;> rfl
set_option maxRecDepth 100000 in
theorem qrl (ret:Int→Option AV) (k4:Option AV) (hk:k4=ret (-1)) (s cs:List UInt8) (hl:s.length≤1048576) (ha:ascii cs=true) (hc2:2≤cs.length) (hcl:cs.length≤1048576) (d i n:Nat) (hi:i+d=s.length) (hn:d+cs.length+1 < n) :
 qco m0 ret k4 n s cs (i:Nat)=ret (anyAt cs (s.drop i) i):=by
 obtain ⟨n,rfl⟩:∃ n',n=n'+1:=⟨n - 1,by omega⟩;show qdT m0 ret k4 (qco m0 ret k4 n) n s cs (i:Nat)=_;unfold qdT qt;match d,hi,hn with
 | 0,hi,hn =>
  rw [yx (by omega),yd,yA (by omega),hk];rfl
 | d+1,hi,hn =>
  have hlt:i < s.length:=by omega
  have hb:=qeY (s.getD i 0);rw [qoH,yo hlt,yc,qby,y4,yc,yc,qbK,qbK,List.take_length,IntWalk.i32_in _ (by omega)]
  by_cases h128:(s.getD i 0).toNat < 128
  ·rw [yo (show (((s.getD i 0).toNat:Nat):Int) < 128 by omega),yc,qea (by omega),qrl ret k4 hk s cs hl ha hc2 hcl d (i+1) n (by omega) (by omega),qbn (d:=0) hlt];show (bif decide ((0:Int)≤Lib.indexByte cs (s.getD i 0)) then ret i else ret (anyAt cs (s.drop (i+1)) ((i+1:Nat):Int)))=ret (bif cs.contains (s.getD i 0) then (i:Int) else anyAt cs (s.drop (i+1)) (i+1));rw [← Lib.contains_iff_indexByte];cases cs.contains (s.getD i 0) <;> rfl
  ·rw [yx (show ¬ (((s.getD i 0).toNat:Nat):Int) < 128 by omega),yd,yo (show (i:Int)≤((s.length:Nat):Int) by omega),yo (Int.le_refl _)];have hp:0 < (s.drop i).length:=by rw [yK]; omega
   have h0:128≤((s.drop i).getD 0 0).toNat:=by
    rw [qbn (d:=0) hlt];simp only [List.getD_cons_zero];omega
   obtain ⟨f1,f2,f3,f4,f5⟩:=qty (s.drop i) hp h0;rw [show qjA (s.drop i)=true by unfold qjA; exact yo hp];have hd1:(z109 (s.drop i)).1=((Lib.decodeL (s.drop i)).1:Int):=rfl;have hd2:(z109 (s.drop i)).2=((Lib.decodeL (s.drop i)).2:Int):=rfl;rw [hd1,hd2];obtain ⟨r,hr⟩:∃ r,(Lib.decodeL (s.drop i)).1=r:=⟨_,rfl⟩;obtain ⟨w,hw⟩:∃ w,(Lib.decodeL (s.drop i)).2=w:=⟨_,rfl⟩;rw [hr] at f1 f5;rw [hw] at f2 f3 f4 f5;rw [hr,hw];rw [yK] at f3;have hnext:qco m0 ret k4 n s cs (IntKind.wrap .i64 ((i:Int)+(w:Int)))=ret (anyAt cs (s.drop i) i):=by
    rw [IntWalk.i64_in _ (by omega),show (i:Int)+(w:Int)=((i+w:Nat):Int) by omega,qrl ret k4 hk s cs hl ha hc2 hcl (d+1 - w) (i+w) n (by omega) (by omega),
     qrk cs w (s.drop i) i (by rw [yK]; exact f3) (fun j hj=>qnd ha (f4 j hj)),List.drop_drop]
    congr 2
   have h48:qcn m0 ret (qcF m0 ret k4 (qco m0 ret k4 n) n) n s cs (w:Int) (i:Int) (r:Int) cs 0=ret (anyAt cs (s.drop i) i):=by
    rw [qtT m0 ret _ s cs w i r (by omega) ha cs.length 0 n (by omega) (by omega)];exact hnext
   simp only [Bool.and_self,yc]
   by_cases hre:r=65533
   ·rw [show ((r:Int) != 65533)=false by simp only [bne_eq_false_iff_eq]; omega,yd,h48]
   ·obtain ⟨e1,e2⟩:=f5 hre;rw [show ((r:Int) != 65533)=true by simp only [bne_iff_ne,ne_eq]; omega,yc,qow ha (by rintro rfl; simp at hc2) r f1,yd,hnext];cases ((cs.length:Int)==(w:Int)) with
    | true=>rfl
    | false =>
     rw [yd]
     by_cases hm:(w:Int)≤m0
     ·have hok:qjz m0 cs (Utf8.encode (r:Int)).data.toList=true:=by
       unfold qjz;rw [← Lib.size_eq];simp only [yf,ym];omega
      rw [yo hm,hok];unfold z110;rw [qlv ha r f1];rfl
     ·rw [yx hm,yd,h48]
 termination_by d
 decreasing_by all_goals omega
set_option maxRecDepth 100000 in
theorem qvT:∀ (s0:List UInt8) (chars1:List UInt8),(qle s0 chars1=true)→∃ n,qtf m0 n s0 chars1=qae (z83 s0 chars1):=fun s cs h=>⟨s.length+cs.length+2,by
 unfold qle at h;simp only [yf,ym] at h;obtain ⟨⟨hc2,ha,hcl⟩,hl⟩:=h;have hcl':=qm hcl;have hl':=qm hl;unfold qtf qdU z83;rw [show (cs==[])=false by cases cs with | nil=>simp at hc2 | cons c r=>rfl,yd];have hcne:(((cs.length:Nat):Int)==1)=false:=by rw [yB]; omega
 by_cases h1:s.length=1
 ·rw [show (((s.length:Nat):Int)==1)=true by rw [beq_iff_eq]; omega,yc];obtain ⟨x,rfl⟩:=List.length_eq_one_iff.1 h1;have hx:=qeY x;show (bif decide ((128:Int)≤IntKind.wrap .i32 ((x.toNat:Nat):Int)) then _ else _)=_;rw [IntWalk.i32_in _ (by omega)]
  by_cases h128:x.toNat < 128
  ·rw [yx (show ¬ (128:Int)≤((x.toNat:Nat):Int) by omega),yd];show (bif decide ((0:Int)≤Lib.indexByte cs x) then qae 0 else qae (-1))=qae (bif cs.contains x then 0 else -1);rw [← Lib.contains_iff_indexByte];cases cs.contains x <;> rfl
  ·rw [yo (show (128:Int)≤((x.toNat:Nat):Int) by omega),yc,qxa m0 _ _ cs ha cs.length 0 _ (by omega) (by omega)];show qae (-1)=qae (bif cs.contains x then 0 else -1);rw [qnd ha (by omega)];rfl
 ·rw [show (((s.length:Nat):Int)==1)=false by rw [yB]; omega,yd,hcne,yd];have h32:=qrl m0 qae (qcG m0 (s.length+cs.length+2)) rfl s cs hl' ha hc2 hcl' s.length 0 (s.length+cs.length+2) (by omega) (by omega);have h24:=qtU m0 qae (qdS m0 (s.length+cs.length+2)) rfl s cs hl' s.length 0 (s.length+cs.length+2) (by omega) (by omega);rw [show qjB cs=true by unfold qjB; rw [ha,hcl]; rfl];cases z107 ((s.length:Nat):Int) with
  | true=>exact h24
  | false =>
   rw [yd];exact h32⟩
theorem qvU:∀ (b0:List UInt8) (chars1:List UInt8),(qpO b0 chars1=true)→∃ n,qvF n b0 chars1=qtM (z53 b0 chars1):=fun b cs h=>⟨0,by
 unfold qvF z53;rw [show qle b cs=true from h];rfl⟩
theorem qvV:∀ (s0:List UInt8) (sep1:List UInt8),(qnH s0 sep1=true)→∃ n,qvE n s0 sep1=qrf (z51 s0 sep1).1 (z51 s0 sep1).2.1 (z51 s0 sep1).2.2:=fun s sep h=>⟨0,by
 have h0:=h;unfold qnH at h;rw [yf] at h;have hl:=qm h.1;have hl2:=qm (yf _ _ ▸ h.2).1;unfold qvE z51 z81;rw [show qjC s sep=true from h0]
 by_cases h1:0≤Lib.index s sep
 ·have hr:=Lib.index_room s sep h1;have e:IntKind.wrap .i64 (Lib.index s sep+((sep.length:Nat):Int))=Lib.index s sep+((sep.length:Nat):Int):=IntWalk.i64_in _ (by omega);rw [e,yo h1,yo (show (0:Int)≤((0:Nat):Int) by omega),yo (show ((0:Nat):Int)≤Lib.index s sep by omega),yo (show Lib.index s sep≤((s.length:Nat):Int) by omega),
   yo (show (0:Int)≤Lib.index s sep+((sep.length:Nat):Int) by omega),yo (show Lib.index s sep+((sep.length:Nat):Int)≤((s.length:Nat):Int) by omega),yo (Int.le_refl ((s.length:Nat):Int)),qbK,qbK,List.take_length,
   show Int.toNat (Lib.index s sep+((sep.length:Nat):Int))=(Lib.index s sep).toNat+sep.length by omega]
  rfl
 ·rw [yx h1]; rfl⟩
theorem dT {p:Prop} [Decidable p] (h:p):decide p=true:=yo h
theorem dF {p:Prop} [Decidable p] (h:¬ p):decide p=false:=yx h
theorem wr {x:Int} (h : -9223372036854775808≤x∧x≤9223372036854775807):IntKind.wrap .i64 x=x:=IntWalk.i64_in x h
theorem tn (i:Nat):Int.toNat (i:Int)=i:=Int.toNat_natCast i
theorem bneI {a b:Int} (h:a≠b):(a==b)=false:=by simp [h]
theorem qvW:∀ (a0:List UInt8) (b1:List UInt8),∃ n,qwW n a0 b1=qtG (z96 a0 b1):=fun _ _=>⟨0,rfl⟩
theorem qvX:∀ (b0:List UInt8) (subslice1:List UInt8),(qpP b0 subslice1=true)→∃ n,qvG n b0 subslice1=qtN (z88 b0 subslice1):=fun s t h=>⟨0,by
 unfold qvG;rw [show qjC s t=true from h];rfl⟩
theorem qkA (k0:List UInt8→Option AV) (as:List Bool):∀ (d:Nat) (s:List UInt8) (n:Nat),s.length=d→d < n→s.length≤1048576 →
 qkt k0 n s as=k0 (z93 s as)
 | d,s,0,hd,hn,hl=>by omega
 | d,[],n+1,hd,hn,hl=>rfl
 | d,x :: s,n+1,hd,hn,hl=>by
  show qiz k0 (qkt k0 n) n (x :: s) as=_;unfold qiz z93;have hlen:(x :: s).length=s.length+1:=rfl;have ih:=qkA k0 as s.length s n rfl (by omega) (by omega);have hg:(x :: s).getD (Int.toNat 0) 0=x:=rfl;have ht:List.drop (Int.toNat 1) (List.take (Int.toNat ((x :: s).length:Int)) (x :: s))=s:=by
   rw [tn,List.take_length]; rfl
  simp (disch:=omega) only [dT,yc,yi,hg,ht,List.dropWhile_cons];cases z108 as x with
  | true=>simpa [z93] using ih
  | false=>rfl
theorem qvY:∀ (s0:List UInt8) (as1:List Bool),(qsa s0 as1=true)→∃ n,qtc n s0 as1=qqZ (z93 s0 as1):=fun s as h=>⟨s.length+1,by
 unfold qtc;rw [qkA _ as s.length s _ rfl (by omega) (qm h)];unfold qgq;cases hc:z93 s as with
 | nil=>rfl
 | cons x r=>rfl⟩
theorem qcN {α:Type} (pre:List α) (c d:α):List.getD (pre++[c]) pre.length d=c:=by simp
theorem qlw {α:Type} (pre:List α) (c y:α):List.set (pre++[c]) pre.length y=pre++[y]:=by
 rw [List.set_append_right _ _ (yv _),Nat.sub_self];rfl
theorem qgP (cur:List UInt8):qaA cur []=[cur]:=rfl
theorem qeM (cur:List UInt8) (c:UInt8) (r:List UInt8):qaA cur (c :: r)=if c=13∧r.head? = some 10 then cur :: qaA [] (r.drop 1) else qaA (cur++[c]) r:=by
 have h:lineB true [] r=qaA [] (r.drop 1):=by cases r <;> rfl
 unfold qaA;rw [show lineB false cur (c :: r)=if c=13∧r.head? = some 10 then cur :: lineB true [] r else lineB false (cur++[c]) r from rfl,h];rfl
theorem qrm (k0:List (List UInt8)→Option AV) (s:List UInt8) (hl:s.length≤1048576):∀ (d i n:Nat) (pre:List (List UInt8)) (cur:List UInt8),i+d=s.length→d < n→pre.length+d≤1048576→cur.length+d≤1048576 →
 qiQ k0 n s (pre++[cur]) (i:Nat)=k0 (pre++qaA cur (s.drop i)):=by
 intro d;induction d using Nat.strongRecOn with
 | ind d ih =>
  intro i n pre cur hi hn hp hc;cases n with
  | zero=>omega
  | succ n =>
   show qiP k0 (qiQ k0 n) n _ _ _=_;unfold qiP qcL qbH qcK qcJ qaH qaq
   by_cases hlt:i < s.length
   ·have hlen:(pre++[cur]).length=pre.length+1:=by simp
    have hw:IntKind.wrap .i64 (((pre++[cur]).length:Int) - 1)=((pre.length:Nat):Int):=by rw [wr (by omega)]; omega
    rw [qbn (d:=(0:UInt8)) hlt,qeM];have one:qiQ k0 n s (pre++[cur++[s.getD i 0]]) ((i+1:Nat):Int)=k0 (pre++qaA (cur++[s.getD i 0]) (s.drop (i+1))):=ih (d - 1) (by omega) (i+1) n pre _ (by omega) (by omega) (by omega) (by simp; omega);have hr:decide ((cur.length:Nat)+([s.getD i 0]:List UInt8).length≤room)=true:=dT (by unfold room; simp; omega);have h13:(s.getD i 0==13)=decide (s.getD i 0=13):=rfl;rw [hw];simp (disch:=omega) only [dT,yc,yi,tn,qea,qcN,qlw,hr,h13,beq_self_eq_true]
    by_cases h1:s.getD i 0=13
    ·rw [yo h1,yc]
     by_cases h2:i+1 < s.length
     ·simp (disch:=omega) only [dT,yc,yi,tn,qea]
      by_cases h3:s.getD (i+1) 0=10
      ·rw [show (s.getD (i+1) 0==10)=true from beq_iff_eq.2 h3,yc,if_pos ⟨h1,qiR.2 ⟨h2,h3⟩⟩,dT (show (pre++[cur]).length+([[]]:List (List UInt8)).length≤room by unfold room; simp; omega),yc,List.drop_drop];have:=ih (d - 2) (by omega) (i+2) n (pre++[cur]) [] (by omega) (by omega) (by simp; omega) (by simp; omega);refine Eq.trans this ?_;rw [yl,List.singleton_append]
      ·rw [show (s.getD (i+1) 0==10)=false from beq_eq_false_iff_ne.2 h3,yd,if_neg (fun h=>h3 (qiR.1 h.2).2)];exact one
     ·rw [dF (by omega),yd,if_neg (fun h=>h2 (qiR.1 h.2).1)];exact one
    ·rw [yx h1,yd,if_neg (fun h=>h1 h.1)];exact one
   ·rw [dF (by omega),yd,yA (by omega)];rfl
theorem qiS:∀ (s cur:List UInt8),qaA cur s≠[]
 | [],cur=>by simp [qgP]
 | c :: r,cur=>by
  rw [qeM];split
  ·simp
  ·exact qiS r _
theorem qeZ:∀ (pre:List (List UInt8)) (x:List UInt8),qaB (pre++[x])=if x=[] then (pre,true) else (pre++[x],false)
 | [],x=>by
  simp only [List.nil_append,qaB]
 | a :: pre,x=>by
  have ih:=qeZ pre x;have:qaB (a :: pre++[x])=(a :: (qaB (pre++[x])).1,(qaB (pre++[x])).2):=by
   cases pre with
   | nil=>rfl
   | cons b p=>rfl
  rw [this,ih];split <;> rfl
theorem qvZ:∀ (s0:List UInt8),(qsb s0=true)→∃ n,qtm n s0=qri (z71 s0).1 (z71 s0).2:=fun s h=>⟨s.length+1,by
 have hl:=qm h;unfold qtm;refine (qrm (qeB (s.length+1)) s hl s.length 0 (s.length+1) [] [] (by omega) (by omega) (by simp; omega) (by simp; omega)).trans ?_;rw [List.nil_append,yw];unfold z71;have hlen:(qaA [] s).length≤s.length+1:=by
  have:∀ (n:Nat) (s cur:List UInt8),s.length≤n→(qaA cur s).length≤s.length+1:=by
   intro n;induction n with
   | zero=>intro s cur h0; cases s with
    | nil=>simp [qgP]
    | cons a b=>simp at h0
   | succ n ih =>
    intro s cur h0;cases s with
    | nil=>simp [qgP]
    | cons c r =>
     rw [qeM];simp only [yg] at h0 ⊢;split
     ·have:=ih (r.drop 1) [] (by simp; omega);simp only [yg,yK] at this ⊢;omega
     ·have:=ih r (cur++[c]) (by omega);omega
  exact this s.length s [] (yv _)
 rcases List.eq_nil_or_concat (qaA [] s) with h0 | ⟨pre,x,h0⟩
 ·exact absurd h0 (qiS s [])
 ·rw [List.concat_eq_append] at h0;rw [h0] at hlen ⊢;rw [qeZ];have hl2:(pre++[x]).length=pre.length+1:=by simp
  have hw:IntKind.wrap .i64 (((pre++[x]).length:Int) - 1)=((pre.length:Nat):Int):=by rw [wr (by omega)]; omega
  unfold qeB qaI;rw [hw];have ht:List.drop (Int.toNat ((0:Nat):Int)) (List.take pre.length (pre++[x]))=pre:=by simp
  simp (disch:=omega) only [dT,yc,yi,tn,qcN,ht];cases x with
  | nil=>rw [if_pos rfl]; simp
  | cons a b=>rw [if_neg (by simp),bneI (by simp only [yg]; omega)]; rfl⟩
theorem qwa:∀ (s0:List UInt8) (suffix1:List UInt8),(qlp s0 suffix1=true)→∃ n,qvB n s0 suffix1=qrd (z78 s0 suffix1):=fun s t h=>⟨0,by
 have hl:=qm h;unfold qvB z78
 by_cases hc:t.length≤s.length
 ·have e:IntKind.wrap .i64 ((s.length:Int) - (t.length:Int))=((s.length - t.length:Nat):Int):=by rw [IntWalk.i64_in _ (by omega)]; omega
  rw [e,tn,tn,List.take_length,dT hc];simp (disch:=omega) only [dT,yc,yi];rfl
 ·rw [dF hc,dF (by omega)]; rfl⟩
theorem qwb:∀ (s0:List UInt8) (prefix1:List UInt8),∃ n,qvy n s0 prefix1=qrb (z95 s0 prefix1):=fun s t=>⟨0,by
 unfold qvy z95
 by_cases hc:t.length≤s.length
 ·rw [tn,dT hc];simp (disch:=omega) only [dT,yc,yi];rfl
 ·rw [dF hc,dF (by omega)]; rfl⟩
set_option linter.unusedSimpArgs false
set_option linter.unusedSimpArgs false
theorem qwc:∀ (b0:List UInt8) (c1:UInt8),∃ n,qwX n b0 c1=qtI (z99 b0 c1):=fun _ _=>⟨0,rfl⟩
end Go.Av
