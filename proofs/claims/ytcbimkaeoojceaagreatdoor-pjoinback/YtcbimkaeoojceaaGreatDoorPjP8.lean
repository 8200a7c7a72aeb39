import Derived.Test.YtcbimkaeoojceaaGreatDoorPjP7
namespace Go.Av
set_option linter.unusedSimpArgs false
set_option linter.unusedVariables false
def tk (c:UInt8):Bool:=z77 c 64
def calm (c:UInt8):Bool:=(!(blkB c)&&(c != 34))&&((c != 40)&&(c != 59))
theorem qJc:∀ i:Fin 256,(!(z77 (UInt8.ofNat i.val) 256)||(tk (UInt8.ofNat i.val)&&(UInt8.ofNat i.val != 42)))=true:=by decide +kernel
theorem qGt (c:UInt8) (h:z77 c 256=true):tk c=true∧(c==42)=false:=by
 have:=qlU (P:=fun c=>(!(z77 c 256)||(tk c&&(c != 42)))=true) qJc c;rw [h] at this;simp only [Bool.not_true,Bool.false_or,yf,bne,Bool.not_eq_true'] at this;exact this
theorem calm0:∀ i:Fin 256,(!(tk (UInt8.ofNat i.val))||calm (UInt8.ofNat i.val))=true:=by decide +kernel
theorem qsF (c:UInt8) (h:tk c=true):calm c=true:=by
 have:=qlU (P:=fun c=>(!(tk c)||calm c)=true) calm0 c;rw [h] at this;exact this
theorem qsG {c:UInt8} (h:calm c=true):blkB c=false∧(c==34)=false∧(c==40)=false∧(c==59)=false:=by
 unfold calm at h;simp only [yf,bne,Bool.not_eq_true'] at h;exact ⟨h.1.1,h.1.2,h.2.1,h.2.2⟩
theorem qOv:∀ i:Fin 256,((oneC (UInt8.ofNat i.val)).all tk)=true:=by decide +kernel
theorem qJd (c:UInt8):(oneC c).all tk=true:=qlU (P:=fun c=>(oneC c).all tk=true) qOv c
theorem qOw:∀ i:Fin 100,((digI ((i.val:Nat):Int)).all tk)=true:=by decide +kernel
theorem qJe (n:Int):(qe n).all tk=true:=by
 unfold qe z90;cases (n==(1:Int)) <;> cases (n==(2:Int)) <;> cases (n==(3:Int)) <;> cases (n==(4:Int)) <;> cases (n==(5:Int)) <;> decide +kernel
theorem qsH {α:Type} {f:α→LU} (h:∀ x,(f x).all tk=true):∀ l:List α,(l.flatMap f).all tk=true
 | []=>rfl
 | x :: l=>by rw [List.flatMap_cons,List.all_append,h x,qsH h l]; rfl
def numOk (n:Int):Prop:=n = -1∨(0≤n∧n < 100)
theorem qGu {name:LU} (hn:name.all tk=true) {n:Int} (h:numOk n) (e:Bool):(nameL name n e).all tk=true:=by
 unfold nameL;rw [List.all_append,List.all_append,hn];rcases h with rfl | h
 ·cases e <;> rfl
 ·rw [dT h.1];obtain ⟨k,rfl⟩:∃ k:Nat,n=(k:Int):=⟨n.toNat,by omega⟩;simp only [yc,List.all_cons,show (digI (k:Int)).all tk=true from qOw ⟨k,by omega⟩];cases e <;> rfl
def secL (name:LU) (n:Int) (e:Bool) (v:LU):LU:=nameL name n e++61 :: v
def tokV (v:LU):Prop:=v≠[]∧v.all tk=true
def goodV (v:LU):Prop:=tokV v∨∃ b,v=quoL b
theorem qJf {name:LU} (h:mayN name=true):name≠[]∧name.length≤30∧name.all tk=true∧(name.all fun c=>z77 c 256)=true:=by
 unfold mayN at h;simp only [yf,ym] at h;refine ⟨fun e=>by rw [e] at h; exact absurd h.1.1 (by decide),h.1.2,List.all_eq_true.2 fun c hc=>(qGt c (List.all_eq_true.1 h.2 c hc)).1,h.2⟩
theorem qsI:∀ name:LU,(name.all fun c=>z77 c 256)=true→∀ r,starN (name++r)=(starN r).map (· + name.length)
 | [],_,r=>by cases e:starN r <;> simp [e]
 | c :: l,h,r=>by
  simp only [List.all_cons,yf] at h;show (bif c==42 then some 0 else (starN (l++r)).map (· + 1))=_;rw [(qGt c h.1).2,qsI l h.2 r];cases starN r with
  | none=>rfl
  | some j=>simp only [yd,yU,yg]; congr 1
theorem qdz {s:LU} {k:Nat} (h:k≤s.length):qF s (k:Int)=k:=by unfold qF; rw [tn,Nat.min_eq_left h]
theorem qza (a:LU) (c:UInt8) (b:LU):(a++c :: b).getD a.length 0=c:=by simp
theorem qzb:∀ (b r:LU),unqG (b.flatMap quoC++34 :: r)=some (b,(b.flatMap quoC).length+1)
 | [],r=>qlm r
 | c :: b,r=>by
  rw [List.flatMap_cons,yl,yn];have ih:=qzb b r;rw [show quoC c=bif (c==34)||(c==92) then [92,c] else [c] from rfl];cases h1:c==34 with
  | true =>
   rw [Bool.true_or,yc];show unqG (92 :: c :: (b.flatMap quoC++34 :: r))=_;rw [qsv,ih];simp only [yU,yg,List.length_nil]; congr 2; omega
  | false =>
   cases h2:c==92 with
   | true =>
    rw [Bool.or_true,yc];show unqG (92 :: c :: (b.flatMap quoC++34 :: r))=_;rw [qsv,ih];simp only [yU,yg,List.length_nil]; congr 2; omega
   | false =>
    rw [Bool.or_false,yd];show unqG (c :: (b.flatMap quoC++34 :: r))=_;rw [qln _ _ h1 h2,ih];simp only [yU,yg,List.length_nil]; congr 2; omega
theorem qvc (b:LU):qJ (quoL b)=(b,(((quoL b).length:Nat):Int),0):=by
 unfold quoL;rw [show qJ (34 :: (b.flatMap quoC++[34]))=unqR (unqG (b.flatMap quoC++[34])) from rfl,qzb b []];simp [unqR]
theorem qfN (p:UInt8→Bool):∀ (w r:LU),w.all p=true→(w++r).takeWhile p=w++r.takeWhile p
 | [],r,_=>rfl
 | c :: w,r,h=>by
  simp only [List.all_cons,yf] at h;rw [List.cons_append,List.takeWhile_cons,h.1,qfN p w r h.2];rfl
theorem qEw {v:LU} (h:goodV v):∃ c v',v=c :: v'∧blkB c=false∧(c==40)=false:=by
 rcases h with ⟨h1,h2⟩ | ⟨b,rfl⟩
 ·cases v with
  | nil=>exact absurd rfl h1
  | cons c v =>
   simp only [List.all_cons,yf] at h2;obtain ⟨k1,k2,k3,k4⟩:=qsG (qsF c h2.1);exact ⟨c,v,rfl,k1,k3⟩
 ·exact ⟨34,_,rfl,by decide +kernel,rfl⟩
theorem qEx:blkB 13=true∧blkB 10=true∧blkB 32=true∧blkB 61=false∧z77 61 64=false:=by decide +kernel
theorem qJg (l:List LU) (h:∀ x∈l,x.length≤1000):(textL l).length≤1004*l.length:=by
 unfold textL;induction l with
 | nil=>simp
 | cons x r ih =>
  have h1:=h x List.mem_cons_self;have h2:=ih fun y hy=>h y (List.mem_cons_of_mem _ hy);rw [List.flatMap_cons,yn,yg,yn];simp only [yg,List.length_nil];omega
theorem qEy (x:LU) (l:List LU):textL (x :: l)=59 :: (([13,10,32]++x)++textL l):=by
 unfold textL;rw [List.flatMap_cons];simp
theorem qsJ (name:LU) (n:Int) (e:Bool) (v u:LU):secL name n e v++u=secL name n e (v++u):=by unfold secL; rw [yl]; rfl
theorem qzc {v u:LU} (h:tokV v) (hu:u.all tk=true):tokV (v++u):=⟨fun e=>h.1 (List.append_eq_nil_iff.1 e).1,by rw [List.all_append,h.2,hu]; rfl⟩
theorem qpr (name:LU) {n:Int} (cs:LU) (h:¬ 0 < n):headL name n cs=secL name n true (cs++[39,39]):=by unfold headL; rw [dF h]; rfl
theorem qEz (name:LU) {n:Int} (cs:LU) (h:0 < n):headL name n cs=secL name n true []:=by unfold headL; rw [dT h]; rfl
theorem qGv {cs:LU} (h:cs.all tk=true):tokV (cs++[39,39]):=⟨fun e=>absurd (List.append_eq_nil_iff.1 e).2 (by simp),by rw [List.all_append,h]; decide +kernel⟩
theorem lowA0:∀ i:Fin 256,(!(z77 (UInt8.ofNat i.val) 256)||z77 (z44 (UInt8.ofNat i.val)) 256)=true:=by decide +kernel
theorem qJh {s:LU} (h:(s.all fun c=>z77 c 256)=true):((z28 s).all fun c=>z77 c 256)=true:=by
 unfold z28;rw [List.all_map,List.all_eq_true];intro c hc;have h1:=List.all_eq_true.1 h c hc;have:=qlU (P:=fun c=>(!(z77 c 256)||z77 (z44 c) 256)=true) lowA0 c;rw [h1] at this;exact this
theorem digs0:∀ i:Fin 100,(z28 (digI ((i.val:Nat):Int))==digI ((i.val:Nat):Int)&&(z81 (digI ((i.val:Nat):Int))==((i.val:Nat):Int) && !(digI ((i.val:Nat):Int)).isEmpty))=true:=by decide +kernel
theorem digs {k:Nat} (h:k < 100):z28 (digI (k:Int))=digI (k:Int)∧z81 (digI (k:Int))=(k:Int)∧(digI (k:Int)).isEmpty=false:=by
 have:=digs0 ⟨k,h⟩;simp only [yf,beq_iff_eq,Bool.not_eq_true'] at this;exact this
theorem qps (a b:LU):z28 (a++b)=z28 a++z28 b:=List.map_append
theorem qEA (d:LU):z80 (d++[42]) [42]=(d,true):=by
 unfold z80 z102;rw [yn,dT (show ([42]:LU).length≤d.length+([42]:LU).length by omega),Nat.add_sub_cancel];rw [List.drop_left' rfl,List.take_left' rfl];rfl
theorem qzd {name:LU} (h:mayN name=true) {n:Int} (hn:numOk n) {e:Bool} (he:e=false→n = -1):z58 (nameL name n e)=(z28 name,(n,e)):=by
 obtain ⟨h1,h2,h3,h4⟩:=qJf h;have hF:=qJh h4;have hfl:(z28 name).length=name.length:=by unfold z28; rw [yP]
 have hp:0 < name.length:=List.length_pos_iff.2 h1;have hs:=fun r=>qsI (z28 name) hF r;rw [hfl] at hs;rcases hn with rfl | hn
 ·cases e
  ·have hw:z28 (nameL name (-1) false)=z28 name++[]:=by show z28 ((name++[])++[])=_; rw [yG,yG,yG]
   unfold z58;rw [hw,hs [],yG];rfl
  ·have hw:z28 (nameL name (-1) true)=z28 name++[42]:=by show z28 ((name++[])++[42])=_; rw [yG,qps]; rfl
   unfold z58;rw [hw,hs [42],show (starN [42]).map (· + name.length)=some (0+name.length) from rfl,yE];have hd:(z28 name++[42]).drop (name.length+1)=[]:=yA (by rw [yn,hfl]; exact yv _);have ht:(z28 name++[42]).take name.length=z28 name:=List.take_left' hfl;show attrW _ _=_;unfold attrW;rw [ht,hd,beq_eq_false_iff_ne.2 (show name.length≠0 by omega),show z79 (z28 name) 256=true from hF];rfl
 ·obtain ⟨k,rfl⟩:∃ k:Nat,n=(k:Int):=⟨n.toNat,by omega⟩;cases e
  ·have:=he rfl; omega
  ·obtain ⟨d1,d2,d3⟩:=digs (show k < 100 by omega);have hw:z28 (nameL name (k:Int) true)=z28 name++42 :: (digI (k:Int)++[42]):=by
    unfold nameL;rw [dT (by omega),yc,yc,qps,qps,show z28 (42 :: digI (k:Int))=42 :: z28 (digI (k:Int)) from rfl,d1,yl];rfl
   unfold z58;rw [hw,hs,show (starN (42 :: (digI (k:Int)++[42]))).map (· + name.length)=some (0+name.length) from rfl,yE];have hd:(z28 name++42 :: (digI (k:Int)++[42])).drop (name.length+1)=digI (k:Int)++[42]:=by rw [← List.drop_drop,List.drop_left' hfl]; rfl
   have ht:(z28 name++42 :: (digI (k:Int)++[42])).take name.length=z28 name:=List.take_left' hfl;have hem:(digI (k:Int)++[42]).isEmpty=false:=by cases digI (k:Int) <;> rfl
   show attrW _ _=_;unfold attrW;rw [ht,hd,beq_eq_false_iff_ne.2 (show name.length≠0 by omega),show z79 (z28 name) 256=true from hF,qEA,hem,d2,beq_eq_false_iff_ne.2 (show ((k:Nat):Int) ≠ -1 by omega)];rfl
theorem qJi {name:LU} (hm:mayN name=true) {n:Int} (hn:numOk n) {e:Bool} (he:e=false→n = -1) {v x:LU} (hv:(tokV v∧x=v)∨v=quoL x) (hl:v.length≤1000) :
 z32 ([13,10,32]++secL name n e v)=((z28 name,(n,(e,(x,())))),0):=by
 obtain ⟨f1,f2,f3,f4,f5⟩:=qEx;obtain ⟨m1,m2,m3,m4⟩:=qJf hm;have hW:=qGu m3 hn e;have hWl:=qAC name n e;have hA:=qzd hm hn he;have hgv:goodV v:=hv.imp (fun h=>h.1) fun h=>⟨_,h⟩;unfold secL;generalize hw:nameL name n e=W at *
 have hWn:∃ w W',W=w :: W':=by
  cases W with
  | nil =>
   unfold nameL at hw;cases name with
   | nil=>exact absurd rfl m1
   | cons c r=>cases hw
  | cons w W'=>exact ⟨w,W',rfl⟩
 obtain ⟨w,W',hWc⟩:=hWn;have hwk:tk w=true:=by rw [hWc] at hW; simp only [List.all_cons,yf] at hW; exact hW.1
 obtain ⟨k1,k2,k3,k4⟩:=qsG (qsF w hwk);obtain ⟨c,v',hvc,c1,c2⟩:=qEw hgv;generalize hP:[13,10,32]++(W++61 :: v)=P;have hPl:P.length=3+W.length+1+v.length:=by rw [← hP]; simp; omega
 have hvl:v.length=v'.length+1:=by rw [hvc]; rfl
 have g0:P.getD 0 0=13:=by rw [← hP]; rfl
 have g1:P.getD 1 0=10:=by rw [← hP]; rfl
 have g2:P.getD 2 0=32:=by rw [← hP]; rfl
 have g3:P.getD 3 0=w:=by rw [← hP,hWc]; rfl
 have hg0:gapW P 0=3:=by
  rw [qgD P 0 (by omega),g0,f1,show ((13:UInt8)==40)=false from rfl,yd,yc,qgD P 1 (by omega),g1,f2,show ((10:UInt8)==40)=false from rfl,yd,yc,
   qgD P 2 (by omega),g2,f3,show ((32:UInt8)==40)=false from rfl,yd,yc,qgD P 3 (by omega),g3,k1,k3]
  rfl
 have hG0:z54 P 0=((3:Nat):Int):=by unfold z54; rw [show qF P 0=0 from qdz (k:=0) (by omega),hg0]
 have hd3:P.drop 3=W++61 :: v:=by rw [← hP]; rfl
 have ht3:tokN P 3=W:=by
  unfold tokN;rw [hd3];have:=qfN tk W (61 :: v) hW;rw [List.takeWhile_cons,show tk 61=false from f5] at this;rw [show (fun c=>z77 c 64)=tk from rfl,this];simp
 have hT:oneTW P=(W,(((3+W.length:Nat):Int),0)):=by
  unfold oneTW z53;rw [hG0];unfold qW;rw [qdz (by omega),beq_eq_false_iff_ne.2 (show 3≠P.length by omega),ht3,show W.isEmpty=false from by rw [hWc]; rfl];rfl
 have hb:P=([13,10,32]++W)++61 :: v:=by rw [← hP,yl]
 have hbl:([13,10,32]++W:LU).length=3+W.length:=by simp; omega
 have hq:P.getD (3+W.length) 0=61:=by rw [hb,← hbl]; exact qza _ _ _
 have hg1:gapW P (3+W.length)=3+W.length:=by rw [qgD P _ (by omega),hq,f4]; rfl
 have hS:oneSW P=(((3+W.length+1:Nat):Int),true):=by
  unfold oneSW;rw [hT];show z55 P ((3+W.length:Nat):Int) 61=_;unfold z55;rw [qdz (by omega),hg1,hq,dT (by omega)];rfl
 have hb2:P=([13,10,32]++W++[61])++c :: v':=by rw [hb,hvc,yl,yl,yl]; rfl
 have hbl2:([13,10,32]++W++[61]:LU).length=3+W.length+1:=by simp; omega
 have hq2:P.getD (3+W.length+1) 0=c:=by rw [hb2,← hbl2]; exact qza _ _ _
 have hg2:gapW P (3+W.length+1)=3+W.length+1:=by rw [qgD P _ (by omega),hq2,c1,c2]; rfl
 have hd4:P.drop (3+W.length+1)=v:=by rw [hb2,← hbl2,List.drop_left' rfl,hvc]
 have hV:oneVW P=(x,(((P.length:Nat):Int),0)):=by
  unfold oneVW;rw [hS];show qbi P (z54 P ((3+W.length+1:Nat):Int))=_;unfold z54;rw [qdz (by omega),hg2];unfold qbi;rw [qdz (by omega),hq2,beq_eq_false_iff_ne.2 (show 3+W.length+1≠P.length by omega),Bool.false_or,hd4];rcases hv with ⟨⟨q1,q2⟩,rfl⟩ | rfl
  ·have hc34:(c==34)=false:=by
    rw [hvc] at q2;simp only [List.all_cons,yf] at q2;exact (qsG (qsF c q2.1)).2.1
   rw [bne,hc34];show qW P ((3+W.length+1:Nat):Int)=_;have ht4:tokN P (3+W.length+1)=x:=by
    unfold tokN;have:=qfN tk x [] q2;rw [yG] at this;rw [hd4];exact this.trans (yG x)
   unfold qW;rw [qdz (by omega),beq_eq_false_iff_ne.2 (show 3+W.length+1≠P.length by omega),ht4,show x.isEmpty=false from by rw [hvc]; rfl];show (x,(((3+W.length+1+x.length:Nat):Int),(0:Int)))=_;rw [hPl]
  ·have hc34:c=34:=by unfold quoL at hvc; exact (List.cons.inj hvc).1.symm
   rw [hc34,qvc];show (x,((((3+W.length+1:Nat):Int)+(((quoL x).length:Nat):Int)),(0:Int)))=_;rw [hPl];congr 2
 unfold z32;rw [hT,hS,hV];simp only [tn,List.drop_length,hA];rfl
theorem qJj:(z32 []).2=3:=by decide +kernel
def Shut (x:LU):Prop:=∀ (n:Nat) (r:LU),x.length≤n→∃ n',n≤n'+x.length∧∀ cur,ptsW n (x++r) cur=ptsW n' r (cur++x)
theorem qJk:Shut []:=fun n r _=>⟨n,by omega,fun cur=>by rw [yG]; rfl⟩
theorem qfO {x y:LU} (hx:Shut x) (hy:Shut y):Shut (x++y):=fun n r hn=>by
 rw [yn] at hn ⊢;obtain ⟨n1,a1,a2⟩:=hx n (y++r) (by omega);obtain ⟨n2,b1,b2⟩:=hy n1 r (by omega);exact ⟨n2,by omega,fun cur=>by rw [yl,a2,b2,yl]⟩
theorem qiB {c:UInt8} (h1:(c==34)=false) (h2:(c==40)=false) (h3:(c==59)=false):Shut [c]:=fun n r hn=>by
 obtain ⟨m,rfl⟩:∃ m,n=m+1:=⟨n - 1,by simp only [yg] at hn; omega⟩;refine ⟨m,yv _,fun cur=>?_⟩;show ptsW (m+1) (c :: r) cur=_;rw [qdy,h3,qeV,h1,h2];rfl
theorem qze:∀ x:LU,x.all tk=true→Shut x
 | [],_=>qJk
 | c :: x,h=>by
  simp only [List.all_cons,yf] at h;obtain ⟨k1,k2,k3,k4⟩:=qsG (qsF c h.1);exact qfO (x:=[c]) (qiB k2 k3 k4) (qze x h.2)
theorem qJl (b:LU):Shut (quoL b):=fun n r hn=>by
 unfold quoL at hn ⊢;rw [yg,yn,List.length_singleton] at hn ⊢;obtain ⟨m,rfl⟩:∃ m,n=m+1:=⟨n - 1,by omega⟩;have hu:=qzb b r;have e1:(b.flatMap quoC++[34])++r=b.flatMap quoC++34 :: r:=by rw [yl]; rfl
 refine ⟨m,by omega,fun cur=>?_⟩;rw [List.cons_append,e1,qdy,qeV,hu,show ((34:UInt8)==59)=false from rfl,show ((34:UInt8)==34)=true from rfl,yd,yc];show ptsW m ((34 :: (b.flatMap quoC++34 :: r)).drop ((b.flatMap quoC).length+1+1)) (cur++(34 :: (b.flatMap quoC++34 :: r)).take ((b.flatMap quoC).length+1+1))=_;have hlen:(34 :: (b.flatMap quoC++[34])).length=(b.flatMap quoC).length+1+1:=by rw [yg,yn]; rfl
 have e4:34 :: (b.flatMap quoC++34 :: r)=(34 :: (b.flatMap quoC++[34]))++r:=by rw [List.cons_append,e1]
 rw [e4,List.drop_left' hlen,List.take_left' hlen]
theorem qJm {name:LU} (hm:mayN name=true) {n:Int} (hn:numOk n) (e:Bool) {v:LU} (hv:goodV v):Shut ([13,10,32]++secL name n e v):=by
 obtain ⟨m1,m2,m3,m4⟩:=qJf hm;unfold secL;refine qfO (qfO (x:=[13]) (qiB rfl rfl rfl) (qfO (x:=[10]) (qiB rfl rfl rfl) (qiB rfl rfl rfl))) (qfO (qze _ (qGu m3 hn e)) (qfO (x:=[61]) (qiB rfl rfl rfl) ?_));rcases hv with h | ⟨b,rfl⟩
 ·exact qze _ h.2
 ·exact qJl b
theorem qnB:∀ (l:List LU),(∀ x∈l,Shut ([13,10,32]++x))→∀ (n:Nat) (cur:LU),(textL l).length < n→ptsW n (textL l) cur=cur :: l.map ([13,10,32] ++ ·)
 | [],_,n,cur,hn=>by
  obtain ⟨m,rfl⟩:∃ m,n=m+1:=⟨n - 1,by omega⟩;rfl
 | x :: l,h,n,cur,hn=>by
  obtain ⟨m,rfl⟩:∃ m,n=m+1:=⟨n - 1,by omega⟩;rw [qEy] at hn ⊢;rw [yg,yn] at hn;obtain ⟨k,a1,a2⟩:=h x List.mem_cons_self m (textL l) (by omega);have b1:=qnB l (fun y hy=>h y (List.mem_cons_of_mem _ hy)) k ([]++([13,10,32]++x)) (by omega);rw [qdy];show cur :: ptsW m (([13,10,32]++x)++textL l) []=_;rw [a2,b1];rfl
structure SecP (name:LU) (x:LU) (p:qi):Prop where
 is:∃ n e v y,x=secL name n e v∧p=(z28 name,(n,(e,(y,()))))∧numOk n∧(e=false→n = -1)∧((tokV v∧y=v)∨v=quoL y)
theorem qiC {name:LU} (hm:mayN name=true) (L:List LU) (ps:List qi) (hl:∀ x∈L,x.length≤1000) (hs:∀ (k:Nat) x,L[k]? = some x→∃ p,ps[k]? = some p∧SecP name x p) (hlen:ps.length=L.length) :
 z15 (textL L)=ps:=by
 have h1:∀ x∈L,Shut ([13,10,32]++x):=fun x hx=>by
  obtain ⟨k,hk⟩:=List.getElem?_of_mem hx;obtain ⟨p,_,n,e,v,y,rfl,_,hn,_,hv⟩:=hs k x hk;exact qJm hm hn e (hv.imp (fun h=>h.1) fun h=>⟨_,h⟩)
 have h2:=qnB L h1 ((textL L).length+1) [] (Nat.lt_succ_self _);unfold z15 z31;rw [h2,List.flatMap_cons,qJj];show []++_=_;rw [List.nil_append];have key:∀ (L:List LU) (ps:List qi),(∀ x∈L,x.length≤1000)→(∀ (k:Nat) x,L[k]? = some x→∃ p,ps[k]? = some p∧SecP name x p)→ps.length=L.length →
  (L.map ([13,10,32] ++ ·)).flatMap (fun p=>bif (z32 p).2==0 then [(z32 p).1] else [])=ps:=fun L=>by
  induction L with
  | nil=>intro ps _ _ h; rw [yF h]; rfl
  | cons x L ih =>
   intro ps hl hs hlen;cases ps with
   | nil=>cases hlen
   | cons q ps =>
    obtain ⟨p,hp,n,e,v,y,hx,hpe,hn,he,hv⟩:=hs 0 x rfl;simp only [y3,ya] at hp;have hvl:v.length≤1000:=by
     have:=hl x List.mem_cons_self;rw [hx] at this;unfold secL at this;rw [yn,yg] at this;omega
    have ho:=qJi hm hn he hv hvl;rw [yI,List.flatMap_cons,hx,ho,ih ps (fun y hy=>hl y (List.mem_cons_of_mem _ hy)) (fun k y hy=>hs (k+1) y hy) (by simpa using hlen),hp,hpe];rfl
 exact key L ps hl hs hlen
end Go.Av
