import Derived.Test.YtabdohophompiaaGreatDoorPxP9
import Derived.Test.YtabdohophompiaaGreatDoorPxPS
namespace Go.Av
set_option linter.unusedSimpArgs false
set_option linter.unusedVariables false
def tk (c:UInt8):Bool:=z100 c 64
def calm (c:UInt8):Bool:=(!(blkB c)&&(c != 34))&&((c != 40)&&(c != 59))
theorem qzP:∀ i:Fin 256,(!(z100 (UInt8.ofNat i.val) 256)||(tk (UInt8.ofNat i.val)&&(UInt8.ofNat i.val != 42)))=true:=by decide +kernel
theorem qxU (c:UInt8) (h:z100 c 256=true):tk c=true∧(c==42)=false:=by
 have:=qlX (P:=fun c=>(!(z100 c 256)||(tk c&&(c != 42)))=true) qzP c;rw [h] at this;simp only [Bool.not_true,Bool.false_or,yf,bne,Bool.not_eq_true'] at this;exact this
theorem calm0:∀ i:Fin 256,(!(tk (UInt8.ofNat i.val))||calm (UInt8.ofNat i.val))=true:=by decide +kernel
theorem qnG (c:UInt8) (h:tk c=true):calm c=true:=by
 have:=qlX (P:=fun c=>(!(tk c)||calm c)=true) calm0 c;rw [h] at this;exact this
theorem qnH {c:UInt8} (h:calm c=true):blkB c=false∧(c==34)=false∧(c==40)=false∧(c==59)=false:=by
 unfold calm at h;simp only [yf,bne,Bool.not_eq_true'] at h;exact ⟨h.1.1,h.1.2,h.2.1,h.2.2⟩
theorem qEs:∀ i:Fin 256,((oneC (UInt8.ofNat i.val)).all tk)=true:=by decide +kernel
theorem qGZ (c:UInt8):(oneC c).all tk=true:=qlX (P:=fun c=>(oneC c).all tk=true) qEs c
theorem qEt:∀ i:Fin 100,((digI ((i.val:Nat):Int)).all tk)=true:=by decide +kernel
theorem qzQ (n:Int):(z56 n).all tk=true:=by
 unfold z56 z96;cases (n==(1:Int)) <;> cases (n==(2:Int)) <;> cases (n==(3:Int)) <;> cases (n==(4:Int)) <;> cases (n==(5:Int)) <;> decide +kernel
theorem qxV {α:Type} {f:α→List UInt8} (h:∀ x,(f x).all tk=true):∀ l:List α,(l.flatMap f).all tk=true
 | []=>rfl
 | x :: l=>by rw [List.flatMap_cons,List.all_append,h x,qxV h l]; rfl
theorem qEu (cs c:Int):(unitL cs c).all tk=true:=qxV qGZ _
def numOk (n:Int):Prop:=n = -1∨(0≤n∧n < 100)
theorem qxW {name:List UInt8} (hn:name.all tk=true) {n:Int} (h:numOk n) (e:Bool):(nameL name n e).all tk=true:=by
 unfold nameL;rw [List.all_append,List.all_append,hn];rcases h with rfl | h
 ·cases e <;> rfl
 ·rw [dT h.1];obtain ⟨k,rfl⟩:∃ k:Nat,n=(k:Int):=⟨n.toNat,by omega⟩;simp only [yc,List.all_cons,show (digI (k:Int)).all tk=true from qEt ⟨k,by omega⟩];cases e <;> rfl
def secL (name:List UInt8) (n:Int) (e:Bool) (v:List UInt8):List UInt8:=nameL name n e++61 :: v
def tokV (v:List UInt8):Prop:=v≠[]∧v.all tk=true
def goodV (v:List UInt8):Prop:=tokV v∨∃ b,v=quoL b
theorem qso {name:List UInt8} (h:mayN name=true):name≠[]∧name.length≤30∧name.all tk=true∧(name.all fun c=>z100 c 256)=true:=by
 unfold mayN at h;simp only [yf,ym] at h;refine ⟨fun e=>by rw [e] at h; exact absurd h.1.1 (by decide),h.1.2,List.all_eq_true.2 fun c hc=>(qxU c (List.all_eq_true.1 h.2 c hc)).1,h.2⟩
theorem qfF:∀ name:List UInt8,(name.all fun c=>z100 c 256)=true→∀ r,starN (name++r)=(starN r).map (· + name.length)
 | [],_,r=>by cases e:starN r <;> simp [e]
 | c :: l,h,r=>by
  simp only [List.all_cons,yf] at h;show (bif c==42 then some 0 else (starN (l++r)).map (· + 1))=_;rw [(qxU c h.1).2,qfF l h.2 r];cases starN r with
  | none=>rfl
  | some j=>simp only [yd,yT,yg]; congr 1
theorem qwE {name:List UInt8} (h:mayN name=true):qfs (nameL name (-1) false)=true∧z71 (nameL name (-1) false)=(qJ name,(-1,false)):=by
 obtain ⟨h1,h2,h3,h4⟩:=qso h;have hs:=qfF name h4 [];rw [yG] at hs;rw [show nameL name (-1) false=name from by show (name++[])++[]=name; rw [yG,yG]];unfold qfs z71;rw [hs];exact ⟨by rw [qy (by omega)]; rfl,rfl⟩
theorem qzR {name:List UInt8} (h:mayN name=true):qfs (nameL name (-1) true)=true∧z71 (nameL name (-1) true)=(qJ name,(-1,true)):=by
 obtain ⟨h1,h2,h3,h4⟩:=qso h;have hs:=qfF name h4 [42];have hp:0 < name.length:=List.length_pos_iff.2 h1;rw [show nameL name (-1) true=name++[42] from by show (name++[])++[42]=_; rw [yG]];unfold qfs z71;rw [hs,show (starN [42]).map (· + name.length)=some (0+name.length) from rfl,yE];have hd:(name++[42]).drop (name.length+1)=[]:=yA (by rw [yn]; exact yv _);have ht:(name++[42]).take name.length=name:=List.take_left' rfl;constructor
 ·simp only [hd,ht];rw [qy (by rw [yn]; simp; omega),dT hp,h4];rfl
 ·simp only [attrR,hd,ht];rfl
theorem qzS {name:List UInt8} (h:mayN name=true) {k:Nat} (hk:k < 100):qfs (nameL name (k:Int) true)=true∧z71 (nameL name (k:Int) true)=(qJ name,((k:Int),true)):=by
 obtain ⟨h1,h2,h3,h4⟩:=qso h;have hp:0 < name.length:=List.length_pos_iff.2 h1;have hw:nameL name (k:Int) true=name++42 :: (digI (k:Int)++[42]):=by
  unfold nameL;rw [dT (by omega)];simp
 have hs:=qfF name h4 (42 :: (digI (k:Int)++[42]));have hdl:=qiO (k:Int);rw [hw];unfold qfs z71;rw [hs,show (starN (42 :: (digI (k:Int)++[42]))).map (· + name.length)=some (0+name.length) from rfl,yE];have hd:(name++42 :: (digI (k:Int)++[42])).drop (name.length+1)=digI (k:Int)++[42]:=by
  rw [← List.drop_drop,List.drop_left' rfl]; rfl
 have ht:(name++42 :: (digI (k:Int)++[42])).take name.length=name:=List.take_left' rfl;have hl:(digI (k:Int)++[42]).length - 1=(digI (k:Int)).length:=by rw [yn]; simp
 have ht2:(digI (k:Int)++[42]).take (digI (k:Int)).length=digI (k:Int):=List.take_left' rfl;have hg:(digI (k:Int)++[42]).getD (digI (k:Int)).length 0=42:=by simp
 have he:(digI (k:Int)++[42]).isEmpty=false:=by cases digI (k:Int) <;> rfl
 constructor
 ·simp only [hd,ht,hl,ht2,hg,he,qlB hk];rw [qy (by rw [yn,yg,yn]; simp; omega),dT hp,h4];rfl
 ·simp only [attrR,hd,ht,hl,ht2,he,yd];rw [show numV (digI (k:Int))=(k:Int) from qAz ⟨k,hk⟩]
theorem qwF {name:List UInt8} (h:mayN name=true) {n:Int} (hn:numOk n) {e:Bool} (he:e=false→n = -1):qfs (nameL name n e)=true∧z71 (nameL name n e)=(qJ name,(n,e)):=by
 rcases hn with rfl | hn
 ·cases e
  ·exact qwE h
  ·exact qzR h
 ·obtain ⟨k,rfl⟩:∃ k:Nat,n=(k:Int):=⟨n.toNat,by omega⟩;cases e
  ·have:=he rfl; omega
  ·exact qzS h (by omega)
theorem qaI {s:List UInt8} {k:Nat} (h:k≤s.length):qF s (k:Int)=k:=by unfold qF; rw [tn,Nat.min_eq_left h]
theorem qsp (a:List UInt8) (c:UInt8) (b:List UInt8):(a++c :: b).getD a.length 0=c:=by simp
theorem qsq:∀ (b r:List UInt8),unqG (b.flatMap quoC++34 :: r)=some (b,(b.flatMap quoC).length+1)
 | [],r=>qiS r
 | c :: b,r=>by
  rw [List.flatMap_cons,yl,yn];have ih:=qsq b r;rw [show quoC c=bif (c==34)||(c==92) then [92,c] else [c] from rfl];cases h1:c==34 with
  | true =>
   rw [Bool.true_or,yc];show unqG (92 :: c :: (b.flatMap quoC++34 :: r))=_;rw [qnP,ih];simp only [yT,yg,List.length_nil]; congr 2; omega
  | false =>
   cases h2:c==92 with
   | true =>
    rw [Bool.or_true,yc];show unqG (92 :: c :: (b.flatMap quoC++34 :: r))=_;rw [qnP,ih];simp only [yT,yg,List.length_nil]; congr 2; omega
   | false =>
    rw [Bool.or_false,yd];show unqG (c :: (b.flatMap quoC++34 :: r))=_;rw [qiT _ _ h1 h2,ih];simp only [yT,yg,List.length_nil]; congr 2; omega
theorem qpx (b:List UInt8):z66 (quoL b)=(b,(((quoL b).length:Nat):Int),0):=by
 unfold quoL;rw [show z66 (34 :: (b.flatMap quoC++[34]))=unqR (unqG (b.flatMap quoC++[34])) from rfl,qsq b []];simp [unqR]
theorem qem (p:UInt8→Bool):∀ (w r:List UInt8),w.all p=true→(w++r).takeWhile p=w++r.takeWhile p
 | [],r,_=>rfl
 | c :: w,r,h=>by
  simp only [List.all_cons,yf] at h;rw [List.cons_append,List.takeWhile_cons,h.1,qem p w r h.2];rfl
theorem qwG {v:List UInt8} (h:goodV v):∃ c v',v=c :: v'∧blkB c=false∧(c==40)=false:=by
 rcases h with ⟨h1,h2⟩ | ⟨b,rfl⟩
 ·cases v with
  | nil=>exact absurd rfl h1
  | cons c v =>
   simp only [List.all_cons,yf] at h2;obtain ⟨k1,k2,k3,k4⟩:=qnH (qnG c h2.1);exact ⟨c,v,rfl,k1,k3⟩
 ·exact ⟨34,_,rfl,by decide +kernel,rfl⟩
theorem qwH:blkB 13=true∧blkB 10=true∧blkB 32=true∧blkB 61=false∧z100 61 64=false:=by decide +kernel
theorem qxX {name:List UInt8} (hm:mayN name=true) {n:Int} (hn:numOk n) {e:Bool} (he:e=false→n = -1) {v:List UInt8} (hv:goodV v) (hl:v.length≤1000) :
 qel ([13,10,32]++secL name n e v)=true∧∃ v',z39 ([13,10,32]++secL name n e v)=((qJ name,(n,(e,(v',())))),0):=by
 obtain ⟨f1,f2,f3,f4,f5⟩:=qwH;obtain ⟨m1,m2,m3,m4⟩:=qso hm;have hW:=qxW m3 hn e;have hWl:=qsx name n e;obtain ⟨hA1,hA2⟩:=qwF hm hn he;unfold secL;generalize hw:nameL name n e=W at *
 have hWn:∃ w W',W=w :: W':=by
  cases W with
  | nil =>
   unfold nameL at hw;cases name with
   | nil=>exact absurd rfl m1
   | cons c r=>cases hw
  | cons w W'=>exact ⟨w,W',rfl⟩
 obtain ⟨w,W',hWc⟩:=hWn;have hwk:tk w=true:=by rw [hWc] at hW; simp only [List.all_cons,yf] at hW; exact hW.1
 obtain ⟨k1,k2,k3,k4⟩:=qnH (qnG w hwk);obtain ⟨c,v',hvc,c1,c2⟩:=qwG hv;generalize hP:[13,10,32]++(W++61 :: v)=P;have hPl:P.length=3+W.length+1+v.length:=by rw [← hP]; simp; omega
 have hvl:v.length=v'.length+1:=by rw [hvc]; rfl
 have hok:lenOk P=true:=qy (by omega);have hg0:gapN P 0=3:=by
  rw [qgB P 0 (by omega),show P.getD 0 0=13 from by rw [← hP]; rfl,f1,yc,qgB P 1 (by omega),show P.getD 1 0=10 from by rw [← hP]; rfl,f2,yc,
   qgB P 2 (by omega),show P.getD 2 0=32 from by rw [← hP]; rfl,f3,yc,qgB P 3 (by omega),show P.getD 3 0=w from by rw [← hP,hWc]; rfl,k1]
  rfl
 have hc0:qF P 0=0:=qaI (k:=0) (by omega);have hG0:z67 P 0=((3:Nat):Int):=by unfold z67; rw [hc0,hg0]
 have hO0:qav P 0=true:=by
  unfold qav;rw [hc0,hg0,hok,show P.getD 3 0=w from by rw [← hP,hWc]; rfl,bne,k3]; rfl
 have hd3:P.drop 3=W++61 :: v:=by rw [← hP]; rfl
 have ht3:tokN P 3=W:=by
  unfold tokN;rw [hd3];have:=qem tk W (61 :: v) hW;rw [List.takeWhile_cons,show tk 61=false from f5] at this;rw [show (fun c=>z100 c 64)=tk from rfl,this];simp
 have hT:oneT P=(W,(((3+W.length:Nat):Int),0)):=by
  unfold oneT;rw [hG0];unfold z68;rw [qaI (by omega),beq_eq_false_iff_ne.2 (show 3≠P.length by omega),ht3,show W.isEmpty=false from by rw [hWc]; rfl];rfl
 have hb:P=([13,10,32]++W)++61 :: v:=by rw [← hP,yl]
 have hbl:([13,10,32]++W:List UInt8).length=3+W.length:=by simp; omega
 have hq:P.getD (3+W.length) 0=61:=by rw [hb,← hbl]; exact qsp _ _ _
 have hg1:gapN P (3+W.length)=3+W.length:=by rw [qgB P _ (by omega),hq,f4]; rfl
 have hS:oneS P=(((3+W.length+1:Nat):Int),true):=by
  unfold oneS;rw [hT];show z69 P ((3+W.length:Nat):Int) 61=_;unfold z69;rw [qaI (by omega),hg1,hq,dT (by omega)];rfl
 have hO1:qav P (oneT P).2.1=true:=by
  rw [hT];unfold qav;rw [qaI (by omega),hg1,hq,hok]; rfl
 have hb2:P=([13,10,32]++W++[61])++c :: v':=by rw [hb,hvc,yl,yl,yl]; rfl
 have hbl2:([13,10,32]++W++[61]:List UInt8).length=3+W.length+1:=by simp; omega
 have hq2:P.getD (3+W.length+1) 0=c:=by rw [hb2,← hbl2]; exact qsp _ _ _
 have hg2:gapN P (3+W.length+1)=3+W.length+1:=by rw [qgB P _ (by omega),hq2,c1]; rfl
 have hO2:qav P (oneS P).1=true:=by
  rw [hS];unfold qav;rw [qaI (by omega),hg2,hq2,hok,bne,c2]; rfl
 have hd4:P.drop (3+W.length+1)=v:=by rw [hb2,← hbl2,List.drop_left' rfl,hvc]
 have hV:∃ x,oneV P=(x,(((P.length:Nat):Int),0)):=by
  unfold oneV;rw [hS];show ∃ x,z70 P (z67 P ((3+W.length+1:Nat):Int))=_;unfold z67;rw [qaI (by omega),hg2];unfold z70;rw [qaI (by omega),hq2,beq_eq_false_iff_ne.2 (show 3+W.length+1≠P.length by omega),Bool.false_or,hd4];rcases hv with ⟨g1,g2⟩ | ⟨b,rfl⟩
  ·have hc34:(c==34)=false:=by
    rw [hvc] at g2;simp only [List.all_cons,yf] at g2;exact (qnH (qnG c g2.1)).2.1
   rw [bne,hc34];refine ⟨v,?_⟩;show z68 P ((3+W.length+1:Nat):Int)=_;have ht4:tokN P (3+W.length+1)=v:=by
    unfold tokN;have:=qem tk v [] g2;rw [yG] at this;rw [hd4];exact this.trans (yG v)
   unfold z68;rw [qaI (by omega),beq_eq_false_iff_ne.2 (show 3+W.length+1≠P.length by omega),ht4,show v.isEmpty=false from by rw [hvc]; rfl];show (v,(((3+W.length+1+v.length:Nat):Int),(0:Int)))=_;rw [hPl]
  ·have hc34:c=34:=by unfold quoL at hvc; exact (List.cons.inj hvc).1.symm
   refine ⟨b,?_⟩;rw [hc34,qpx];show (b,((((3+W.length+1:Nat):Int)+(((quoL b).length:Nat):Int)),(0:Int)))=_;rw [hPl];congr 2
 obtain ⟨x,hV⟩:=hV;have hcl:qF P ((P.length:Nat):Int)=P.length:=qaI (yv _);have hg3:gapN P P.length=P.length:=qsF P _ (yv _);have hO3:qav P (oneV P).2.1=true:=by
  rw [hV];unfold qav;rw [hcl,hg3,hok,show P.getD P.length 0=0 from by simp]; rfl
 constructor
 ·unfold qel;rw [hO0,hO1,hO2,hO3,hT,hA1];rfl
 ·refine ⟨x,?_⟩;unfold z39;rw [hV];simp only;unfold z67;rw [hcl,hg3,hS,hT];simp only;rw [hA2];simp
theorem qEv:qel []=true∧z39 []=(([],(0,(false,([],())))),3)∧z40 []=true:=by decide +kernel
end Go.Av
