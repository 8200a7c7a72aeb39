import Derived.Test.YtabdohophompiaaGreatDoorPxP10
namespace Go.Av
set_option linter.unusedSimpArgs false
set_option linter.unusedVariables false
def Shut (x:List UInt8):Prop:=∀ (n:Nat) (r:List UInt8),x.length≤n→∃ n',n≤n'+x.length∧(∀ cur,ptsQ n (x++r) cur=ptsQ n' r (cur++x))∧(ptsB n' r=true→ptsB n (x++r)=true)
theorem qzT:Shut []:=fun n r _=>⟨n,by omega,fun cur=>by rw [yG]; rfl,fun h=>h⟩
theorem qen {x y:List UInt8} (hx:Shut x) (hy:Shut y):Shut (x++y):=fun n r hn=>by
 rw [yn] at hn ⊢;obtain ⟨n1,a1,a2,a3⟩:=hx n (y++r) (by omega);obtain ⟨n2,b1,b2,b3⟩:=hy n1 r (by omega);exact ⟨n2,by omega,fun cur=>by rw [yl,a2,b2,yl],fun h=>by rw [yl]; exact a3 (b3 h)⟩
theorem qgx {c:UInt8} (h1:(c==34)=false) (h2:(c==40)=false) (h3:(c==59)=false):Shut [c]:=fun n r hn=>by
 obtain ⟨m,rfl⟩:∃ m,n=m+1:=⟨n - 1,by simp only [yg] at hn; omega⟩;refine ⟨m,yv _,fun cur=>?_,fun h=>?_⟩
 ·show ptsQ (m+1) (c :: r) cur=_;rw [qfH,h1,h3];rfl
 ·show ptsB (m+1) (c :: r)=true;rw [qfI,h1,bne,h2,h];rfl
theorem qsr:∀ x:List UInt8,x.all tk=true→Shut x
 | [],_=>qzT
 | c :: x,h=>by
  simp only [List.all_cons,yf] at h;obtain ⟨k1,k2,k3,k4⟩:=qnH (qnG c h.1);exact qen (x:=[c]) (qgx k2 k3 k4) (qsr x h.2)
theorem qzU (b:List UInt8):Shut (quoL b):=fun n r hn=>by
 unfold quoL at hn ⊢;rw [yg,yn,List.length_singleton] at hn ⊢;obtain ⟨m,rfl⟩:∃ m,n=m+1:=⟨n - 1,by omega⟩;have hu:=qsq b r;have e1:(b.flatMap quoC++[34])++r=b.flatMap quoC++34 :: r:=by rw [yl]; rfl
 have e2:(b.flatMap quoC++34 :: r).drop ((b.flatMap quoC).length+1)=r:=by rw [← e1]; exact List.drop_left' (by rw [yn]; rfl)
 have e3:(b.flatMap quoC++34 :: r).take ((b.flatMap quoC).length+1)=b.flatMap quoC++[34]:=by rw [← e1]; exact List.take_left' (by rw [yn]; rfl)
 refine ⟨m,by omega,fun cur=>?_,fun h=>?_⟩
 ·rw [List.cons_append,qfH,e1,hu];show ptsQ m ((b.flatMap quoC++34 :: r).drop ((b.flatMap quoC).length+1)) (cur++34 :: (b.flatMap quoC++34 :: r).take ((b.flatMap quoC).length+1))=_;rw [e2,e3]
 ·rw [List.cons_append,qfI,e1,hu];show ptsB m ((b.flatMap quoC++34 :: r).drop ((b.flatMap quoC).length+1))=true;rw [e2,h]
theorem qzV {name:List UInt8} (hm:mayN name=true) {n:Int} (hn:numOk n) (e:Bool) {v:List UInt8} (hv:goodV v):Shut ([13,10,32]++secL name n e v):=by
 obtain ⟨m1,m2,m3,m4⟩:=qso hm;unfold secL;refine qen (qen (x:=[13]) (qgx rfl rfl rfl) (qen (x:=[10]) (qgx rfl rfl rfl) (qgx rfl rfl rfl))) (qen (qsr _ (qxW m3 hn e)) (qen (x:=[61]) (qgx rfl rfl rfl) ?_));rcases hv with h | ⟨b,rfl⟩
 ·exact qsr _ h.2
 ·exact qzU b
theorem qwI (x:List UInt8) (l:List (List UInt8)):textL (x :: l)=59 :: (([13,10,32]++x)++textL l):=by
 unfold textL;rw [List.flatMap_cons];simp
theorem qku:∀ (l:List (List UInt8)),(∀ x∈l,Shut ([13,10,32]++x))→∀ (n:Nat) (cur:List UInt8),(textL l).length < n →
 ptsQ n (textL l) cur=cur :: l.map ([13,10,32] ++ ·)∧ptsB n (textL l)=true
 | [],_,n,cur,hn=>by
  obtain ⟨m,rfl⟩:∃ m,n=m+1:=⟨n - 1,by omega⟩;exact ⟨rfl,rfl⟩
 | x :: l,h,n,cur,hn=>by
  obtain ⟨m,rfl⟩:∃ m,n=m+1:=⟨n - 1,by omega⟩;rw [qwI] at hn ⊢;rw [yg,yn] at hn;obtain ⟨k,a1,a2,a3⟩:=h x List.mem_cons_self m (textL l) (by omega);obtain ⟨b1,b2⟩:=qku l (fun y hy=>h y (List.mem_cons_of_mem _ hy)) k ([]++([13,10,32]++x)) (by omega);constructor
  ·rw [qfH];show cur :: ptsQ m (([13,10,32]++x)++textL l) []=_;rw [a2,b1];rfl
  ·rw [qfI];show ((59:UInt8) != 40&&ptsB m (([13,10,32]++x)++textL l))=true;rw [a3 b2];rfl
structure NumI (name cs:List UInt8) (st:PutT):Prop where
 outs:∀ (k:Nat) x,st.2.2[k]? = some x→∃ v,x=secL name (k:Int) true v∧tokV v
 now:∃ v,st.2.1=secL name ((st.2.2.length:Nat):Int) true v∧tokV v
theorem qss (name:List UInt8) (n:Int) (e:Bool) (v u:List UInt8):secL name n e v++u=secL name n e (v++u):=by unfold secL; rw [yl]; rfl
theorem qst {v u:List UInt8} (h:tokV v) (hu:u.all tk=true):tokV (v++u):=⟨fun e=>h.1 (List.append_eq_nil_iff.1 e).1,by rw [List.all_append,h.2,hu]; rfl⟩
theorem qsu (name:List UInt8) {n:Int} (cs:List UInt8) (h:¬ 0 < n):headL name n cs=secL name n true (cs++[39,39]):=by unfold headL; rw [dF h]; rfl
theorem qwJ (name:List UInt8) {n:Int} (cs:List UInt8) (h:0 < n):headL name n cs=secL name n true []:=by unfold headL; rw [dT h]; rfl
theorem qxY {cs:List UInt8} (h:cs.all tk=true):tokV (cs++[39,39]):=⟨fun e=>absurd (List.append_eq_nil_iff.1 e).2 (by simp),by rw [List.all_append,h]; decide +kernel⟩
theorem qxZ {name cs:List UInt8} {st:PutT} (h:NumI name cs st) (hp:PutS st) {u:List UInt8} (hu:u.all tk=true):NumI name cs (putU name cs st u):=by
 obtain ⟨e,now,out⟩:=st;obtain ⟨h1,v,h2,h3⟩:=h;have h74:now.length≤74:=by
  have:=hp.now;unfold secB at this;simp only [yf,ym] at this;exact this.1.2
 simp only at h1 h2;unfold putU;simp only;cases hq : !e&&decide (74 < now.length+u.length) with
 | true =>
  simp only [yc];rw [yf,ym] at hq;refine ⟨fun k x hk=>?_,u,?_,?_,hu⟩
  ·simp only at hk
   by_cases hlt:k < out.length
   ·rw [yM hlt] at hk;exact h1 k x hk
   ·have he:k=out.length:=by
     have:=(List.getElem?_eq_some_iff.1 hk).1;rw [yn,List.length_singleton] at this;omega
    subst he;rw [yN (yv _),Nat.sub_self] at hk;cases hk;exact ⟨v,h2,h3⟩
  ·simp only;rw [yn,List.length_singleton,qwJ name cs (by omega),qss,List.nil_append]
  ·intro e';rw [e',List.length_nil] at hq;omega
 | false =>
  simp only [yd];exact ⟨h1,v++u,by simp only; rw [h2,qss],qst h3 hu⟩
theorem qzW (name cs:List UInt8) (st:PutT) (u:List UInt8):(putU name cs st u).2.2.length≤st.2.2.length+1:=by
 unfold putU;cases !st.1&&decide (74 < st.2.1.length+u.length) <;> simp
theorem qsv {name cs:List UInt8} (hn:name.all chB=true) (hc:cs.all chB=true) (hl:name.length≤30) (hcl:cs.length≤12):∀ (l:List (List UInt8)) (st:PutT),NumI name cs st→PutS st→(∀ u∈l,(u.length≤12∧u.all chB=true)∧u.all tk=true)→st.2.2.length+l.length≤99 →
 NumI name cs (l.foldl (putU name cs) st)∧(l.foldl (putU name cs) st).2.2.length≤99
 | [],st,h,hp,_,hlen=>⟨h,by simpa using hlen⟩
 | u :: l,st,h,hp,hu,hlen=>by
  rw [yg] at hlen;have h2:=qzW name cs st u;have hu1:=hu u List.mem_cons_self;exact qsv hn hc hl hcl l _ (qxZ h hp hu1.2) (qnT hp hn hc hl hcl hu1.1.1 hu1.1.2 (by omega)) (fun v hv=>hu v (List.mem_cons_of_mem _ hv)) (by omega)
theorem qEw {name cs:List UInt8} (hn:name.all chB=true) (hc:cs.all chB=true) (hct:cs.all tk=true) (hl:name.length≤30) (hcl:cs.length≤12) (l:List (List UInt8)) (hu:∀ u∈l,(u.length≤12∧u.all chB=true)∧u.all tk=true) (hlen:l.length≤100) :
 (numL name cs l).length≤100∧∀ (k:Nat) x,(numL name cs l)[k]? = some x→∃ v,x=secL name (k:Int) true v∧tokV v:=by
 have h0:NumI name cs (true,(headL name 0 cs,[])):=⟨fun k x hk=>by simp at hk,cs++[39,39],qsu name cs (by omega),qxY hct⟩;have key:NumI name cs (l.foldl (putU name cs) (true,(headL name 0 cs,[])))∧(l.foldl (putU name cs) (true,(headL name 0 cs,[]))).2.2.length≤99:=by
  cases l with
  | nil=>exact ⟨h0,by simp⟩
  | cons u l =>
   rw [List.foldl_cons];rw [yg] at hlen;have hu1:=hu u List.mem_cons_self;exact qsv hn hc hl hcl l _ (qxZ h0 (qfJ hn hc hl hcl) hu1.2) (qnT (qfJ hn hc hl hcl) hn hc hl hcl hu1.1.1 hu1.1.2 (by simp)) (fun v hv=>hu v (List.mem_cons_of_mem _ hv)) (by
    have:(putU name cs (true,(headL name 0 cs,[])) u).2.2=[]:=by unfold putU; simp
    rw [this];simp only [List.length_nil];omega)
 obtain ⟨⟨k1,v,k2,k3⟩,k4⟩:=key;unfold numL;constructor
 ·rw [yn,List.length_singleton]; omega
 ·intro k x hk
  by_cases hlt:k < (l.foldl (putU name cs) (true,(headL name 0 cs,[]))).2.2.length
  ·rw [yM hlt] at hk;exact k1 k x hk
  ·have he:k=(l.foldl (putU name cs) (true,(headL name 0 cs,[]))).2.2.length:=by
    have:=(List.getElem?_eq_some_iff.1 hk).1;rw [yn,List.length_singleton] at this;omega
   subst he;rw [yN (yv _),Nat.sub_self] at hk;cases hk;exact ⟨v,k2,k3⟩
structure SecAt (name:List UInt8) (len:Nat) (plain:Bool) (k:Nat) (x:List UInt8):Prop where
 is:∃ n v,x=secL name n (!plain) v∧goodV v∧numOk n∧((n = -1∧len=1)∨(n=(k:Int)∧plain=false))
theorem qlx (name:List UInt8) (t:List Int) (ht:t.length≤100) (h0:(qB name t).2=0) :
 mayN name=true∧0 < (qB name t).1.length∧∀ (k:Nat) x,(qB name t).1[k]? = some x→SecAt name (qB name t).1.length (z16 name t) k x:=by
 revert h0;unfold qB z16;cases hq:qcC name t != 0 with
 | true=>intro h0; simp only [yc] at h0; rw [h0] at hq; cases hq
 | false =>
  have hq0:(qcC name t==0)=true:=by
   unfold bne at hq;simpa using hq
  have hm:mayN name=true:=by
   have h1:=eq_of_beq hq0;unfold qcC at h1;cases hm:mayN name with
   | false=>rw [hm] at h1; cases h1
   | true=>rfl
  obtain ⟨hl,hn⟩:=qEP hm;cases hp:(z28 name t).2 with
  | true =>
   intro _;rw [hq0];simp only [yd,yc,yi];refine ⟨hm,by simp,fun k x hk=>⟨-1,atomL (z52 t).1,?_,?_,.inl rfl,.inl ⟨rfl,rfl⟩⟩⟩
   ·have:k=0:=by have:=(List.getElem?_eq_some_iff.1 hk).1; simp at this; exact this
    subst this;cases hk;unfold qek secL nameL;simp
   ·unfold atomL;cases htk:tokB (z52 t).1 with
    | true =>
     unfold tokB at htk;simp only [yf,Bool.not_eq_true'] at htk;exact .inl ⟨fun e=>absurd htk.1 (by rw [show (z52 t).1=[] from e]; decide),htk.2⟩
    | false=>exact .inr ⟨_,rfl⟩
  | false =>
   cases hr:(z22 t).2 != 0 with
   | true=>intro h0; simp only [yc,yd] at h0; rw [h0] at hr; cases hr
   | false =>
    intro _;have hun:=qnL (z22 t).1 t;have hcl:=qcX (z22 t).1;have hcc:=qsL (z22 t).1;have hct:=qzQ (z22 t).1;have hu:∀ u∈z23 (z22 t).1 t,(u.length≤12∧u.all chB=true)∧u.all tk=true:=fun u hu=>by
     unfold z23 at hu;obtain ⟨c,_,rfl⟩:=List.mem_map.1 hu;exact ⟨⟨qlz _ c,qyc _ c⟩,qEu _ c⟩
    rw [hq0];simp only [yd,Bool.and_false];cases hw:decide ((headL name (-1) (z56 (z22 t).1)++(z23 (z22 t).1 t).flatten).length≤74) with
    | true =>
     simp only [yc];refine ⟨hm,by simp,fun k x hk=>⟨-1,(z56 (z22 t).1++[39,39])++(z23 (z22 t).1 t).flatten,?_,.inl (qst (qxY hct) ?_),.inl rfl,.inl ⟨rfl,rfl⟩⟩⟩
     ·have:k=0:=by have:=(List.getElem?_eq_some_iff.1 hk).1; simp at this; exact this
      subst this;cases hk;rw [qsu name _ (by omega),qss];rfl
     ·rw [List.all_flatten,List.all_eq_true.2 fun u hu'=>(hu u hu').2]
    | false =>
     simp only [yd];obtain ⟨a1,a2⟩:=qEw hn hcc hct hl hcl _ hu (by omega);refine ⟨hm,by unfold numL; simp,fun k x hk=>?_⟩;obtain ⟨v,hx,hv⟩:=a2 k x hk;have hk2:=(List.getElem?_eq_some_iff.1 hk).1;exact ⟨(k:Int),v,hx,.inl hv,.inr ⟨by omega,by omega⟩,.inr ⟨rfl,rfl⟩⟩
def parOf (x:List UInt8):qiJ:=(z39 ([13,10,32]++x)).1
theorem qEx:∀ l:List (List UInt8),(∀ x∈l,(z39 ([13,10,32]++x)).2=0)→readF (l.map ([13,10,32] ++ ·))=(l.map parOf,0)
 | [],_=>rfl
 | x :: l,h=>by
  have ih:=qEx l fun y hy=>h y (List.mem_cons_of_mem _ hy);have hx:=h x List.mem_cons_self;unfold readF at ih ⊢;obtain ⟨i1,i2⟩:=yj ih;rw [yI,List.flatMap_cons,List.countP_cons,i1,hx];congr 1
theorem qwK (name:List UInt8) (t:List Int) (hok:ok36 name t=true) (h0:(qB name t).2=0) :
 qpu (textL (qB name t).1)=true∧z20 (textL (qB name t).1)=((qB name t).1.map parOf,0):=by
 obtain ⟨hnl,htl⟩:=qkw hok;obtain ⟨k1,k2⟩:=qgA hok;have k3:=qAp _ k2;obtain ⟨hm,hpos,hf⟩:=qlx name t htl h0;have hlen0:(qB name t).1.length+1≤1048576:=by omega
 have hlen1:(textL (qB name t).1).length≤1048576:=by omega
 generalize qB name t=L at *
 have hsec:∀ x∈L.1,Shut ([13,10,32]++x)∧qel ([13,10,32]++x)=true∧(z39 ([13,10,32]++x)).2=0:=fun x hx=>by
  obtain ⟨k,hk⟩:=List.getElem?_of_mem hx;obtain ⟨n,v,rfl,hv,hn,hc⟩:=(hf k x hk).is;have hlv:v.length≤1000:=by
   have:=k2 _ hx;unfold secL at this;rw [yn,yg] at this;omega
  obtain ⟨o1,v',o2⟩:=qxX hm hn (e := !(z16 name t)) (fun he=>by
   rcases hc with hc | hc
   ·exact hc.1
   ·rw [hc.2] at he; cases he) hv hlv
  exact ⟨qzV hm hn _ hv,o1,by rw [o2]⟩
 obtain ⟨p1,p2⟩:=qku L.1 (fun x hx=>(hsec x hx).1) ((textL L.1).length+1) [] (Nat.lt_succ_self _);obtain ⟨n1,n2,n3⟩:=qEv;have hP:z38 (textL L.1)=[] :: L.1.map ([13,10,32] ++ ·):=p1;constructor
 ·have hlen:(([]:List UInt8) :: L.1.map (fun x=>[13,10,32]++x)).length≤1048576:=by rw [yg,yP]; exact hlen0
  have hall:L.1.all (qel ∘ fun x=>[13,10,32]++x)=true:=List.all_eq_true.2 fun x hx=>by rw [Function.comp_apply]; exact (hsec x hx).2.1
  unfold qpu qpt;rw [hP,p2,qy hlen1,List.all_cons,n1,List.all_map,hall,dT hlen];rfl
 ·unfold z20;rw [hP];have:=qEx L.1 fun x hx=>(hsec x hx).2.2;unfold readF at this ⊢;rw [List.flatMap_cons,List.countP_cons,n2,n3];exact this
theorem qHa (name:List UInt8) (t:List Int) (hok:ok36 name t=true) (h0:(qB name t).2=0) (k:Nat) (hk:k < (qB name t).1.length) :
 ∃ n v,((qB name t).1.map parOf).getD k ([],(0,(false,([],()))))=(qJ name,(n,(!(z16 name t),(v,()))))∧((n = -1∧(qB name t).1.length=1)∨n=(k:Int)):=by
 obtain ⟨hnl,htl⟩:=qkw hok;obtain ⟨k1,k2⟩:=qgA hok;obtain ⟨hm,hpos,hf⟩:=qlx name t htl h0;generalize qB name t=L at *
 obtain ⟨n,v,hx,hv,hn,hc⟩:=(hf k _ (yO hk)).is;have hlv:v.length≤1000:=by
  have:=k2 _ (List.getElem_mem hk);rw [hx] at this;unfold secL at this;rw [yn,yg] at this;omega
 obtain ⟨o1,v',o2⟩:=qxX hm hn (e := !(z16 name t)) (fun he=>by
  rcases hc with hc | hc
  ·exact hc.1
  ·rw [hc.2] at he; cases he) hv hlv
 refine ⟨n,v',?_,?_⟩
 ·rw [qsI (by rw [yP]; exact hk),List.getElem_map];unfold parOf;rw [hx,o2]
 ·rcases hc with hc | hc
  ·exact .inl hc
  ·exact .inr hc.1
end Go.Av
