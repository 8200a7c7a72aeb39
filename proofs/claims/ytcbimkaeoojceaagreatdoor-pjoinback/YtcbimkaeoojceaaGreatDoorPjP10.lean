import Derived.Test.YtcbimkaeoojceaaGreatDoorPjP9
namespace Go.Av
set_option linter.unusedSimpArgs false
set_option linter.unusedVariables false
def vOf (csn:LU) (k:Nat) (s:LU):LU:=(bif k==0 then csn++[39,39] else [])++s.flatMap oneC
def secV (name csn:LU) (k:Nat) (s:LU):LU:=secL name (k:Int) true (vOf csn k s)
def secs (name csn:LU):Nat→List LU→List LU
 | _,[]=>[]
 | a,s :: S=>secV name csn a s :: secs name csn (a+1) S
theorem qOq (c:UInt8):oneC c≠[]:=by
 unfold oneC;cases z77 c 256 <;> simp
theorem qpn (name csn:LU):∀ (S:List LU) (a:Nat) (s:LU),secs name csn a (S++[s])=secs name csn a S++[secV name csn (a+S.length) s]
 | [],a,s=>rfl
 | x :: S,a,s=>by
  show secV name csn a x :: secs name csn (a+1) (S++[s])=secV name csn a x :: (secs name csn (a+1) S++[secV name csn (a+(S.length+1)) s]);rw [qpn name csn S (a+1) s,show a+1+S.length=a+(S.length+1) by omega]
theorem qlr (name csn:LU):∀ (S:List LU) (a:Nat),(secs name csn a S).length=S.length
 | [],a=>rfl
 | x :: S,a=>by show (secs name csn (a+1) S).length+1=S.length+1; rw [qlr name csn S]
theorem qyO (name csn:LU):∀ (S:List LU) (a k:Nat) (x:LU),(secs name csn a S)[k]? = some x→∃ s,S[k]? = some s∧x=secV name csn (a+k) s
 | [],a,k,x,h=>by simp [secs] at h
 | s :: S,a,0,x,h=>by
  have h':secV name csn a s=x:=by simpa [secs] using h
  exact ⟨s,rfl,h'.symm⟩
 | s :: S,a,k+1,x,h=>by
  have h':(secs name csn (a+1) S)[k]? = some x:=by simpa [secs] using h
  obtain ⟨y,hy,hx⟩:=qyO name csn S (a+1) k x h';exact ⟨y,by simpa using hy,by rw [hx,show a+1+k=a+(k+1) by omega]⟩
structure NumV (name csn:LU) (done:LU) (cnt:Nat) (st:PutT):Prop where
 is:∃ (S:List LU) (s:LU),st.2.2=secs name csn 0 S∧(st.2.1=secV name csn S.length s∧(S.flatten++s=done∧(S.length≤cnt∧∀ x∈(S++[s]).tail,x≠[])))
theorem qID {name csn done:LU} {cnt:Nat} {st:PutT} (h:NumV name csn done cnt st) {o:LU} (ho:o≠[]):NumV name csn (done++o) (cnt+1) (putU name csn st (o.flatMap oneC)):=by
 obtain ⟨e,now,out⟩:=st;obtain ⟨S,s,h1,h2,h3,h4,h5⟩:=h;simp only at h1 h2;unfold putU;simp only;cases !e&&decide (74 < now.length+(o.flatMap oneC).length) with
 | true =>
  simp only [yc];refine ⟨S++[s],o,?_,?_,?_,by rw [yn]; simp; omega,?_⟩
  ·rw [qpn,h1,h2,yE]
  ·show headL name ((out.length+1:Nat):Int) csn++o.flatMap oneC=_;rw [h1,qlr,qEz name csn (by omega),qsJ,List.nil_append,yn,List.length_singleton];unfold secV vOf;rw [beq_eq_false_iff_ne.2 (by omega:S.length+1≠0)];rfl
  ·rw [List.flatten_append,List.flatten_singleton,h3]
  ·intro x hx;have:(S++[s]++[o]).tail=(S++[s]).tail++[o]:=List.tail_append_of_ne_nil (by simp);rw [this] at hx;rcases List.mem_append.1 hx with hx | hx
   ·exact h5 x hx
   ·rw [List.mem_singleton.1 hx]; exact ho
 | false =>
  simp only [yd];refine ⟨S,s++o,h1,?_,by rw [← yl,h3],by omega,?_⟩
  ·show now++o.flatMap oneC=_;rw [h2];unfold secV vOf;rw [qsJ,yl,List.flatMap_append]
  ·intro x hx;cases S with
   | nil=>simp at hx
   | cons y S =>
    simp only [List.cons_append,List.tail_cons] at hx h5;rcases List.mem_append.1 hx with hx | hx
    ·exact h5 x (List.mem_append.2 (.inl hx))
    ·rw [List.mem_singleton.1 hx];have:=h5 s (List.mem_append.2 (.inr (List.mem_singleton.2 rfl)));intro e;exact this (List.append_eq_nil_iff.1 e).1
theorem qsx {name csn:LU}:∀ (os:List LU) (done:LU) (cnt:Nat) (st:PutT),NumV name csn done cnt st→(∀ o∈os,o≠[]) →
 NumV name csn (done++os.flatten) (cnt+os.length) ((os.map fun o=>o.flatMap oneC).foldl (putU name csn) st)
 | [],done,cnt,st,h,_=>by rw [List.flatten_nil,yG]; exact h
 | o :: os,done,cnt,st,h,ho=>by
  rw [yI,List.foldl_cons,List.flatten_cons,← yl,yg,show cnt+(os.length+1)=cnt+1+os.length by omega];exact qsx os _ _ _ (qID h (ho o List.mem_cons_self)) fun x hx=>ho x (List.mem_cons_of_mem _ hx)
theorem qIE (name csn:LU) (os:List LU) (ho:∀ o∈os,o≠[]) (hl:os.length≤100) :
 ∃ T:List LU,numL name csn (os.map fun o=>o.flatMap oneC)=secs name csn 0 T∧(T.flatten=os.flatten∧(0 < T.length∧(T.length≤100∧∀ x∈T.tail,x≠[]))):=by
 have hfin:∀ (done:LU) (cnt:Nat) (st:PutT),NumV name csn done cnt st→cnt≤99→∃ T:List LU,st.2.2++[st.2.1]=secs name csn 0 T∧(T.flatten=done∧(0 < T.length∧(T.length≤100∧∀ x∈T.tail,x≠[]))):=fun done cnt st h hc=>by
  obtain ⟨S,s,h1,h2,h3,h4,h5⟩:=h;refine ⟨S++[s],by rw [qpn,h1,h2,yE],by rw [List.flatten_append,List.flatten_singleton,h3],by rw [yn]; simp,by rw [yn]; simp; omega,h5⟩
 have h0:∀ e,NumV name csn [] 0 (e,(headL name 0 csn,[])):=fun e=>⟨[],[],rfl,by
  show headL name 0 csn=secL name ((0:Nat):Int) true ((csn++[39,39])++[]);rw [qpr name csn (by omega),yG];rfl,rfl,yv _,by simp⟩
 unfold numL;cases os with
 | nil=>exact hfin [] 0 _ (h0 true) (by omega)
 | cons o os =>
  rw [yg] at hl;rw [yI,List.foldl_cons];have h1:NumV name csn o 0 (putU name csn (true,(headL name 0 csn,[])) (o.flatMap oneC)):=by
   have e:putU name csn (true,(headL name 0 csn,[])) (o.flatMap oneC)=(false,(headL name 0 csn++o.flatMap oneC,[])):=rfl;rw [e];refine ⟨[],o,rfl,?_,rfl,yv _,by simp⟩;show headL name 0 csn++o.flatMap oneC=secL name ((0:Nat):Int) true ((csn++[39,39])++o.flatMap oneC);rw [qpr name csn (by omega),qsJ];rfl
  have h2:=qsx os o 0 _ h1 fun x hx=>ho x (List.mem_cons_of_mem _ hx);rw [List.flatten_cons];exact hfin _ _ _ h2 (by omega)
def vsOf (csn:LU) (T:List LU):List LU:=match T with
 | []=>[]
 | s :: S=>((csn++[39,39])++s.flatMap oneC) :: S.map fun s=>s.flatMap oneC
theorem qGl (csn:LU) (T:List LU) (k:Nat) (s:LU) (h:T[k]? = some s):(vsOf csn T).getD k []=vOf csn k s:=by
 cases T with
 | nil=>simp at h
 | cons x S =>
  cases k with
  | zero =>
   simp only [y3,ya] at h;subst h;rfl
  | succ k =>
   simp only [yZ] at h;show (S.map fun s=>s.flatMap oneC).getD k []=_;rw [yY,List.getElem?_map,h];unfold vOf;rw [beq_eq_false_iff_ne.2 (Nat.succ_ne_zero k)];rfl
theorem qcE (csn:LU) (T:List LU):(vsOf csn T).length=T.length:=by
 cases T with
 | nil=>rfl
 | cons x S=>simp [vsOf]
theorem qnx (F:LU) (vs:List LU):(qan F vs).map (fun p=>p.2.2.2.1)=vs:=by
 apply List.ext_getElem?
 intro k;rw [List.getElem?_map]
 by_cases h:k < vs.length
 ·rw [qjL F vs h,yO h];simp only [yU];rw [qeU h]
 ·rw [yW (by rw [qbc]; omega),yW (by omega)];rfl
theorem qyP:∀ l:List qi,(∀ p∈l,p.2.2.1=true)→l.flatMap qcr=(l.map fun p=>p.2.2.2.1).flatMap z68
 | [],_=>rfl
 | p :: l,h=>by
  rw [List.flatMap_cons,yI,List.flatMap_cons,qyP l fun q hq=>h q (List.mem_cons_of_mem _ hq)];unfold qcr;rw [h p List.mem_cons_self];rfl
theorem qsy:∀ S:List LU,(S.map fun s=>s.flatMap oneC).flatMap z68=S.flatten
 | []=>rfl
 | s :: S=>by rw [yI,List.flatMap_cons,qpt,qsy S]; rfl
theorem qny {cs:Int} (hcs:1≤cs∧cs≤5) (F:LU) (T:List LU) (h0:0 < T.length):z30 (qan F (vsOf (qe cs) T))=z50 cs T.flatten:=by
 have hv:=qnx F (vsOf (qe cs) T);have he:∀ p∈qan F (vsOf (qe cs) T),p.2.2.1=true:=fun p hp=>by
  obtain ⟨k,_,rfl⟩:=List.mem_map.1 hp;rfl
 cases T with
 | nil=>exact absurd h0 (by decide)
 | cons s S =>
  cases e:qan F (vsOf (qe cs) (s :: S)) with
  | nil=>rw [e] at hv; cases hv
  | cons p r =>
   rw [e,yI] at hv;rw [e] at he;obtain ⟨h1,h2⟩:=List.cons.inj hv;have hp:=he p List.mem_cons_self;have hh:=qGw cs (s.flatMap oneC);show (bif p.2.2.1 then z50 (csP p) (octsP (p :: r)) else z51 (octsP (p :: r)))=_;rw [hp,yc];have hc:csP p=cs:=by
    unfold csP;rw [hp,h1,hh,qiD cs hcs];rfl
   have ho:octsP (p :: r)=(s :: S).flatten:=by
    show qyF p++r.flatMap qcr=_;unfold qyF;rw [hp,h1,hh,yc,qyP r fun q hq=>he q (List.mem_cons_of_mem _ hq),h2,qsy,List.flatten_cons];show z68 (s.flatMap oneC)++_=_;rw [qpt]
   rw [hc,ho]
structure BackG (name:LU) (t:LI) (ps:List qi):Prop where
 names:∀ p∈ps,p.1=z28 name∧(-1≤p.2.1∧p.2.1 < 1000)
 vals:∀ p∈ps,p.2.2.2.1.length≤1000
 len:ps.length≤101
 join:z14 ps=[(z28 name,(t,()))]
theorem qGm (name:LU) (n:Int) (e:Bool) (v:LU):v.length≤(secL name n e v).length:=by
 unfold secL;rw [yn,yg]; omega
theorem qRD (x:LU):x.length≤(quoL x).length:=by
 have:∀ x:LU,x.length≤(x.flatMap quoC).length:=fun x=>by
  induction x with
  | nil=>simp
  | cons c x ih =>
   have h1:1≤(quoC c).length:=by unfold quoC; cases (c==34)||(c==92) <;> simp
   rw [List.flatMap_cons,yn,yg];omega
 have:=this x;unfold quoL;rw [yg,yn]; omega
theorem qyQ {name:LU} {t:LI} {n:Int} {e:Bool} {v y:LU} (hn:n = -1) (hl:(secL name n e v).length≤1000) (hv:(tokV v∧y=v)∨v=quoL y)
 (ht:z30 [(z28 name,(n,(e,(y,()))))]=t):BackG name t [(z28 name,(n,(e,(y,()))))]:=by
 subst hn;have hyl:y.length≤v.length:=by
  rcases hv with ⟨_,rfl⟩ | rfl
  ·exact yv _
  ·exact qRD y
 have h1:=qGm name (-1) e v;have hF:=qsE name;have hu:usedP [(z28 name,((-1:Int),(e,(y,()))))] (z28 name)=[0]:=by
  have hs:=qsK (z28 name);unfold usedP;cases e with
  | true =>
   rw [show qu (z28 name) extP [(z28 name,((-1:Int),(true,(y,()))))]=some 0 from by unfold qu; rw [hs]; rfl];rfl
  | false =>
   rw [show qu (z28 name) extP [(z28 name,((-1:Int),(false,(y,()))))]=none from by unfold qu; rw [hs]; rfl,
    show numsP [(z28 name,((-1:Int),(false,(y,()))))] (z28 name) 1001 0=[] from by
     unfold numsP;rw [show qu (z28 name) (numP 0) [(z28 name,((-1:Int),(false,(y,()))))]=none from by unfold qu; rw [hs]; rfl],
    show qu (z28 name) qaX [(z28 name,((-1:Int),(false,(y,()))))]=some 0 from by unfold qu; rw [hs]; rfl]
   rfl
 refine ⟨fun p hp=>?_,fun p hp=>?_,by simp,?_⟩
 ·rw [List.mem_singleton.1 hp]; exact ⟨rfl,by simp⟩
 ·rw [List.mem_singleton.1 hp]; show y.length≤_; omega
 ·rw [qzg hF (fun p hp=>by rw [List.mem_singleton.1 hp]) (by simp) (by rw [hu]; simp),hu];show [(z28 name,(z30 [(z28 name,((-1:Int),(e,(y,()))))],()))]=_;rw [ht]
theorem qIF (name:LU) (t:LI) (hok:ok36 name t=true) (hi:i32s t=true) (h0:(qcx name t).2=0):BackG name t (z15 (textL (qcx name t).1)):=by
 obtain ⟨hnl,htl⟩:=qAI hok;obtain ⟨k1,k2⟩:=qqc hok;revert h0 k1 k2;unfold qcx;cases hq:qet name t != 0 with
 | true=>intro h0 _ _; simp only [yc] at h0; rw [h0] at hq; cases hq
 | false =>
  have hq0:qet name t=0:=by
   unfold bne at hq;simpa using hq
  have hm:mayN name=true:=by
   have h1:=hq0;unfold qet at h1;cases hm:mayN name with
   | false=>rw [hm] at h1; cases h1
   | true=>rfl
  cases hp:(qbP name t).2 with
  | true =>
   intro _ k1 k2;simp only [yd,yc] at k1 k2 ⊢;have hpl:qai t=true:=by
    unfold qbP at hp;cases e:qai t with
    | true=>rfl
    | false=>rw [e] at hp; cases hp
   have hx:qdT name t=secL name (-1) false (atomL (qA t).1):=by
    unfold qdT secL nameL;simp
   have hv:(tokV (atomL (qA t).1)∧(qA t).1=atomL (qA t).1)∨atomL (qA t).1=quoL (qA t).1:=by
    unfold atomL;cases htk:tokB (qA t).1 with
    | true =>
     unfold tokB at htk;simp only [yf,Bool.not_eq_true'] at htk;exact .inl ⟨⟨fun e=>absurd htk.1 (by rw [show (qA t).1=[] from e]; decide),htk.2⟩,rfl⟩
    | false=>exact .inr rfl
   have hl:=k2 _ (List.mem_singleton.2 rfl);rw [hx] at hl;have hr:=qiC hm [qdT name t] [(z28 name,(-1,(false,((qA t).1,()))))] k2 (fun k x hk=>by
    cases k with
    | zero =>
     simp only [y3,ya] at hk;exact ⟨_,rfl,⟨-1,false,_,_,by rw [← hk,hx],rfl,.inl rfl,fun _=>rfl,hv⟩⟩
    | succ k=>simp at hk) rfl
   rw [hr];refine qyQ rfl hl hv ?_;show z51 ((qA t).1++[])=t;rw [yG];exact qvd hpl
  | false =>
   cases hs:(qc t).2 != 0 with
   | true=>intro h0 _ _; simp only [yc,yd] at h0; rw [h0] at hs; cases hs
   | false =>
    have hs0:(qc t).2=0:=by
     unfold bne at hs;simpa using hs
    obtain ⟨hcs,hback,hun,hnc⟩:=qJo hi hs0;generalize qc t=R at *
    have hct:=qJe R.1;simp only [yd];rw [hun];have hfu:=qnC R.1 t;cases hw:decide ((headL name (-1) (qe R.1)++(t.map fun c=>(z62 R.1 c).flatMap oneC).flatten).length≤74) with
    | true =>
     intro _ k1 k2;simp only [yc] at k1 k2 ⊢;rw [hfu] at k2 ⊢;have hx:headL name (-1) (qe R.1)++(t.flatMap (z62 R.1)).flatMap oneC=secL name (-1) true ((qe R.1++[39,39])++(t.flatMap (z62 R.1)).flatMap oneC):=by
      rw [qpr name _ (by omega),qsJ]
     have hv:tokV ((qe R.1++[39,39])++(t.flatMap (z62 R.1)).flatMap oneC):=qzc (qGv hct) (qsH qJd _);have hl:=k2 _ (List.mem_singleton.2 rfl);rw [hx] at hl;have hr:=qiC hm [headL name (-1) (qe R.1)++(t.flatMap (z62 R.1)).flatMap oneC] [(z28 name,(-1,(true,((qe R.1++[39,39])++(t.flatMap (z62 R.1)).flatMap oneC,()))))] k2 (fun k x hk=>by
      cases k with
      | zero =>
       simp only [y3,ya] at hk;exact ⟨_,rfl,⟨-1,true,_,_,by rw [← hk,hx],rfl,.inl rfl,fun h=>(by cases h),.inl ⟨hv,rfl⟩⟩⟩
      | succ k=>simp at hk) rfl
     rw [hr];refine qyQ rfl hl (.inl ⟨hv,rfl⟩) ?_;have hh:=qGw R.1 ((t.flatMap (z62 R.1)).flatMap oneC);show z50 (csP _) (qyF _++[])=t;unfold csP qyF;simp only [hh,qiD R.1 hcs,yG,qpt,yc];exact hback
    | false =>
     intro _ k1 k2;simp only [yd] at k1 k2 ⊢;have ho:∀ o∈t.map (z62 R.1),o≠[]:=fun o hom=>by
      obtain ⟨c,hc,rfl⟩:=List.mem_map.1 hom;exact hnc c hc
     obtain ⟨T,hT,hfl,hp0,hp1,hne⟩:=qIE name (qe R.1) (t.map (z62 R.1)) ho (by rw [yP]; omega);rw [List.map_map] at hT;have hT':numL name (qe R.1) (t.map fun c=>(z62 R.1 c).flatMap oneC)=secs name (qe R.1) 0 T:=hT;rw [hT'] at k1 k2 ⊢;have hvt:∀ (k:Nat) s,T[k]? = some s→tokV (vOf (qe R.1) k s):=fun k s hk=>by
      unfold vOf;cases k with
      | zero=>exact qzc (qGv hct) (qsH qJd _)
      | succ k =>
       rw [beq_eq_false_iff_ne.2 (Nat.succ_ne_zero k),yd,List.nil_append];have hs:s∈T.tail:=by
        cases T with
        | nil=>simp at hk
        | cons x T=>simp only [yZ] at hk; exact List.mem_of_getElem? hk
       refine ⟨fun e=>?_,qsH qJd _⟩;cases s with
       | nil=>exact hne _ hs rfl
       | cons c s =>
        rw [List.flatMap_cons] at e;have:=(List.append_eq_nil_iff.1 e).1;exact qOq c this
     have hr:=qiC hm (secs name (qe R.1) 0 T) (qan (z28 name) (vsOf (qe R.1) T)) k2 (fun k x hk=>by
      obtain ⟨s,hs,hx⟩:=qyO name (qe R.1) T 0 k x hk;have hkl:=(List.getElem?_eq_some_iff.1 hs).1;rw [yE] at hx;refine ⟨_,qjL _ _ (by rw [qcE]; exact hkl),⟨(k:Int),true,vOf (qe R.1) k s,_,hx,rfl,.inr ⟨by omega,by omega⟩,fun h=>(by cases h),.inl ⟨hvt k s hs,qGl _ _ _ _ hs⟩⟩⟩) (by rw [qbc,qcE,qlr])
     rw [hr];have hF:=qsE name;have hul:=qnE (z28 name) (vsOf (qe R.1) T) (by rw [qcE]; exact hp0) (by rw [qcE]; omega);have hpos:qan (z28 name) (vsOf (qe R.1) T)≠[]:=fun e=>by
      have:=congrArg List.length e;rw [qbc,qcE,List.length_nil] at this;omega
     refine ⟨fun p hp=>?_,fun p hp=>?_,by rw [qbc,qcE]; omega,?_⟩
     ·obtain ⟨k,hk,rfl⟩:=List.mem_map.1 hp;rw [List.mem_range,qcE] at hk;exact ⟨rfl,by show -1≤(k:Int)∧(k:Int) < 1000; omega⟩
     ·obtain ⟨k,hk,rfl⟩:=List.mem_map.1 hp;rw [List.mem_range,qcE] at hk;have hs:T[k]? = some T[k]:=yO hk;show ((vsOf (qe R.1) T).getD k []).length≤1000;rw [qGl _ _ _ _ hs];obtain ⟨x,hx⟩:∃ x,(secs name (qe R.1) 0 T)[k]? = some x:=⟨_,yO (by rw [qlr]; exact hk)⟩;obtain ⟨s,hs',hxe⟩:=qyO name (qe R.1) T 0 k x hx;rw [hs] at hs';cases hs';have:=k2 x (List.mem_of_getElem? hx);rw [hxe,yE] at this;have h3:=qGm name (k:Int) true (vOf (qe R.1) k T[k]);unfold secV at this;omega
     ·have hj:=qzg hF (l:=qan (z28 name) (vsOf (qe R.1) T)) (fun p hp=>by obtain ⟨k,_,rfl⟩:=List.mem_map.1 hp; rfl) hpos (by
       rw [hul];intro e;have:=congrArg List.length e;rw [yP,List.length_range,qbc,qcE,List.length_nil] at this;omega)
      rw [hj,hul,qJq,qny hcs _ _ hp0,hfl];rw [show (t.map (z62 R.1)).flatten=t.flatMap (z62 R.1) from rfl,hback]
theorem qRE (s:LU):z9 s=z28 s:=rfl
theorem qOr:∀ (name0:LU) (t1:LI),(z3_ok name0 t1=true)→∃ n,z3_sh n name0 t1=qnX (z3 name0 t1):=fun name t h=>⟨0,by
 have hi:i32s t=true:=h;unfold z3_sh qjd
 by_cases h1:(100:Int) < ((name.length:Nat):Int)
 ·rw [dT h1]; rfl
 ·rw [dF h1]
  by_cases h2:(100:Int) < ((t.length:Nat):Int)
  ·rw [dT h2]; rfl
  ·rw [dF h2];have hok:ok36 name t=true:=by unfold ok36; rw [dT (by omega),dT (by omega)]; rfl
   rw [show z6_ok name t=true from by unfold z6_ok; rw [hok,hi]; rfl,show (z6 name t).2=(qcx name t).2 from rfl,show (z6 name t).1=textL (qcx name t).1 from rfl];simp only [yi,yc,yd];cases e:(qcx name t).2 != 0 with
   | true=>rfl
   | false =>
    have h0:(qcx name t).2=0:=by
     unfold bne at e;simpa using e
    obtain ⟨b1,b2,b3,b4⟩:=qIF name t hok hi h0;obtain ⟨k1,k2⟩:=qqc hok;have k3:=qJg _ k2;have hro:z7_ok (textL (qcx name t).1)=true:=by
     unfold z7_ok qpk psOk;have hf:(z28 name).length=name.length:=by unfold z28; rw [yP]
     rw [qn (by omega),dT (by omega),dT (by omega),List.all_eq_true.2 fun p hp=>?_,List.all_eq_true.2 fun p hp=>?_]
     ·rfl
     ·exact dT (b2 p hp)
     ·obtain ⟨j1,j2⟩:=b1 p hp;have:=b2 p hp;rw [j1,qn (by omega),qn (by omega),dT j2];rfl
    rw [hro,show z7 (textL (qcx name t).1)=[(z28 name,(t,()))] from b4,qRE];simp only [yc,yd];have hfo:z9_ok name=true:=qn (by omega);have hl1:z8_ok (z28 name) (z28 name)=true:=qn (by unfold z28; rw [yP]; omega);have hl2:z8 (z28 name) (z28 name)=true:=dT rfl;have hl3:quc t t=true:=qn (by omega);have hl4:z10 t t=true:=dT rfl;rw [show List.getD [(z28 name,(t,()))] (Int.toNat 0) (([]:LU),(([]:LI),()))=(z28 name,(t,())) from rfl];simp only [hfo,hl1,hl2,hl3,hl4];rfl⟩
end Go.Av
