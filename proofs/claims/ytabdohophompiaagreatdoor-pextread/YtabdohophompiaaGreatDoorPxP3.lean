import Derived.Test.YtabdohophompiaaGreatDoorPxP2
namespace Go.Av
set_option linter.unusedSimpArgs false
set_option linter.unusedVariables false
theorem qnI {f:Int→List UInt8} (h:∀ c,(f c).length≤4):∀ t:List Int,(t.flatMap f).length≤4*t.length
 | []=>by simp
 | c :: t=>by
  have h1:=qnI h t;have h2:=h c;rw [List.flatMap_cons,yn,yg];omega
theorem qiP (t:List Int):(z52 t).1.length≤t.length:=by
 unfold z52;cases z92 t != -1 <;> simp
theorem qkv (cs:Int) (t:List Int):(z44 cs t).1.length≤4*t.length:=by
 have h1:(z76 t).1.length≤4*t.length:=by
  unfold z76;have:=qnI qtN t;cases !(z49 t) with
  | true=>exact Nat.zero_le _
  | false=>exact this
 have h2:(z77 t).1.length≤4*t.length:=by
  unfold z77;cases t.all z106 <;> simp <;> omega
 have h3:(z78 t).1.length≤4*t.length:=by
  unfold z78;cases decide (0≤z114 t) <;> simp <;> omega
 have h4:(z52 t).1.length≤4*t.length:=by
  have:=qiP t;omega
 unfold z44;cases (z74 cs==0) <;> cases z75 cs t <;> cases (cs==(5:Int)) <;> cases (cs==(3:Int)) <;> cases (cs==(4:Int)) <;> first | exact Nat.zero_le _ | assumption
theorem qAg (s:List UInt8):(z45 s).length≤3*s.length:=by
 unfold z45;induction s with
 | nil=>simp
 | cons c r ih =>
  have:=qsm c;rw [List.flatMap_cons,yn,yg];omega
theorem qlz (cs c:Int):(unitL cs c).length≤12:=by
 unfold unitL;have h1:=qAg (z44 cs [c]).1;have h2:=qkv cs [c];simp only [yg,List.length_nil] at h2;omega
theorem qsy (s:List UInt8):(atomL s).length≤2*s.length+2:=by
 unfold atomL quoL;have:=qxT s;cases tokB s with
 | true=>simp only [yc]; omega
 | false=>simp only [yd,yn,yg,List.length_nil]; omega
theorem qsz (name:List UInt8) (t:List Int):(qek name t).length≤name.length+2*t.length+3:=by
 unfold qek;have h1:=qiP t;have h2:=qsy (z52 t).1;simp only [yn,yg];omega
theorem qAh:∀ (name0:List UInt8) (t1:List Int),(qks name0 t1=true)→∃ n,qBa n name0 t1=qty (z28 name0 t1).1 (z28 name0 t1).2:=fun name t h=>⟨0,by
 unfold qks at h;simp only [yf] at h;have hn:=qao h.1;have ht:=qao h.2;have h1:=qiP t;have h2:=qsy (z52 t).1;unfold qBa z28 qek room;rw [show qwt t=true from qy (by omega),show qoI t=true from qy (by omega),show qgt name=true from qy (by omega),show qwp (z52 t).1=true from qaV (by omega)];unfold z53 z54;cases z51 t with
 | false=>rfl
 | true =>
  simp only [yn,yg,List.length_nil];simp (disch:=omega) only [dT,yi,yc,yd,Bool.not_true,yl,List.singleton_append];rw [show (((name.length+(0+1)+(atomL (z52 t).1).length:Nat)):Int)=((name.length+((atomL (z52 t).1).length+1):Nat):Int) by omega];rw [show decide (((name.length+((atomL (z52 t).1).length+1):Nat):Int)≤74)=decide (name.length+((atomL (z52 t).1).length+1)≤74) from qzZ _ 74]⟩
theorem qAi:∀ (name0:List UInt8) (t1:List Int),(qiL name0 t1=true)→∃ n,qBj n name0 t1=qtE (z16 name0 t1):=fun name t h=>⟨0,by
 have h':=h;unfold qiL at h;simp only [yf] at h;have hn:=qao h.1;have ht:=qao h.2;unfold qBj z16;rw [show qiK name t=true from by unfold qiK; rw [qy (by omega),qy (by omega)]; rfl,show qks name t=true from h',show z27 name t=qcC name t from rfl];unfold bne;cases qcC name t==0 <;> rfl⟩
theorem qAj {α:Type} {t:List α} {i:Nat} (h:i < t.length) (d:α):List.drop i (List.take (i+1) t)=[t.getD i d]:=by
 rw [List.drop_take,qC (d:=d) h,show i+1 - i=1 by omega];rfl
theorem qAk {α β:Type} (f:α→β) (l:List α):l.flatMap (fun c=>[f c])=l.map f:=qlY f l
theorem qAl:∀ (charset0:Int) (t1:List Int),(qwu charset0 t1=true)→∃ n,qwX n charset0 t1=qyt (z23 charset0 t1):=fun cs t h=>⟨t.length+1,by
 have hl:=qao h;unfold qwX z23;have:=qdD (t:=t) (dv:=0) (f:=fun c=>[unitL cs c]) (b:=1) (M:=4000) (k0:=qeF (t.length+1)) (L:=fun n out i=>qlM (qeF (t.length+1)) n cs t out ((t.length:Nat):Int) i) (fun x _=>yv _) (fun n i out hi hb=>by
  show qeE _ _ n _ _ _ _ _=_;unfold qeE qaM room;rw [qm (i:=i) (by omega),tn,tn,qAj hi (0:Int)];have h2:=qkv cs [t.getD i 0];simp only [yg,List.length_nil] at h2 ⊢;rw [show quR cs [t.getD i 0]=true from rfl,show qwm (z44 cs [t.getD i 0]).1=true from qaV (by omega)];simp (disch:=omega) only [dT,yc,yi];rfl) (fun n out=>by
  show qeE _ _ n _ _ _ _ _=_;unfold qeE qaM;rw [dF (by omega)];rfl) t.length 0 (t.length+1) [] (by omega) (by omega) (by simp; omega)
 refine this.trans ?_;rw [yw,qAk];rfl⟩
theorem qAm:∀ (u0:List UInt8) (x1:Bool) (x2:List UInt8) (x3:List (List UInt8)) (x4:List UInt8) (x5:Int),(qpq u0 x1 x2 x3 x4 x5=true)→∃ n,qBg n u0 x1 x2 x3 x4 x5=qnY (z58 u0 x1 x2 x3 x4 x5).1 (z58 u0 x1 x2 x3 x4 x5).2.1 (z58 u0 x1 x2 x3 x4 x5).2.2.1 (z58 u0 x1 x2 x3 x4 x5).2.2.2.1 (z58 u0 x1 x2 x3 x4 x5).2.2.2.2:=fun u e now out name cs h=>⟨0,by
 unfold qpq at h;simp only [yf,ym] at h;obtain ⟨⟨h1,h2⟩,h3,h4⟩:=h;have hu:=qao h1;have hn:=qp h2;have hm:=qao h4;have hh:=qgy name ((out.length+1:Nat):Int) (z56 cs);have hc:=qcX cs;unfold qBg z58 putU room;have hwr:IntKind.wrap .i64 (((now.length:Nat):Int)+((u.length:Nat):Int))=((now.length+u.length:Nat):Int):=by rw [wr (by omega)]; omega
 rw [hwr,show decide ((74:Int) < ((now.length+u.length:Nat):Int))=decide (74 < now.length+u.length) from by
  by_cases hx:74 < now.length+u.length
  ·rw [dT hx,dT (by omega)]
  ·rw [dF hx,dF (by omega)]]
 unfold z29;simp only [yn,yg,List.length_nil,yE];rw [show qfr name ((out.length+1:Nat):Int) cs=true from by
  unfold qfr;rw [h4,dT (by omega)];rfl]
 cases e with
 | true =>
  simp (disch:=omega) only [dT,yc,yd,yi,Bool.not_true,Bool.false_and]
 | false =>
  simp only [Bool.not_false,yc,y3];cases decide (74 < now.length+u.length) with
  | true=>simp (disch:=omega) only [dT,yc,yd,yi]
  | false=>simp (disch:=omega) only [dT,yc,yd,yi]⟩
structure PutI (name cs:List UInt8) (i:Nat) (st:PutT):Prop where
 e:st.1=true→i=0
 n:st.2.2.length+(bif st.1 then 0 else 1)≤i
 l:st.2.1.length≤name.length+cs.length+100
 l0:st.1=true→st.2.1.length≤name.length+cs.length+7
theorem qsA {name cs:List UInt8} {i:Nat} {st:PutT} (h:PutI name cs i st) {u:List UInt8} (hu:u.length≤75) (hc:cs.length≤20):PutI name cs (i+1) (putU name cs st u):=by
 obtain ⟨e,now,out⟩:=st;obtain ⟨h1,h2,h3,h4⟩:=h;have hh:=qgy name ((out.length+1:Nat):Int) cs;simp only at h1 h2 h3 h4;unfold putU;simp only;cases hq : !e&&decide (74 < now.length+u.length) with
 | true =>
  simp only [yf,Bool.not_eq_true',ym] at hq;obtain ⟨rfl,hlt⟩:=hq;simp only [yd] at h2;refine ⟨(fun hf=>by cases hf),?_,?_,(fun hf=>by cases hf)⟩
  ·simp only [yc,yd,yn,yg,List.length_nil];omega
  ·simp only [yc,yn];omega
 | false =>
  refine ⟨(fun hf=>by cases hf),?_,?_,(fun hf=>by cases hf)⟩
  ·simp only [yd];cases e with
   | true=>have:=h1 rfl; simp only [yc] at h2; omega
   | false=>simp only [yd] at h2; omega
  ·simp only [yd,yn];cases e with
   | true=>have:=h4 rfl; omega
   | false =>
    simp only [Bool.not_false,y3,decide_eq_false_iff_not] at hq;omega
theorem qsB (name:List UInt8) (cs:Int) (l:List (List UInt8)) (hn:name.length≤1000) (hl:l.length≤100) (hu:∀ u∈l,u.length≤75) (k0:List (List UInt8)→List UInt8→Option AV):∀ (d i n:Nat) (st:PutT),i+d=l.length→d < n→PutI name (z56 cs) i st →
 qlP k0 n name cs st.2.2 st.2.1 st.1 l ((l.length:Nat):Int) (i:Int)=k0 ((l.drop i).foldl (putU name (z56 cs)) st).2.2 ((l.drop i).foldl (putU name (z56 cs)) st).2.1
 | d,i,0,st,hi,hd,_=>by omega
 | 0,i,n+1,st,hi,hd,_=>by
  show qeJ _ _ n _ _ _ _ _ _ _ _=_;unfold qeJ qai;rw [dF (by omega),yA (by omega)];rfl
 | d+1,i,n+1,st,hi,hd,h=>by
  show qeJ _ _ n _ _ _ _ _ _ _ _=_;unfold qeJ qai;have hlt:i < l.length:=by omega
  have hm:l.getD i []∈l:=by rw [yX,yO hlt]; exact List.getElem_mem hlt
  have hu':=hu _ hm;have hc:=qcX cs;have h2:=h.n;have h3:=h.l;rw [qC (d:=([]:List UInt8)) hlt,List.foldl_cons];simp (disch:=omega) only [dT,yc,yi,tn,qm];rw [show qpq (l.getD i []) st.1 st.2.1 st.2.2 name cs=true from by
   unfold qpq;rw [qaV (l:=l.getD i []) (by omega),qy (l:=st.2.1) (by omega),qaV (l:=name) (by omega),dT (show st.2.2.length < 99 by
    cases e:st.1 with
    | true =>
     have hi0:=h.e e;rw [e] at h2;simp only [yc] at h2;omega
    | false =>
     rw [e] at h2;simp only [yd] at h2;omega)]
   rfl]
  exact qsB name cs l hn hl hu k0 d (i+1) n (putU name (z56 cs) st (l.getD i [])) (by omega) (by omega) (qsA h hu' (by omega))
theorem qlA (name cs:List UInt8):∀ (l:List (List UInt8)) (st:PutT),(l.foldl (putU name cs) st).2.2.length≤st.2.2.length+l.length
 | [],st=>yv _
 | u :: l,st=>by
  have h1:=qlA name cs l (putU name cs st u);have h2:(putU name cs st u).2.2.length≤st.2.2.length+1:=by
   unfold putU;cases !st.1&&decide (74 < st.2.1.length+u.length) <;> simp
  rw [List.foldl_cons,yg];omega
theorem qiQ (name cs:List UInt8):PutI name cs 0 (true,(headL name 0 cs,[])) :=
 ⟨fun _=>rfl,yv _,(by have:=qgy name 0 cs; show (headL name 0 cs).length≤_; omega),fun _=>qgy name 0 cs⟩
theorem qAn:∀ (name0:List UInt8) (charset1:Int) (l2:List (List UInt8)),(qpr name0 charset1 l2=true)→∃ n,qxa n name0 charset1 l2=qyA (z31 name0 charset1 l2):=fun name cs l h=>⟨l.length+1,by
 unfold qpr at h;simp only [yf,ym,List.all_eq_true] at h;obtain ⟨h1,h2,h3⟩:=h;have hn:=qao h1;unfold qxa z31 numL;rw [show qfr name 0 cs=true from by unfold qfr; rw [h1]; rfl];have:=qsB name cs l hn h2 h3 (qeK (l.length+1)) l.length 0 (l.length+1) (true,(headL name 0 (z56 cs),[])) (by omega) (by omega) (qiQ _ _);refine Eq.trans (this:_) ?_;rw [yw];have ho:=qlA name (z56 cs) l (true,(headL name 0 (z56 cs),[]));unfold qeK room;simp only [yg,List.length_nil] at ho ⊢;rw [dT (by omega)];rfl⟩
theorem qnJ:∀ l:List (List UInt8),joinB [] l=l.flatten
 | []=>rfl
 | [a]=>by simp [joinB]
 | a :: b :: l=>by
  show a++[]++joinB [] (b :: l)=_;rw [qnJ (b :: l)];simp
theorem qhy:∀ l:List (List UInt8),(∀ u∈l,u.length≤75)→l.flatten.length≤75*l.length
 | [],_=>by simp
 | a :: l,h=>by
  have h1:=qhy l fun u hu=>h u (List.mem_cons_of_mem _ hu);have h2:=h a List.mem_cons_self;rw [List.flatten_cons,yn,yg];omega
theorem qnK (cs:Int) (t:List Int):∀ u∈z23 cs t,u.length≤75:=fun u hu=>by
 unfold z23 at hu;obtain ⟨c,_,rfl⟩:=List.mem_map.1 hu;have:=qlz cs c;omega
theorem qnL (cs:Int) (t:List Int):(z23 cs t).length=t.length:=yP _
theorem qkw {name:List UInt8} {t:List Int} (h:ok36 name t=true):name.length≤100∧t.length≤100:=by
 unfold ok36 at h;simpa using h
theorem qAo:∀ (name0:List UInt8) (t1:List Int),(qkt name0 t1=true)→∃ n,qBh n name0 t1=qhD (z13 name0 t1).1 (z13 name0 t1).2:=fun name t h=>⟨0,by
 obtain ⟨hn,ht⟩:=qkw h;have hun:=qnL (z22 t).1 t;have hu:=qnK (z22 t).1 t;have hfl:=qhy _ hu;have hh:=qgy name (-1) (z56 (z22 t).1);have hc:=qcX (z22 t).1;unfold qBh qfK z13 qB room;rw [show qiK name t=true from by unfold qiK; rw [qy (by omega),qy (by omega)]; rfl,
  show qks name t=true from by unfold qks; rw [qaV (by omega),qaV (by omega)]; rfl,
  show quG t=true from qy (by omega),show qwu (z22 t).1 t=true from qaV (by omega),
  show qfr name (-1) (z22 t).1=true from by unfold qfr; rw [qaV (by omega)]; rfl,
  show qoF (z23 (z22 t).1 t) []=true from by
   unfold qoF;rw [dT (by omega),List.all_eq_true.2 (fun u hx=>yo (hu u hx))];rfl,
  show qpr name (z22 t).1 (z23 (z22 t).1 t)=true from by
   unfold qpr;rw [qaV (by omega),dT (by omega),List.all_eq_true.2 (fun u hx=>yo (hu u hx))];rfl,
  show z30 (z23 (z22 t).1 t) []=(z23 (z22 t).1 t).flatten from qnJ _,
  show z27 name t=qcC name t from rfl,show z29 name (-1) (z22 t).1=headL name (-1) (z56 (z22 t).1) from rfl,
  show z31 name (z22 t).1 (z23 (z22 t).1 t)=numL name (z56 (z22 t).1) (z23 (z22 t).1 t) from rfl]
 rw [show decide (((List.length (headL name (-1) (z56 (z22 t).1)++(z23 (z22 t).1 t).flatten):Nat):Int)≤74)=decide ((headL name (-1) (z56 (z22 t).1)++(z23 (z22 t).1 t).flatten).length≤74) from qzZ _ 74,
  dT (show (headL name (-1) (z56 (z22 t).1)).length+(z23 (z22 t).1 t).flatten.length≤1073741824 by omega)]
 cases hq:qcC name t != 0 with
 | true=>rfl
 | false =>
  simp only [yi,yc,yd];cases hp:(z28 name t).2 with
  | true =>
   have hpl:(z28 name t).1=qek name t:=by
    unfold z28 at hp ⊢;cases hs:z51 t with
    | true=>rfl
    | false=>rw [hs] at hp; cases hp
   rw [hpl];rfl
  | false =>
   simp only [yd];cases (z22 t).2 != 0 with
   | true=>rfl
   | false =>
    simp only [yd];cases decide ((headL name (-1) (z56 (z22 t).1)++(z23 (z22 t).1 t).flatten).length≤74) <;> rfl⟩
end Go.Av
