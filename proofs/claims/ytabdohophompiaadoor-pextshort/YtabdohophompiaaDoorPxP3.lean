import Derived.Test.YtabdohophompiaaDoorPxP2
namespace Go.Av
set_option linter.unusedSimpArgs false
set_option linter.unusedVariables false
theorem qkq {f:Int→List UInt8} (h:∀ c,(f c).length≤4):∀ t:List Int,(t.flatMap f).length≤4*t.length
 | []=>by simp
 | c :: t=>by
  have h1:=qkq h t;have h2:=h c;rw [List.flatMap_cons,yn,yg];omega
theorem qgL (t:List Int):(z18 t).1.length≤t.length:=by
 unfold z18;cases z34 t != -1 <;> simp
theorem qhU (cs:Int) (t:List Int):(z23 cs t).1.length≤4*t.length:=by
 have h1:(z41 t).1.length≤4*t.length:=by
  unfold z41;have:=qkq qoA t;cases !(z15 t) with
  | true=>exact Nat.zero_le _
  | false=>exact this
 have h2:(z42 t).1.length≤4*t.length:=by
  unfold z42;cases t.all z53 <;> simp <;> omega
 have h3:(z43 t).1.length≤4*t.length:=by
  unfold z43;cases decide (0≤z60 t) <;> simp <;> omega
 have h4:(z18 t).1.length≤4*t.length:=by
  have:=qgL t;omega
 unfold z23;cases (z39 cs==0) <;> cases z40 cs t <;> cases (cs==(5:Int)) <;> cases (cs==(3:Int)) <;> cases (cs==(4:Int)) <;> first | exact Nat.zero_le _ | assumption
theorem qtT (s:List UInt8):(z24 s).length≤3*s.length:=by
 unfold z24;induction s with
 | nil=>simp
 | cons c r ih =>
  have:=qnO c;rw [List.flatMap_cons,yn,yg];omega
theorem qnQ (cs c:Int):(unitL cs c).length≤12:=by
 unfold unitL;have h1:=qtT (z23 cs [c]).1;have h2:=qhU cs [c];simp only [yg,List.length_nil] at h2;omega
theorem qnR (s:List UInt8):(atomL s).length≤2*s.length+2:=by
 unfold atomL quoL;have:=qrK s;cases tokB s with
 | true=>simp only [yc]; omega
 | false=>simp only [yd,yn,yg,List.length_nil]; omega
theorem qnS (name:List UInt8) (t:List Int):(qed name t).length≤name.length+2*t.length+3:=by
 unfold qed;have h1:=qgL t;have h2:=qnR (z18 t).1;simp only [yn,yg];omega
theorem qwB:∀ (name0:List UInt8) (t1:List Int),(z8_ok name0 t1=true)→∃ n,z8_sh n name0 t1=qur (z8 name0 t1).1 (z8 name0 t1).2:=fun name t h=>⟨0,by
 unfold z8_ok at h;simp only [yf] at h;have hn:=qao h.1;have ht:=qao h.2;have h1:=qgL t;have h2:=qnR (z18 t).1;unfold z8_sh z8 qed room;rw [show qrk t=true from qap (by omega),show qld t=true from qap (by omega),show qeY name=true from qap (by omega),show qrf (z18 t).1=true from qbe (by omega)];unfold z19 z20;cases z17 t with
 | false=>rfl
 | true =>
  simp only [yn,yg,List.length_nil];simp (disch:=omega) only [dT,yi,yc,yd,Bool.not_true,yl,List.singleton_append];rw [show (((name.length+(0+1)+(atomL (z18 t).1).length:Nat)):Int)=((name.length+((atomL (z18 t).1).length+1):Nat):Int) by omega];rw [show decide (((name.length+((atomL (z18 t).1).length+1):Nat):Int)≤74)=decide (name.length+((atomL (z18 t).1).length+1)≤74) from qtN _ 74]⟩
theorem qtU {α:Type} {t:List α} {i:Nat} (h:i < t.length) (d:α):List.drop i (List.take (i+1) t)=[t.getD i d]:=by
 rw [List.drop_take,qat (d:=d) h,show i+1 - i=1 by omega];rfl
theorem qtV {α β:Type} (f:α→β) (l:List α):l.flatMap (fun c=>[f c])=l.map f:=qox f l
theorem qtW:∀ (charset0:Int) (t1:List Int),(qrl charset0 t1=true)→∃ n,qrA n charset0 t1=qso (z10 charset0 t1):=fun cs t h=>⟨t.length+1,by
 have hl:=qao h;unfold qrA z10;have:=qcL (t:=t) (dv:=0) (f:=fun c=>[unitL cs c]) (b:=1) (M:=4000) (k0:=qdC (t.length+1)) (L:=fun n out i=>qiU (qdC (t.length+1)) n cs t out ((t.length:Nat):Int) i) (fun x _=>yv _) (fun n i out hi hb=>by
  show qdB _ _ n _ _ _ _ _=_;unfold qdB qaz room;rw [qE (i:=i) (by omega),tn,tn,qtU hi (0:Int)];have h2:=qhU cs [t.getD i 0];simp only [yg,List.length_nil] at h2 ⊢;rw [show qpE cs [t.getD i 0]=true from rfl,show qrc (z23 cs [t.getD i 0]).1=true from qbe (by omega)];simp (disch:=omega) only [dT,yc,yi];rfl) (fun n out=>by
  show qdB _ _ n _ _ _ _ _=_;unfold qdB qaz;rw [dF (by omega)];rfl) t.length 0 (t.length+1) [] (by omega) (by omega) (by simp; omega)
 refine this.trans ?_;rw [yw,qtV];rfl⟩
theorem qtX:∀ (u0:List UInt8) (x1:Bool) (x2:List UInt8) (x3:List (List UInt8)) (x4:List UInt8) (x5:Int),(qlx u0 x1 x2 x3 x4 x5=true)→∃ n,quP n u0 x1 x2 x3 x4 x5=qkx (z28 u0 x1 x2 x3 x4 x5).1 (z28 u0 x1 x2 x3 x4 x5).2.1 (z28 u0 x1 x2 x3 x4 x5).2.2.1 (z28 u0 x1 x2 x3 x4 x5).2.2.2.1 (z28 u0 x1 x2 x3 x4 x5).2.2.2.2:=fun u e now out name cs h=>⟨0,by
 unfold qlx at h;simp only [yf,ym] at h;obtain ⟨⟨h1,h2⟩,h3,h4⟩:=h;have hu:=qao h1;have hn:=qJ h2;have hm:=qao h4;have hh:=qfd name ((out.length+1:Nat):Int) (z26 cs);have hc:=qdH cs;unfold quP z28 putU room;have hwr:IntKind.wrap .i64 (((now.length:Nat):Int)+((u.length:Nat):Int))=((now.length+u.length:Nat):Int):=by rw [wr (by omega)]; omega
 rw [hwr,show decide ((74:Int) < ((now.length+u.length:Nat):Int))=decide (74 < now.length+u.length) from by
  by_cases hx:74 < now.length+u.length
  ·rw [dT hx,dT (by omega)]
  ·rw [dF hx,dF (by omega)]]
 unfold z11;simp only [yn,yg,List.length_nil,yC];rw [show qec name ((out.length+1:Nat):Int) cs=true from by
  unfold qec;rw [h4,dT (by omega)];rfl]
 cases e with
 | true =>
  simp (disch:=omega) only [dT,yc,yd,yi,Bool.not_true,Bool.false_and]
 | false =>
  simp only [Bool.not_false,yc,Bool.true_and];cases decide (74 < now.length+u.length) with
  | true=>simp (disch:=omega) only [dT,yc,yd,yi]
  | false=>simp (disch:=omega) only [dT,yc,yd,yi]⟩
structure PutI (name cs:List UInt8) (i:Nat) (st:PutT):Prop where
 e:st.1=true→i=0
 n:st.2.2.length+(bif st.1 then 0 else 1)≤i
 l:st.2.1.length≤name.length+cs.length+100
 l0:st.1=true→st.2.1.length≤name.length+cs.length+7
theorem qnT {name cs:List UInt8} {i:Nat} {st:PutT} (h:PutI name cs i st) {u:List UInt8} (hu:u.length≤75) (hc:cs.length≤20):PutI name cs (i+1) (putU name cs st u):=by
 obtain ⟨e,now,out⟩:=st;obtain ⟨h1,h2,h3,h4⟩:=h;have hh:=qfd name ((out.length+1:Nat):Int) cs;simp only at h1 h2 h3 h4;unfold putU;simp only;cases hq : !e&&decide (74 < now.length+u.length) with
 | true =>
  simp only [yf,Bool.not_eq_true',ym] at hq;obtain ⟨rfl,hlt⟩:=hq;simp only [yd] at h2;refine ⟨(fun hf=>by cases hf),?_,?_,(fun hf=>by cases hf)⟩
  ·simp only [yc,yd,yn,yg,List.length_nil];omega
  ·simp only [yc,yn];omega
 | false =>
  refine ⟨(fun hf=>by cases hf),?_,?_,(fun hf=>by cases hf)⟩
  ·simp only [yd];cases e with
   | true=>have:=h1 rfl; simp only [yc] at h2; omega
   | false=>simp only [yd] at h2; omega
  ·simp only [yd,yn];cases e with
   | true=>have:=h4 rfl; omega
   | false =>
    simp only [Bool.not_false,Bool.true_and,decide_eq_false_iff_not] at hq;omega
theorem qnU (name:List UInt8) (cs:Int) (l:List (List UInt8)) (hn:name.length≤1000) (hl:l.length≤100) (hu:∀ u∈l,u.length≤75) (k0:List (List UInt8)→List UInt8→Option AV):∀ (d i n:Nat) (st:PutT),i+d=l.length→d < n→PutI name (z26 cs) i st →
 qiV k0 n name cs st.2.2 st.2.1 st.1 l ((l.length:Nat):Int) (i:Int)=k0 ((l.drop i).foldl (putU name (z26 cs)) st).2.2 ((l.drop i).foldl (putU name (z26 cs)) st).2.1
 | d,i,0,st,hi,hd,_=>by omega
 | 0,i,n+1,st,hi,hd,_=>by
  show qdD _ _ n _ _ _ _ _ _ _ _=_;unfold qdD qZ;rw [dF (by omega),yz (by omega)];rfl
 | d+1,i,n+1,st,hi,hd,h=>by
  show qdD _ _ n _ _ _ _ _ _ _ _=_;unfold qdD qZ;have hlt:i < l.length:=by omega
  have hm:l.getD i []∈l:=by rw [yV,yM hlt]; exact List.getElem_mem hlt
  have hu':=hu _ hm;have hc:=qdH cs;have h2:=h.n;have h3:=h.l;rw [qat (d:=([]:List UInt8)) hlt,List.foldl_cons];simp (disch:=omega) only [dT,yc,yi,tn,qE];rw [show qlx (l.getD i []) st.1 st.2.1 st.2.2 name cs=true from by
   unfold qlx;rw [qbe (l:=l.getD i []) (by omega),qap (l:=st.2.1) (by omega),qbe (l:=name) (by omega),dT (show st.2.2.length < 99 by
    cases e:st.1 with
    | true =>
     have hi0:=h.e e;rw [e] at h2;simp only [yc] at h2;omega
    | false =>
     rw [e] at h2;simp only [yd] at h2;omega)]
   rfl]
  exact qnU name cs l hn hl hu k0 d (i+1) n (putU name (z26 cs) st (l.getD i [])) (by omega) (by omega) (qnT h hu' (by omega))
theorem qiJ (name cs:List UInt8):∀ (l:List (List UInt8)) (st:PutT),(l.foldl (putU name cs) st).2.2.length≤st.2.2.length+l.length
 | [],st=>yv _
 | u :: l,st=>by
  have h1:=qiJ name cs l (putU name cs st u);have h2:(putU name cs st u).2.2.length≤st.2.2.length+1:=by
   unfold putU;cases !st.1&&decide (74 < st.2.1.length+u.length) <;> simp
  rw [List.foldl_cons,yg];omega
theorem qgM (name cs:List UInt8):PutI name cs 0 (true,(headL name 0 cs,[])) :=
 ⟨fun _=>rfl,yv _,(by have:=qfd name 0 cs; show (headL name 0 cs).length≤_; omega),fun _=>qfd name 0 cs⟩
theorem qtY:∀ (name0:List UInt8) (charset1:Int) (l2:List (List UInt8)),(qly name0 charset1 l2=true)→∃ n,qrB n name0 charset1 l2=qsr (z13 name0 charset1 l2):=fun name cs l h=>⟨l.length+1,by
 unfold qly at h;simp only [yf,ym,List.all_eq_true] at h;obtain ⟨h1,h2,h3⟩:=h;have hn:=qao h1;unfold qrB z13 numL;rw [show qec name 0 cs=true from by unfold qec; rw [h1]; rfl];have:=qnU name cs l hn h2 h3 (qdE (l.length+1)) l.length 0 (l.length+1) (true,(headL name 0 (z26 cs),[])) (by omega) (by omega) (qgM _ _);refine Eq.trans (this:_) ?_;rw [yw];have ho:=qiJ name (z26 cs) l (true,(headL name 0 (z26 cs),[]));unfold qdE room;simp only [yg,List.length_nil] at ho ⊢;rw [dT (by omega)];rfl⟩
theorem qkr:∀ l:List (List UInt8),joinB [] l=l.flatten
 | []=>rfl
 | [a]=>by simp [joinB]
 | a :: b :: l=>by
  show a++[]++joinB [] (b :: l)=_;rw [qkr (b :: l)];simp
theorem qfP:∀ l:List (List UInt8),(∀ u∈l,u.length≤75)→l.flatten.length≤75*l.length
 | [],_=>by simp
 | a :: l,h=>by
  have h1:=qfP l fun u hu=>h u (List.mem_cons_of_mem _ hu);have h2:=h a List.mem_cons_self;rw [List.flatten_cons,yn,yg];omega
theorem qks (cs:Int) (t:List Int):∀ u∈z10 cs t,u.length≤75:=fun u hu=>by
 unfold z10 at hu;obtain ⟨c,_,rfl⟩:=List.mem_map.1 hu;have:=qnQ cs c;omega
theorem qnV (cs:Int) (t:List Int):(z10 cs t).length=t.length:=List.length_map _
theorem qrN {name:List UInt8} {t:List Int} (h:ok36 name t=true):name.length≤100∧t.length≤100:=by
 unfold ok36 at h;simpa using h
theorem qwC:∀ (name0:List UInt8) (t1:List Int),(z5_ok name0 t1=true)→∃ n,z5_sh n name0 t1=qlF (z5 name0 t1).1 (z5 name0 t1).2:=fun name t h=>⟨0,by
 obtain ⟨hn,ht⟩:=qrN h;have hun:=qnV (z9 t).1 t;have hu:=qks (z9 t).1 t;have hfl:=qfP _ hu;have hh:=qfd name (-1) (z26 (z9 t).1);have hc:=qdH (z9 t).1;unfold z5_sh qgT z5 qaH room;rw [show z7_ok name t=true from by unfold z7_ok; rw [qap (by omega),qap (by omega)]; rfl,
  show z8_ok name t=true from by unfold z8_ok; rw [qbe (by omega),qbe (by omega)]; rfl,
  show z9_ok t=true from qap (by omega),show qrl (z9 t).1 t=true from qbe (by omega),
  show qec name (-1) (z9 t).1=true from by unfold qec; rw [qbe (by omega)]; rfl,
  show qla (z10 (z9 t).1 t) []=true from by
   unfold qla;rw [dT (by omega),List.all_eq_true.2 (fun u hx=>yo (hu u hx))];rfl,
  show qly name (z9 t).1 (z10 (z9 t).1 t)=true from by
   unfold qly;rw [qbe (by omega),dT (by omega),List.all_eq_true.2 (fun u hx=>yo (hu u hx))];rfl,
  show z12 (z10 (z9 t).1 t) []=(z10 (z9 t).1 t).flatten from qkr _,
  show z7 name t=qfB name t from rfl,show z11 name (-1) (z9 t).1=headL name (-1) (z26 (z9 t).1) from rfl,
  show z13 name (z9 t).1 (z10 (z9 t).1 t)=numL name (z26 (z9 t).1) (z10 (z9 t).1 t) from rfl]
 rw [show decide (((List.length (headL name (-1) (z26 (z9 t).1)++(z10 (z9 t).1 t).flatten):Nat):Int)≤74)=decide ((headL name (-1) (z26 (z9 t).1)++(z10 (z9 t).1 t).flatten).length≤74) from qtN _ 74,
  dT (show (headL name (-1) (z26 (z9 t).1)).length+(z10 (z9 t).1 t).flatten.length≤1073741824 by omega)]
 cases hq:qfB name t != 0 with
 | true=>rfl
 | false =>
  simp only [yi,yc,yd];cases hp:(z8 name t).2 with
  | true =>
   have hpl:(z8 name t).1=qed name t:=by
    unfold z8 at hp ⊢;cases hs:z17 t with
    | true=>rfl
    | false=>rw [hs] at hp; cases hp
   rw [hpl];rfl
  | false =>
   simp only [yd];cases (z9 t).2 != 0 with
   | true=>rfl
   | false =>
    simp only [yd];cases decide ((headL name (-1) (z26 (z9 t).1)++(z10 (z9 t).1 t).flatten).length≤74) <;> rfl⟩
end Go.Av
