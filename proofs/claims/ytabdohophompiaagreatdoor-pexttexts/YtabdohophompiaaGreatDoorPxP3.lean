import Derived.Test.YtabdohophompiaaGreatDoorPxP2
namespace Go.Av
set_option linter.unusedSimpArgs false
set_option linter.unusedVariables false
theorem qoR {f:Int→List UInt8} (h:∀ c,(f c).length≤4):∀ t:List Int,(t.flatMap f).length≤4*t.length
 | []=>by simp
 | c :: t=>by
  have h1:=qoR h t;have h2:=h c;rw [List.flatMap_cons,yn,yg];omega
theorem qfM (t:List Int):(z52 t).1.length≤t.length:=by
 unfold z52;cases z92 t != -1 <;> simp
theorem qgH (cs:Int) (t:List Int):(z44 cs t).1.length≤4*t.length:=by
 have h1:(z76 t).1.length≤4*t.length:=by
  unfold z76;have:=qoR qvu t;cases !(z49 t) with
  | true=>exact Nat.zero_le _
  | false=>exact this
 have h2:(z77 t).1.length≤4*t.length:=by
  unfold z77;cases t.all z106 <;> simp <;> omega
 have h3:(z78 t).1.length≤4*t.length:=by
  unfold z78;cases decide (0≤z114 t) <;> simp <;> omega
 have h4:(z52 t).1.length≤4*t.length:=by
  have:=qfM t;omega
 unfold z44;cases (z74 cs==0) <;> cases z75 cs t <;> cases (cs==(5:Int)) <;> cases (cs==(3:Int)) <;> cases (cs==(4:Int)) <;> first | exact Nat.zero_le _ | assumption
theorem qCi (s:List UInt8):(z45 s).length≤3*s.length:=by
 unfold z45;induction s with
 | nil=>simp
 | cons c r ih =>
  have:=qiU c;rw [List.flatMap_cons,yn,yg];omega
theorem qCj (cs c:Int):(unitL cs c).length≤12:=by
 unfold unitL;have h1:=qCi (z44 cs [c]).1;have h2:=qgH cs [c];simp only [yg,List.length_nil] at h2;omega
theorem qlU (s:List UInt8):(atomL s).length≤2*s.length+2:=by
 unfold atomL quoL;have:=qtX s;cases tokB s with
 | true=>simp only [yc]; omega
 | false=>simp only [yd,yn,yg,List.length_nil]; omega
theorem qtZ (name:List UInt8) (t:List Int):(qcW name t).length≤name.length+2*t.length+3:=by
 unfold qcW;have h1:=qfM t;have h2:=qlU (z52 t).1;simp only [yn,yg];omega
theorem qCk:∀ (name0:List UInt8) (t1:List Int),(qkE name0 t1=true)→∃ n,qCS n name0 t1=quT (z28 name0 t1).1 (z28 name0 t1).2:=fun name t h=>⟨0,by
 unfold qkE at h;simp only [yf] at h;have hn:=qE h.1;have ht:=qE h.2;have h1:=qfM t;have h2:=qlU (z52 t).1;unfold qCS z28 qcW room;rw [show qym t=true from qv (by omega),show qpT t=true from qv (by omega),show qgB name=true from qv (by omega),show qyh (z52 t).1=true from qC (by omega)];unfold z53 z54;cases z51 t with
 | false=>rfl
 | true =>
  simp only [yn,yg,List.length_nil];simp (disch:=omega) only [dT,yi,yc,yd,Bool.not_true,yl,List.singleton_append];rw [show (((name.length+(0+1)+(atomL (z52 t).1).length:Nat)):Int)=((name.length+((atomL (z52 t).1).length+1):Nat):Int) by omega];rw [show decide (((name.length+((atomL (z52 t).1).length+1):Nat):Int)≤74)=decide (name.length+((atomL (z52 t).1).length+1)≤74) from qqR _ 74]⟩
theorem qCl:∀ (name0:List UInt8) (t1:List Int),(qqL name0 t1=true)→∃ n,qDp n name0 t1=qvi (z16 name0 t1):=fun name t h=>⟨0,by
 have h':=h;unfold qqL at h;simp only [yf] at h;have hn:=qE h.1;have ht:=qE h.2;unfold qDp z16;rw [show qiQ name t=true from by unfold qiQ; rw [qv (by omega),qv (by omega)]; rfl,show qkE name t=true from h',show z27 name t=qbM name t from rfl];unfold bne;cases qbM name t==0 <;> rfl⟩
theorem qua {α:Type} {t:List α} {i:Nat} (h:i < t.length) (d:α):List.drop i (List.take (i+1) t)=[t.getD i d]:=by
 rw [List.drop_take,qM (d:=d) h,show i+1 - i=1 by omega];rfl
theorem qlV {α β:Type} (f:α→β) (l:List α):l.flatMap (fun c=>[f c])=l.map f:=qvo f l
theorem qCm:∀ (charset0:Int) (t1:List Int),(qqM charset0 t1=true)→∃ n,qyH n charset0 t1=qAn (z23 charset0 t1):=fun cs t h=>⟨t.length+1,by
 have hl:=qE h;unfold qyH z23;have:=qar (t:=t) (dv:=0) (f:=fun c=>[unitL cs c]) (b:=1) (M:=4000) (k0:=qeE (t.length+1)) (L:=fun n out i=>qmg (qeE (t.length+1)) n cs t out ((t.length:Nat):Int) i) (fun x _=>yv _) (fun n i out hi hb=>by
  show qeD _ _ n _ _ _ _ _=_;unfold qeD qaO room;rw [ql (i:=i) (by omega),tn,tn,qua hi (0:Int)];have h2:=qgH cs [t.getD i 0];simp only [yg,List.length_nil] at h2 ⊢;rw [show qwy cs [t.getD i 0]=true from rfl,show qyd (z44 cs [t.getD i 0]).1=true from qC (by omega)];simp (disch:=omega) only [dT,yc,yi];rfl) (fun n out=>by
  show qeD _ _ n _ _ _ _ _=_;unfold qeD qaO;rw [dF (by omega)];rfl) t.length 0 (t.length+1) [] (by omega) (by omega) (by simp; omega)
 refine this.trans ?_;rw [yw,qlV];rfl⟩
theorem qGX:∀ (t0:List Int),(z9_ok t0=true)→∃ n,z9_sh n t0=qDn (z9 t0).1 (z9 t0).2:=fun t h=>⟨0,by
 have hl:=qE h;unfold z9_sh z9;rw [show qpO t=true from qv (by omega),show qqM (z22 t).1 t=true from h];cases (z22 t).2 != 0 <;> rfl⟩
theorem qCn:∀ (u0:List UInt8) (x1:Bool) (x2:List UInt8) (x3:List (List UInt8)) (x4:List UInt8) (x5:Int),(qqN u0 x1 x2 x3 x4 x5=true)→∃ n,qCY n u0 x1 x2 x3 x4 x5=qpd (z58 u0 x1 x2 x3 x4 x5).1 (z58 u0 x1 x2 x3 x4 x5).2.1 (z58 u0 x1 x2 x3 x4 x5).2.2.1 (z58 u0 x1 x2 x3 x4 x5).2.2.2.1 (z58 u0 x1 x2 x3 x4 x5).2.2.2.2:=fun u e now out name cs h=>⟨0,by
 unfold qqN at h;simp only [yf,ym] at h;obtain ⟨⟨h1,h2⟩,h3,h4⟩:=h;have hu:=qE h1;have hn:=qr h2;have hm:=qE h4;have hh:=qfj name ((out.length+1:Nat):Int) (z56 cs);have hc:=qfb cs;unfold qCY z58 putU room;have hwr:IntKind.wrap .i64 (((now.length:Nat):Int)+((u.length:Nat):Int))=((now.length+u.length:Nat):Int):=by rw [wr (by omega)]; omega
 rw [hwr,show decide ((74:Int) < ((now.length+u.length:Nat):Int))=decide (74 < now.length+u.length) from by
  by_cases hx:74 < now.length+u.length
  ·rw [dT hx,dT (by omega)]
  ·rw [dF hx,dF (by omega)]]
 unfold z29;simp only [yn,yg,List.length_nil,yD];rw [show qfx name ((out.length+1:Nat):Int) cs=true from by
  unfold qfx;rw [h4,dT (by omega)];rfl]
 cases e with
 | true =>
  simp (disch:=omega) only [dT,yc,yd,yi,Bool.not_true,Bool.false_and]
 | false =>
  simp only [Bool.not_false,yc,yZ];cases decide (74 < now.length+u.length) with
  | true=>simp (disch:=omega) only [dT,yc,yd,yi]
  | false=>simp (disch:=omega) only [dT,yc,yd,yi]⟩
structure PutI (name cs:List UInt8) (i:Nat) (st:PutT):Prop where
 e:st.1=true→i=0
 n:st.2.2.length+(bif st.1 then 0 else 1)≤i
 l:st.2.1.length≤name.length+cs.length+100
 l0:st.1=true→st.2.1.length≤name.length+cs.length+7
theorem qoS {name cs:List UInt8} {i:Nat} {st:PutT} (h:PutI name cs i st) {u:List UInt8} (hu:u.length≤75) (hc:cs.length≤20):PutI name cs (i+1) (putU name cs st u):=by
 obtain ⟨e,now,out⟩:=st;obtain ⟨h1,h2,h3,h4⟩:=h;have hh:=qfj name ((out.length+1:Nat):Int) cs;simp only at h1 h2 h3 h4;unfold putU;simp only;cases hq : !e&&decide (74 < now.length+u.length) with
 | true =>
  simp only [yf,Bool.not_eq_true',ym] at hq;obtain ⟨rfl,hlt⟩:=hq;simp only [yd] at h2;refine ⟨(fun hf=>by cases hf),?_,?_,(fun hf=>by cases hf)⟩
  ·simp only [yc,yd,yn,yg,List.length_nil];omega
  ·simp only [yc,yn];omega
 | false =>
  refine ⟨(fun hf=>by cases hf),?_,?_,(fun hf=>by cases hf)⟩
  ·simp only [yd];cases e with
   | true=>have:=h1 rfl; simp only [yc] at h2; omega
   | false=>simp only [yd] at h2; omega
  ·simp only [yd,yn];cases e with
   | true=>have:=h4 rfl; omega
   | false =>
    simp only [Bool.not_false,yZ,decide_eq_false_iff_not] at hq;omega
theorem qub (name:List UInt8) (cs:Int) (l:List (List UInt8)) (hn:name.length≤1000) (hl:l.length≤100) (hu:∀ u∈l,u.length≤75) (k0:List (List UInt8)→List UInt8→Option AV):∀ (d i n:Nat) (st:PutT),i+d=l.length→d < n→PutI name (z56 cs) i st →
 qmj k0 n name cs st.2.2 st.2.1 st.1 l ((l.length:Nat):Int) (i:Int)=k0 ((l.drop i).foldl (putU name (z56 cs)) st).2.2 ((l.drop i).foldl (putU name (z56 cs)) st).2.1
 | d,i,0,st,hi,hd,_=>by omega
 | 0,i,n+1,st,hi,hd,_=>by
  show qeI _ _ n _ _ _ _ _ _ _ _=_;unfold qeI qam;rw [dF (by omega),yA (by omega)];rfl
 | d+1,i,n+1,st,hi,hd,h=>by
  show qeI _ _ n _ _ _ _ _ _ _ _=_;unfold qeI qam;have hlt:i < l.length:=by omega
  have hm:l.getD i []∈l:=by rw [yW,yN hlt]; exact List.getElem_mem hlt
  have hu':=hu _ hm;have hc:=qfb cs;have h2:=h.n;have h3:=h.l;rw [qM (d:=([]:List UInt8)) hlt,List.foldl_cons];simp (disch:=omega) only [dT,yc,yi,tn,ql];rw [show qqN (l.getD i []) st.1 st.2.1 st.2.2 name cs=true from by
   unfold qqN;rw [qC (l:=l.getD i []) (by omega),qv (l:=st.2.1) (by omega),qC (l:=name) (by omega),dT (show st.2.2.length < 99 by
    cases e:st.1 with
    | true =>
     have hi0:=h.e e;rw [e] at h2;simp only [yc] at h2;omega
    | false =>
     rw [e] at h2;simp only [yd] at h2;omega)]
   rfl]
  exact qub name cs l hn hl hu k0 d (i+1) n (putU name (z56 cs) st (l.getD i [])) (by omega) (by omega) (qoS h hu' (by omega))
theorem qlW (name cs:List UInt8):∀ (l:List (List UInt8)) (st:PutT),(l.foldl (putU name cs) st).2.2.length≤st.2.2.length+l.length
 | [],st=>yv _
 | u :: l,st=>by
  have h1:=qlW name cs l (putU name cs st u);have h2:(putU name cs st u).2.2.length≤st.2.2.length+1:=by
   unfold putU;cases !st.1&&decide (74 < st.2.1.length+u.length) <;> simp
  rw [List.foldl_cons,yg];omega
theorem qfN (name cs:List UInt8):PutI name cs 0 (true,(headL name 0 cs,[])) :=
 ⟨fun _=>rfl,yv _,(by have:=qfj name 0 cs; show (headL name 0 cs).length≤_; omega),fun _=>qfj name 0 cs⟩
theorem qCo:∀ (name0:List UInt8) (charset1:Int) (l2:List (List UInt8)),(qqO name0 charset1 l2=true)→∃ n,qyK n name0 charset1 l2=qAu (z31 name0 charset1 l2):=fun name cs l h=>⟨l.length+1,by
 unfold qqO at h;simp only [yf,ym,List.all_eq_true] at h;obtain ⟨h1,h2,h3⟩:=h;have hn:=qE h1;unfold qyK z31 numL;rw [show qfx name 0 cs=true from by unfold qfx; rw [h1]; rfl];have:=qub name cs l hn h2 h3 (qeJ (l.length+1)) l.length 0 (l.length+1) (true,(headL name 0 (z56 cs),[])) (by omega) (by omega) (qfN _ _);refine Eq.trans (this:_) ?_;rw [yw];have ho:=qlW name (z56 cs) l (true,(headL name 0 (z56 cs),[]));unfold qeJ room;simp only [yg,List.length_nil] at ho ⊢;rw [dT (by omega)];rfl⟩
theorem qoT:∀ l:List (List UInt8),joinB [] l=l.flatten
 | []=>rfl
 | [a]=>by simp [joinB]
 | a :: b :: l=>by
  show a++[]++joinB [] (b :: l)=_;rw [qoT (b :: l)];simp
theorem qhG:∀ l:List (List UInt8),(∀ u∈l,u.length≤75)→l.flatten.length≤75*l.length
 | [],_=>by simp
 | a :: l,h=>by
  have h1:=qhG l fun u hu=>h u (List.mem_cons_of_mem _ hu);have h2:=h a List.mem_cons_self;rw [List.flatten_cons,yn,yg];omega
theorem qfO (cs:Int) (t:List Int):∀ u∈z23 cs t,u.length≤75:=fun u hu=>by
 unfold z23 at hu;obtain ⟨c,_,rfl⟩:=List.mem_map.1 hu;have:=qCj cs c;omega
theorem qoU (cs:Int) (t:List Int):(z23 cs t).length=t.length:=List.length_map _
theorem quc {name:List UInt8} {t:List Int} (h:ok36 name t=true):name.length≤100∧t.length≤100:=by
 unfold ok36 at h;simpa using h
theorem qCp:∀ (name0:List UInt8) (t1:List Int),(qhu name0 t1=true)→∃ n,qCZ n name0 t1=qhM (z13 name0 t1).1 (z13 name0 t1).2:=fun name t h=>⟨0,by
 obtain ⟨hn,ht⟩:=quc h;have hun:=qoU (z22 t).1 t;have hu:=qfO (z22 t).1 t;have hfl:=qhG _ hu;have hh:=qfj name (-1) (z56 (z22 t).1);have hc:=qfb (z22 t).1;unfold qCZ qfP z13 qbg room;rw [show qiQ name t=true from by unfold qiQ; rw [qv (by omega),qv (by omega)]; rfl,
  show qkE name t=true from by unfold qkE; rw [qC (by omega),qC (by omega)]; rfl,
  show qpO t=true from qv (by omega),show qqM (z22 t).1 t=true from qC (by omega),
  show qfx name (-1) (z22 t).1=true from by unfold qfx; rw [qC (by omega)]; rfl,
  show qpQ (z23 (z22 t).1 t) []=true from by
   unfold qpQ;rw [dT (by omega),List.all_eq_true.2 (fun u hx=>yo (hu u hx))];rfl,
  show qqO name (z22 t).1 (z23 (z22 t).1 t)=true from by
   unfold qqO;rw [qC (by omega),dT (by omega),List.all_eq_true.2 (fun u hx=>yo (hu u hx))];rfl,
  show z30 (z23 (z22 t).1 t) []=(z23 (z22 t).1 t).flatten from qoT _,
  show z27 name t=qbM name t from rfl,show z29 name (-1) (z22 t).1=headL name (-1) (z56 (z22 t).1) from rfl,
  show z31 name (z22 t).1 (z23 (z22 t).1 t)=numL name (z56 (z22 t).1) (z23 (z22 t).1 t) from rfl]
 rw [show decide (((List.length (headL name (-1) (z56 (z22 t).1)++(z23 (z22 t).1 t).flatten):Nat):Int)≤74)=decide ((headL name (-1) (z56 (z22 t).1)++(z23 (z22 t).1 t).flatten).length≤74) from qqR _ 74,
  dT (show (headL name (-1) (z56 (z22 t).1)).length+(z23 (z22 t).1 t).flatten.length≤1073741824 by omega)]
 cases hq:qbM name t != 0 with
 | true=>rfl
 | false =>
  simp only [yi,yc,yd];cases hp:(z28 name t).2 with
  | true =>
   have hpl:(z28 name t).1=qcW name t:=by
    unfold z28 at hp ⊢;cases hs:z51 t with
    | true=>rfl
    | false=>rw [hs] at hp; cases hp
   rw [hpl];rfl
  | false =>
   simp only [yd];cases (z22 t).2 != 0 with
   | true=>rfl
   | false =>
    simp only [yd];cases decide ((headL name (-1) (z56 (z22 t).1)++(z23 (z22 t).1 t).flatten).length≤74) <;> rfl⟩
end Go.Av
