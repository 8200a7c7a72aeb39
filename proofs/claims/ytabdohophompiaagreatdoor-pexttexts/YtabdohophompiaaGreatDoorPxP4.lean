import Derived.Test.YtabdohophompiaaGreatDoorPxP3
namespace Go.Av
set_option linter.unusedSimpArgs false
set_option linter.unusedVariables false
theorem qud {name cs:List UInt8} (hc:cs.length≤20):∀ (l:List (List UInt8)) (i:Nat) (st:PutT),PutI name cs i st→(∀ u∈l,u.length≤75)→PutI name cs (i+l.length) (l.foldl (putU name cs) st)
 | [],i,st,h,_=>h
 | u :: l,i,st,h,hu=>by
  have:=qud hc l (i+1) _ (qoS h (hu u List.mem_cons_self) hc) fun v hv=>hu v (List.mem_cons_of_mem _ hv);rw [List.foldl_cons,yg,show i+(l.length+1)=i+1+l.length by omega];exact this
theorem qoV {name cs:List UInt8} (hc:cs.length≤20):∀ (l:List (List UInt8)) (i:Nat) (st:PutT),PutI name cs i st→(∀ u∈l,u.length≤75)→(∀ x∈st.2.2,x.length≤name.length+cs.length+100)→∀ x∈(l.foldl (putU name cs) st).2.2,x.length≤name.length+cs.length+100
 | [],i,st,h,_,hx=>hx
 | u :: l,i,st,h,hu,hx=>by
  rw [List.foldl_cons];refine qoV hc l (i+1) _ (qoS h (hu u List.mem_cons_self) hc) (fun v hv=>hu v (List.mem_cons_of_mem _ hv)) fun x hx'=>?_;unfold putU at hx';cases hq : !st.1&&decide (74 < st.2.1.length+u.length) with
  | true =>
   rw [hq] at hx';simp only [yc,List.mem_append,List.mem_singleton] at hx';rcases hx' with hx' | rfl
   ·exact hx x hx'
   ·exact h.l
  | false =>
   rw [hq] at hx';exact hx x hx'
theorem qiW {name:List UInt8} {t:List Int} (h:ok36 name t=true):(qbg name t).1.length≤101∧∀ x∈(qbg name t).1,x.length≤1000:=by
 obtain ⟨hn,ht⟩:=quc h;have hun:=qoU (z22 t).1 t;have hu:=qfO (z22 t).1 t;have hc:=qfb (z22 t).1;unfold qbg;cases qbM name t != 0 with
 | true=>exact ⟨Nat.zero_le _,fun x hx=>by cases hx⟩
 | false =>
  cases hp:(z28 name t).2 with
  | true =>
   refine ⟨by simp,fun x hx=>?_⟩;have hpl:=qtZ name t;simp only [yd,yc,List.mem_singleton] at hx;subst hx;omega
  | false =>
   cases (z22 t).2 != 0 with
   | true=>exact ⟨Nat.zero_le _,fun x hx=>by cases hx⟩
   | false =>
    cases hw:decide ((headL name (-1) (z56 (z22 t).1)++(z23 (z22 t).1 t).flatten).length≤74) with
    | true =>
     refine ⟨by simp,fun x hx=>?_⟩;simp only [yd,yc,List.mem_singleton] at hx;subst hx;have:=of_decide_eq_true hw;omega
    | false =>
     simp only [yd];unfold numL;have h1:=qlW name (z56 (z22 t).1) (z23 (z22 t).1 t) (true,(headL name 0 (z56 (z22 t).1),[]));have h2:=qud (by omega) (z23 (z22 t).1 t) 0 _ (qfN name (z56 (z22 t).1)) hu;have h3:=qoV (by omega) (z23 (z22 t).1 t) 0 _ (qfN name (z56 (z22 t).1)) hu (fun x hx=>by cases hx);simp only [List.length_nil,yD] at h1;refine ⟨by rw [yn,yg,List.length_nil]; omega,fun x hx=>?_⟩;rcases List.mem_append.1 hx with hx | hx
     ·have:=h3 x hx;omega
     ·have hx':=List.mem_singleton.1 hx;subst hx';have:=h2.l;omega
theorem qCq (l:List (List UInt8)) (h:∀ x∈l,x.length≤1000):(textL l).length≤1004*l.length:=by
 unfold textL;induction l with
 | nil=>simp
 | cons x r ih =>
  have h1:=h x List.mem_cons_self;have h2:=ih fun y hy=>h y (List.mem_cons_of_mem _ hy);rw [List.flatMap_cons,yn,yg,yn];simp only [yg,List.length_nil];omega
theorem qGY:∀ (name0:List UInt8) (t1:List Int),(z7_ok name0 t1=true)→∃ n,z7_sh n name0 t1=qHe (z7 name0 t1).1 (z7 name0 t1).2:=fun name t h=>⟨(qbg name t).1.length+1,by
 obtain ⟨h1,h2⟩:=qiW h;unfold z7_sh z7;rw [show qhu name t=true from h,show z13 name t=qbg name t from rfl];generalize (qbg name t).2=e;revert h1 h2;generalize (qbg name t).1=l;intro h1 h2;have:=qar (t:=l) (dv:=([]:List UInt8)) (f:=fun s=>[59,13,10,32]++s) (b:=1004) (M:=200000) (k0:=qhO (l.length+1) e) (L:=fun n out i=>z7_l4 (qhO (l.length+1)) n e out l ((l.length:Nat):Int) i) (fun x hx=>by have:=h2 x hx; simp only [yn,yg,List.length_nil]; omega) (fun n i out hi hb=>by
  show qhN _ _ n _ _ _ _ _=_;unfold qhN room;have hx:=h2 (l.getD i []) (by rw [yW,yN hi]; exact List.getElem_mem hi);simp only [yn,yg,List.length_nil];simp (disch:=omega) only [dT,yc,yi,tn,ql,yl]) (fun n out=>by
  show qhN _ _ n _ _ _ _ _=_;unfold qhN;rw [dF (by omega)];rfl) l.length 0 (l.length+1) [] (by omega) (by omega) (by simp only [List.length_nil]; omega)
 refine Eq.trans (this:_) ?_;rw [yw];rfl⟩
theorem qGZ:∀ (name0:List UInt8) (t1:List Int),(z8_ok name0 t1=true)→∃ n,z8_sh n name0 t1=qHg (z8 name0 t1).1 (z8 name0 t1).2:=fun name t h=>⟨(qbg name t).1.length+1,by
 have h':=h;unfold z8_ok at h;simp only [yf] at h;obtain ⟨h1,h2⟩:=qiW h.1;unfold z8_sh z8;rw [show qkG name t=true from h',show z14 name t=qbg name t from rfl];generalize (qbg name t).2=e;revert h1 h2;generalize (qbg name t).1=l;intro h1 h2;have:=qar (t:=l) (dv:=([]:List UInt8)) (f:=fun s=>[59,13,10,32]++s) (b:=1004) (M:=200000) (k0:=qhR (l.length+1) e) (L:=fun n out i=>z8_l4 (qhR (l.length+1)) n l e out i) (fun x hx=>by have:=h2 x hx; simp only [yn,yg,List.length_nil]; omega) (fun n i out hi hb=>by
  show qhQ _ _ n _ _ _ _=_;unfold qhQ qcc room;have hx:=h2 (l.getD i []) (by rw [yW,yN hi]; exact List.getElem_mem hi);simp only [yn,yg,List.length_nil];simp (disch:=omega) only [dT,yc,yi,tn,ql,yl]) (fun n out=>by
  show qhQ _ _ n _ _ _ _=_;unfold qhQ qcc;rw [dF (by omega)];rfl) l.length 0 (l.length+1) [] (by omega) (by omega) (by simp only [List.length_nil]; omega)
 refine Eq.trans (this:_) ?_;rw [yw];rfl⟩
theorem qCr:∀ (name0:List UInt8) (t1:List Int),(qyp name0 t1=true)→∃ n,qDo n name0 t1=qAB (z15 name0 t1):=fun name t h=>⟨0,by
 unfold qDo;rw [show qhu name t=true from h];rfl⟩
theorem que {α:Type} [DecidableEq α] {a b:List α} {i:Nat} (ha:i < a.length) (hb:i < b.length) (d:α):decide (a.drop i=b.drop i)=bif decide (a.getD i d=b.getD i d) then decide (a.drop (i+1)=b.drop (i+1)) else false:=by
 rw [qM (d:=d) ha,qM (d:=d) hb];generalize a.getD i d=x;generalize b.getD i d=y
 by_cases h:x=y
 ·subst h; simp
 ·simp [h]
theorem qhH (ret:Bool→Option AV) (a b:List (List UInt8)) (hab:a.length=b.length) (hl:a.length≤1048576) (hx:∀ x∈a,x.length≤1048576):∀ (d i n:Nat),i+d=a.length→d < n →
 qkV ret (ret true) n a b ((a.length:Nat):Int) (i:Int)=ret (decide (a.drop i=b.drop i))
 | d,i,0,hi,hn=>by omega
 | 0,i,n+1,hi,hn=>by
  show qfa _ _ _ n _ _ _ _=_;unfold qfa;rw [dF (by omega),yA (by omega),yA (by omega)];rfl
 | d+1,i,n+1,hi,hn=>by
  show qfa _ _ _ n _ _ _ _=_;unfold qfa;have hlt:i < a.length:=by omega
  have hm:=hx (a.getD i []) (by rw [yW,yN hlt]; exact List.getElem_mem hlt);rw [que hlt (by omega) ([]:List UInt8)];simp (disch:=omega) only [dT,yc,yi,tn,ql];rw [show qpV (a.getD i []) (b.getD i [])=true from qv hm,show qkV ret (ret true) n a b ((a.length:Nat):Int) ((i+1:Nat):Int)=_ from qhH ret a b hab hl hx d (i+1) n (by omega) (by omega),show z11 (a.getD i []) (b.getD i [])=decide (a.getD i []=b.getD i []) from rfl];cases decide (a.getD i []=b.getD i []) <;> rfl
theorem qCs:∀ (a0:List (List UInt8)) (b1:List (List UInt8)),(qlR a0 b1=true)→∃ n,qzb n a0 b1=qhT (z12 a0 b1):=fun a b h=>⟨a.length+1,by
 unfold qlR at h;simp only [yf,List.all_eq_true] at h;have hl:=qr h.1;unfold qzb z12
 by_cases e:a.length=b.length
 ·rw [bneF (show ((a.length:Nat):Int)=((b.length:Nat):Int) by omega)];refine Eq.trans (qhH qhT a b e hl (fun x hx=>qr (h.2 x hx)) a.length 0 (a.length+1) (by omega) (by omega):_) ?_;rw [yw,yw]
 ·rw [bneT (show ((a.length:Nat):Int)≠((b.length:Nat):Int) by omega),dF (fun hh=>e (by rw [hh]))];rfl⟩
theorem qHa:∃ n,z6_sh n  = qmk z6:=⟨0,by kernel_rfl⟩
theorem qHb {p q:Int→Bool} (h1:p 1=q 1) (h2:p 2=q 2) (h3:p 3=q 3) (h4:p 4=q 4) (h5:p 5=q 5):selF p=selF q:=by
 unfold selF qpN;rw [h1,h2,h3,h4,h5]
theorem all12 (n:Int) (t:List Int) (h:i32s t=true) (h1:1≤n∧n≤5):z46 n t=t.all (z72 n):=by
 unfold z46 z81;rw [dT h1.1,dT h1.2];have:=qlc (p:=z82 n) t 0;rw [show decide (qn (z82 n) t 0 < 0)=t.all (z82 n) from this,qzJ (q:=z72 n) (fun c hc=>(qHk n (qce h hc)).symm)];rfl
theorem qoW (t:List Int) (h:i32s t=true):z22 t=z24 t :=
 qHb (all12 1 t h (by omega)).symm (all12 2 t h (by omega)).symm (all12 3 t h (by omega)).symm (all12 4 t h (by omega)).symm (all12 5 t h (by omega)).symm
theorem qCt {t:List Int} (h:i32s t=true) {i:Nat} (hi:i < t.length):i32s [t.getD i 0]=true:=by
 have:=qce h (c:=t.getD i 0) (by rw [yW,yN hi]; exact List.getElem_mem hi);unfold i32s;simp only [List.all_cons,List.all_nil,yi];exact dT this
theorem qCu:∀ (t0:List Int),(qiS t0=true)→∃ n,qyS n t0=qvf (z10 t0).1 (z10 t0).2:=fun t h=>⟨t.length+1,by
 unfold qiS at h;simp only [yf] at h;have hl:=qE h.1;unfold qyS z10 z9;rw [← qoW t h.2,show qpP t=true from qv (by omega)];cases (z22 t).2 != 0 with
 | true=>rfl
 | false =>
  generalize (z22 t).1=cs;have:=qar (t:=t) (dv:=0) (f:=fun c=>[unitL cs c]) (b:=1) (M:=4000) (k0:=qeS (t.length+1)) (L:=fun n out i=>qms (qeS (t.length+1)) n t cs out i) (fun x _=>yv _) (fun n i out hi hb=>by
   show qeR _ _ n _ _ _ _=_;unfold qeR qaP room;rw [ql (i:=i) (by omega),tn,tn,qua hi (0:Int),← qJV cs [t.getD i 0] (qCt h.2 hi)];have h2:=qgH cs [t.getD i 0];simp only [yg,List.length_nil] at h2 ⊢;rw [show qwz cs [t.getD i 0]=true from rfl,show qye (z44 cs [t.getD i 0]).1=true from qC (by omega)];simp (disch:=omega) only [dT,yc,yi];rfl) (fun n out=>by
   show qeR _ _ n _ _ _ _=_;unfold qeR qaP;rw [dF (by omega)];rfl) t.length 0 (t.length+1) [] (by omega) (by omega) (by simp; omega)
  refine Eq.trans (this:_) ?_;rw [yw,qlV];rfl⟩
theorem qyu {t:List Int} (h:z51 t=true):∀ c∈t,32≤c∧c≤126:=fun c hc=>by
 unfold z51 at h;simp only [Bool.not_eq_true',List.any_eq_false] at h;have:=h c hc;unfold z91 at this;simp only [Bool.or_eq_true,ym,not_or] at this;omega
theorem qqU {t:List Int} (h:∀ c∈t,32≤c∧c≤126):z92 t = -1:=by
 unfold z92;have gen:∀ (t:List Int) (i:Int),(∀ c∈t,32≤c∧c≤126)→qn z105 t i = -1:=fun t=>by
  induction t with
  | nil=>intro i _; rfl
  | cons c r ih =>
   intro i hi;obtain ⟨h1,h2⟩:=hi c List.mem_cons_self;show (bif z105 c then qn z105 r (i+1) else i) = -1;rw [show z105 c=true from by
    unfold z105;rw [IntWalk.u32_in c (by omega)];exact dT (by omega)]
   exact ih _ fun x hx=>hi x (List.mem_cons_of_mem _ hx)
 exact gen t 0 h
theorem qqV {t:List Int} (h:z51 t=true):(z52 t).1=t.map fun c=>UInt8.ofNat (IntKind.wrap .u8 c).toNat:=by
 unfold z52;rw [qqU (qyu h)];rfl
theorem qCv:∀ (name0:List UInt8) (t1:List Int),(qkF name0 t1=true)→∃ n,qyY n name0 t1=qkS (z33 name0 t1):=fun name t h=>⟨t.length+1,by
 unfold qkF at h;simp only [yf] at h;have hn:=qE h.1;have ht:=qE h.2.1;unfold qyY z33 z16 z28;rw [show qiR name t=true from by unfold qiR; rw [qv (by omega),qv (by omega),h.2.2]; rfl,show qyo t=true from qv (by omega),
  show z32 name t=qbM name t from rfl,show z60 t=z51 t from rfl]
 unfold bne;cases qbM name t==0 with
 | false=>rfl
 | true =>
  cases hs:z51 t with
  | false=>rfl
  | true =>
   have:=qar (t:=t) (dv:=0) (f:=fun c=>[UInt8.ofNat (IntKind.wrap .u8 c).toNat]) (b:=1) (M:=4000) (k0:=qdc (t.length+1) name) (L:=fun n out i=>qmv (qdc (t.length+1)) n name t out i) (fun x _=>yv _) (fun n i out hi hb=>by
    show qeY _ _ n _ _ _ _=_;unfold qeY room;simp only [yg,List.length_nil];simp (disch:=omega) only [dT,yc,yi,tn,ql]) (fun n out=>by
    show qeY _ _ n _ _ _ _=_;unfold qeY;rw [dF (by omega)];rfl) t.length 0 (t.length+1) [] (by omega) (by omega) (by simp only [List.length_nil]; omega)
   refine Eq.trans (this:_) ?_;rw [yw,qlV,List.nil_append,← qqV hs];have h1:=qfM t;have h2:=qlU (z52 t).1;unfold qdc room;rw [show qyi (z52 t).1=true from qC (by omega),show z61 (z52 t).1=atomL (z52 t).1 from rfl];have hpl:[]++name++[61]++atomL (z52 t).1=qcW name t:=by
    unfold qcW;simp
   rw [hpl];simp only [yn,yg,List.length_nil];simp (disch:=omega) only [dT,yc,yi]
   by_cases hb:(qcW name t).length≤74
   ·rw [dT hb,dF (show ¬ (74:Int) < (((qcW name t).length:Nat):Int) by omega)];rfl
   ·rw [dF hb,dT (show (74:Int) < (((qcW name t).length:Nat):Int) by omega)];rfl⟩
theorem quf (name:List UInt8) (t:List Int):0 < (qcW name t).length:=by
 unfold qcW;simp only [yn,yg];omega
theorem qhI (name:List UInt8) (t:List Int):decide ((0:Int) < (((z33 name t).length:Nat):Int))=z16 name t:=by
 have:=quf name t;unfold z33;cases z16 name t with
 | true=>exact dT (by simp only [yc]; omega)
 | false=>rfl
theorem qCw:∀ (name0:List UInt8) (t1:List Int),(qtQ name0 t1=true)→∃ n,qDq n name0 t1=qAC (z17 name0 t1):=fun name t h=>⟨0,by
 unfold qDq;rw [show qkF name t=true from h,qhI];rfl⟩
theorem qyv {t:List Int} (h:z49 t=true):(z22 t).2=0:=by
 have h5:t.all (z72 5)=true:=by
  unfold z49 at h;have h':=eq_of_beq h;have gen:∀ (t:List Int) (i:Nat),qn z108 t i = -1→t.all z108=true:=fun t=>by
   induction t with
   | nil=>intro i _; rfl
   | cons c r ih =>
    intro i hi;have hstep:qn z108 (c :: r) (i:Int)=bif z108 c then qn z108 r ((i+1:Nat):Int) else (i:Int):=rfl
    rw [hstep] at hi;rw [List.all_cons];cases hc:z108 c with
    | true=>rw [hc] at hi; rw [ih (i+1) hi]; rfl
    | false=>rw [hc] at hi; simp only [yd] at hi; omega
  exact (qzJ (t:=t) (p:=z72 5) (q:=z108) (fun c _=>rfl)).trans (gen t 0 h')
 unfold z22 selF qpN;simp only [h5];cases t.all (z72 1) <;> cases t.all (z72 2) <;> cases t.all (z72 3) <;> cases t.all (z72 4) <;> rfl
end Go.Av
