import Derived.Test.YtcbimkaeoojceaaGreatDoorPjP3
namespace Go.Av
set_option linter.unusedSimpArgs false
set_option linter.unusedVariables false
theorem qAL {α:Type} (s:List α):(((s.length:Nat):Int)==0)=s.isEmpty:=by cases s <;> simp <;> omega
theorem qfG {name:List UInt8} {f:qd→Bool}:∀ {l:List qd} {i:Nat},qr name f l=some i→i < l.length
 | [],i,h=>by cases h
 | p :: l,i,h=>by
  unfold qr at h;cases e:z19 p.1 name&&f p with
  | true=>rw [e] at h; cases h; simp
  | false =>
   rw [e,yd] at h;obtain ⟨j,hj,rfl⟩:=Option.map_eq_some_iff.1 h;have:=qfG hj;rw [yg]; omega
theorem qtw (l:List qd) (name:List UInt8):∀ (k:Nat) (n:Int),(numsP l name k n).length≤k∧∀ u∈numsP l name k n,0≤u∧u < ((l.length:Nat):Int)
 | 0,n=>by simp [numsP]
 | k+1,n=>by
  unfold numsP;cases e:qr name (numP n) l with
  | none=>simp
  | some i =>
   have h1:=qfG e;obtain ⟨h2,h3⟩:=qtw l name k (n+1);refine ⟨by simp only [yg]; omega,fun u hu=>?_⟩;rcases List.mem_cons.1 hu with rfl | hu
   ·omega
   ·exact h3 u hu
theorem qAM (l:List qd) (name:List UInt8):(usedP l name).length≤1001∧∀ u∈usedP l name,0≤u∧u < ((l.length:Nat):Int):=by
 have hn:=qtw l name 1001 0;unfold usedP;cases e1:qr name extP l with
 | some i =>
  have:=qfG e1;refine ⟨by simp,fun u hu=>?_⟩;rw [List.mem_singleton.1 hu]; omega
 | none =>
  simp only;cases e2:numsP l name 1001 0 with
  | cons x xs =>
   rw [e2] at hn;cases qr name qax l <;> exact hn
  | nil =>
   cases e3:qr name qax l with
   | none=>simp
   | some i =>
    have:=qfG e3;refine ⟨by simp,fun u hu=>?_⟩;rw [List.mem_singleton.1 hu]; omega
theorem qAN {l:List qd} {u:List Int} (h:∀ x∈u,0≤x∧x < ((l.length:Nat):Int)):∀ p∈pickP l u,p∈l:=fun p hp=>by
 obtain ⟨x,hx,rfl⟩:=List.mem_map.1 hp;have:=h x hx;rw [show (([]:List UInt8),((0:Int),(false,(([]:List UInt8),()))))=par0 from rfl,qbV (by omega)];exact List.getElem_mem _
theorem qAO {l m:List qd} (h:psOk l=true) (hm:m.length≤1048576) (hs:∀ p∈m,p∈l):psOk m=true:=by
 unfold psOk at *
 rw [yf] at *
 exact ⟨dT hm,List.all_eq_true.2 fun p hp=>List.all_eq_true.1 h.2 p (hs p hp)⟩
theorem qkM (b:Nat):∀ l:List qd,(∀ p∈l,p.2.2.2.1.length≤b)→valL l≤b*l.length
 | [],_=>by simp [valL]
 | p :: l,h=>by
  have h1:=qkM b l fun q hq=>h q (List.mem_cons_of_mem _ hq);have h2:=h p List.mem_cons_self;rw [qau,yg,Nat.mul_succ]; omega
theorem qov (k2:List qd→List PairT→List (List UInt8×Bool)→List UInt8→List qd→List qd→Int→Int→Option AV) (l:List qd) (out:List PairT) (met:List (List UInt8×Bool)) (nm:List UInt8) (s13:List qd) (s14 s15:Int)
 (us:List Int) (hu:us.length≤1001) (hr:∀ x∈us,0≤x∧x < ((l.length:Nat):Int)):∀ (d i n:Nat) (of9:List qd),i+d=us.length→d < n→of9.length≤i →
 qgX k2 n l out met nm of9 s13 s14 s15 us ((us.length:Nat):Int) (i:Int)=k2 l out met nm (of9++pickP l (us.drop i)) s13 s14 s15
 | d,i,0,of9,hi,hn,_=>by omega
 | 0,i,n+1,of9,hi,hn,_=>by
  show qcK _ _ n _ _ _ _ _ _ _ _ _ _ _=_;unfold qcK;have e1:us.drop i=[]:=yA (by omega);rw [dF (by omega),e1,yd,show pickP l []=[] from rfl,yG]
 | d+1,i,n+1,of9,hi,hn,ho=>by
  show qcK _ _ n _ _ _ _ _ _ _ _ _ _ _=_;unfold qcK;have hlt:i < us.length:=by omega
  have hx:=hr (us.getD i 0) (by rw [qbV hlt]; exact List.getElem_mem hlt);have hd:=qz (d:=(0:Int)) hlt;have ih:=qov k2 l out met nm s13 s14 s15 us hu hr d (i+1) n (of9++[l.getD (us.getD i 0).toNat par0]) (by omega) (by omega) (by rw [yn]; simp; omega);rw [hd,show pickP l (us.getD i 0 :: us.drop (i+1))=l.getD (us.getD i 0).toNat par0 :: pickP l (us.drop (i+1)) from rfl];simp (disch:=omega) only [dT,yc,yi,y4,tn,qv];rw [dT (show of9.length+([l.getD (us.getD i 0).toNat par0]:List qd).length≤room by unfold room; simp; omega)];simp only [yc,yi];rw [ih,yl];rfl
theorem qtx (k' k:List UInt8):∀ x:List (List UInt8×Bool),@findM .str .bool k' (@putM .str .bool k true x)=bif k'==k then some true else @findM .str .bool k' x
 | []=>by
  show (bif k'==k then some true else none)=_;rfl
 | p :: x=>by
  show @findM .str .bool k' (bif k==p.1 then (p.1,true) :: x else p :: @putM .str .bool k true x)=bif k'==k then some true else bif k'==p.1 then some p.2 else @findM .str .bool k' x
  by_cases e:k=p.1
  ·subst e;rw [beq_self_eq_true,yc];show (bif k'==p.1 then some true else @findM .str .bool k' x)=_;cases k'==p.1 <;> rfl
  ·rw [beq_eq_false_iff_ne.2 e,yd];show (bif k'==p.1 then some p.2 else @findM .str .bool k' (@putM .str .bool k true x))=_;rw [qtx k' k x]
   by_cases e2:k'=p.1
   ·rw [beq_iff_eq.2 e2,beq_eq_false_iff_ne.2 (fun h=>e (h.symm.trans e2))];rfl
   ·rw [beq_eq_false_iff_ne.2 e2]; rfl
def metOk (x:List (List UInt8×Bool)) (M:List (List UInt8)):Prop:=∀ k,Option.getD (@findM .str .bool k x) false=M.contains k
theorem qxu {x:List (List UInt8×Bool)} {M:List (List UInt8)} (h:metOk x M) (k:List UInt8):metOk (@putM .str .bool k true x) (k :: M):=fun k'=>by
 rw [qtx,List.contains_cons];cases k'==k with
 | true=>rfl
 | false=>exact h k'
theorem qow (l:List qd) (hok:qlZ l=true) (N:Nat):∀ (d i n:Nat) (out:List PairT) (x:List (List UInt8×Bool)) (M:List (List UInt8)),i+d=l.length→d+1100 < n→out.length≤i→metOk x M →
 qkQ (qdi N) n l out x l ((l.length:Nat):Int) (i:Int)=qhJ (out++joinF l (l.drop i) M)
 | d,i,0,out,x,M,hi,hn,_,_=>by omega
 | 0,i,n+1,out,x,M,hi,hn,_,_=>by
  show qdh _ _ n _ _ _ _ _ _=_;unfold qdh qW;have e1:l.drop i=[]:=yA (by omega);rw [dF (by omega),e1,yd];show qhJ out=qhJ (out++[]);rw [yG]
 | d+1,i,n+1,out,x,M,hi,hn,ho,hM=>by
  show qdh _ _ n _ _ _ _ _ _=_;unfold qdh qW;have hlt:i < l.length:=by omega
  have hd:=qz (d:=par0) hlt;have hok':=hok;unfold qlZ at hok';rw [yf,yf,ym] at hok';obtain ⟨⟨hps,hll⟩,hvl⟩:=hok';have hmem:l.getD i par0∈l:=by rw [qbV hlt]; exact List.getElem_mem hlt
  have hps':=hps;unfold psOk at hps';rw [yf] at hps';have hp:=List.all_eq_true.1 hps'.2 _ hmem;simp only [yf] at hp;have hnl:=qm hp.1;have ih:=fun out' x' M' h1 h2=>qow l hok N d (i+1) n out' x' M' (by omega) (by omega) h1 h2;have hfl:(z28 (l.getD i par0).1).length=(l.getD i par0).1.length:=by unfold z28; rw [yP]
  have hfo:qfm (l.getD i par0).1=true:=hp.1;have huo:qqi l (z28 (l.getD i par0).1)=true:=by
   unfold qqi;rw [hps,qn (by omega)];rfl
  rw [hd];show _=qhJ (out++bif M.contains (z28 (l.getD i par0).1)||(usedP l (z28 (l.getD i par0).1)).isEmpty then joinF l (l.drop (i+1)) M
   else (z28 (l.getD i par0).1,(z30 (pickP l (usedP l (z28 (l.getD i par0).1))),())) :: joinF l (l.drop (i+1)) (z28 (l.getD i par0).1 :: M))
  simp (disch:=omega) only [dT,yc,yi,y4,tn,qv,hfo,huo];rw [hM (z28 (l.getD i par0).1),show z29 l (z28 (l.getD i par0).1)=usedP l (z28 (l.getD i par0).1) from rfl,qAL];cases M.contains (z28 (l.getD i par0).1) with
  | true=>exact ih out x M (by omega) hM
  | false =>
   cases e:(usedP l (z28 (l.getD i par0).1)).isEmpty with
   | true=>exact ih out x M (by omega) hM
   | false =>
    obtain ⟨u1,u2⟩:=qAM l (z28 (l.getD i par0).1);simp only [yd,Bool.or_false];have hloop:=qov (qcL (qdi N) (qkQ (qdi N) n) n) l out (@putM .str .bool (z28 (l.getD i par0).1) true x) (z28 (l.getD i par0).1) l ((l.length:Nat):Int) (i:Int)
     (usedP l (z28 (l.getD i par0).1)) u1 u2 (usedP l (z28 (l.getD i par0).1)).length 0 n [] (by omega) (by omega) (by simp)
    rw [yw,List.nil_append] at hloop;refine hloop.trans ?_;have hpm:=qAN u2;have hpl:(pickP l (usedP l (z28 (l.getD i par0).1))).length≤1001:=by unfold pickP; rw [yP]; exact u1
    have hto:qqj (pickP l (usedP l (z28 (l.getD i par0).1)))=true:=by
     unfold qqj;rw [qAO hps (by omega) hpm];have h1:=qkM 1000 (pickP l (usedP l (z28 (l.getD i par0).1))) fun p hp=>by have:=List.all_eq_true.1 hvl p (hpm p hp); exact of_decide_eq_true this
     have h2:valL (pickP l (usedP l (z28 (l.getD i par0).1)))≤1048576:=by omega
     rw [show decide (((pickP l (usedP l (z28 (l.getD i par0).1))).map fun p=>p.2.2.2.1.length).sum≤1048576)=true from dT h2];have h3:(pickP l (usedP l (z28 (l.getD i par0).1))).isEmpty=false:=by
      cases e4:usedP l (z28 (l.getD i par0).1) with
      | nil=>rw [e4] at e; cases e
      | cons _ _=>rfl
     rw [h3];rfl
    unfold qcL;rw [hto,dT (show out.length+([(z28 (l.getD i par0).1,(z30 (pickP l (usedP l (z28 (l.getD i par0).1))),()))]:List PairT).length≤room by unfold room; simp; omega)];simp only [yi,yc];rw [qv (by omega),ih _ _ (z28 (l.getD i par0).1 :: M) (by rw [yn]; simp; omega) (qxu hM _),yl];rfl
theorem qAP:∀ (l0:List qd),(qlZ l0=true)→∃ n,qBp n l0=qhJ (z14 l0):=fun l h=>⟨l.length+1200,by
 have:=qow l h (l.length+1200) l.length 0 (l.length+1200) [] [] [] (by omega) (by omega) (by simp) (fun _=>rfl);rw [yw,List.nil_append] at this;exact this⟩
theorem qEz:∀ (s0:List UInt8),(z7_ok s0=true)→∃ n,z7_sh n s0=qES (z7 s0):=fun s h=>⟨0,by
 unfold z7_ok at h;rw [yf] at h;unfold z7_sh;rw [show qxq s=true from h.1,h.2];rfl⟩
theorem qAQ:∀ (p0:PairT) (x1:List UInt8),(qth p0 x1=true)→∃ n,qBC n p0 x1=qyV (z18 p0 x1).1 (z18 p0 x1).2:=fun p x h=>⟨0,by
 unfold qBC;rw [show qlC p.1 x=true from h];rfl⟩
theorem qty {l:List PairT} (h:qeY l=true) {i:Nat} (hi:i < l.length) (d:PairT):(l.getD i d).1.length≤1048576∧(l.getD i d).2.1.length≤1048576:=by
 unfold qeY at h;rw [yf] at h;have:=List.all_eq_true.1 h.2 (l.getD i d) (by rw [qbV hi]; exact List.getElem_mem hi);rw [yf] at this;exact ⟨qm this.1,qm this.2⟩
theorem qtz {name:List UInt8}:∀ {l:List PairT} {i:Nat},findP name l=some i→i < l.length
 | [],i,h=>by cases h
 | p :: l,i,h=>by
  unfold findP at h;cases e:z19 p.1 name with
  | true=>rw [e] at h; cases h; simp
  | false =>
   rw [e,yd] at h;obtain ⟨j,hj,rfl⟩:=Option.map_eq_some_iff.1 h;have:=qtz hj;rw [yg]; omega
abbrev pair0:PairT:=([],([],()))
theorem qhF (l:List PairT) (name:List UInt8) (hl:qeY l=true) (hn:lenOk name=true) (N:Nat):∀ (d i n:Nat),i+d=l.length→d < n →
 qbQ qbF (qbG N) n l ((l.length:Nat):Int) (i:Int) name =
  qbF (match findP name (l.drop i) with | some j=>((i+j:Nat):Int) | none => -1) name
 | d,i,0,hi,hn=>by omega
 | 0,i,n+1,hi,_=>by
  show qaU _ _ _ n _ _ _ _=_;unfold qaU qaj;have e1:l.drop i=[]:=yA (by omega);rw [dF (by omega),e1];rfl
 | d+1,i,n+1,hi,hnn=>by
  show qaU _ _ _ n _ _ _ _=_;unfold qaU qaj;have hlt:i < l.length:=by omega
  have hd:=qz (d:=pair0) hlt;have hb:=qty hl hlt pair0;have hl1:l.length≤1048576:=by unfold qeY at hl; rw [yf] at hl; exact of_decide_eq_true hl.1
  have ih:=qhF l name hl hn N d (i+1) n (by omega) (by omega);have hok:qth (l.getD i pair0) name=true:=by unfold qth; rw [qn hb.1,hn]; rfl
  rw [hd];unfold findP;simp (disch:=omega) only [dT,yc,yi,y4,tn,qv,hok];rw [show z18 (l.getD i pair0) name=(z19 (l.getD i pair0).1 name,name) from rfl];cases z19 (l.getD i pair0).1 name with
  | true=>rfl
  | false =>
   simp only [yd];rw [ih];cases findP name (l.drop (i+1)) with
   | none=>rfl
   | some j=>simp only [yU]; congr 2; omega
theorem qqn:∀ (s0:List PairT) (f1:List UInt8),(qdO s0 f1=true)→∃ n,qju n s0 f1=qbF (qgK s0 f1).1 (qgK s0 f1).2:=fun l name h=>⟨l.length+1,by
 unfold qdO at h;rw [yf] at h;have:=qhF l name h.1 h.2 (l.length+1) l.length 0 (l.length+1) (by omega) (by omega);rw [yw] at this;refine this.trans ?_;unfold qgK;cases findP name l with
 | none=>rfl
 | some j=>simp⟩
theorem qAR:∀ (l0:List PairT) (name1:List UInt8),(qma l0 name1=true)→∃ n,qBD n l0 name1=quw (z11 l0 name1).1 (z11 l0 name1).2:=fun l name h=>⟨0,by
 have h0:=h;unfold qma at h;rw [yf] at h;unfold qBD z11;rw [show qdO l name=true from h0];unfold qgK;cases e:findP name l with
 | none=>rfl
 | some i =>
  have hi:=qtz e;have hb:=qty h.1 hi pair0;simp only [yc];simp (disch:=omega) only [dT,dF,yc,yd,yi,y4,tn];rw [show qzT (l.getD i pair0).2.1=true from qn hb.2];rfl⟩
end Go.Av
