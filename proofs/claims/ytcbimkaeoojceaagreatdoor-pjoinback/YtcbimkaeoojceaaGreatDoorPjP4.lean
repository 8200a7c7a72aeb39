import Derived.Test.YtcbimkaeoojceaaGreatDoorPjP3
namespace Go.Av
set_option linter.unusedSimpArgs false
set_option linter.unusedVariables false
theorem qIV {α:Type} (s:List α):(((s.length:Nat):Int)==0)=s.isEmpty:=by cases s <;> simp <;> omega
theorem qht {name:LU} {f:qi→Bool}:∀ {l:List qi} {i:Nat},qu name f l=some i→i < l.length
 | [],i,h=>by cases h
 | p :: l,i,h=>by
  unfold qu at h;cases e:z19 p.1 name&&f p with
  | true=>rw [e] at h; cases h; simp
  | false =>
   rw [e,yd] at h;obtain ⟨j,hj,rfl⟩:=Option.map_eq_some_iff.1 h;have:=qht hj;rw [yg]; omega
theorem qyV (l:List qi) (name:LU):∀ (k:Nat) (n:Int),(numsP l name k n).length≤k∧∀ u∈numsP l name k n,0≤u∧u < ((l.length:Nat):Int)
 | 0,n=>by simp [numsP]
 | k+1,n=>by
  unfold numsP;cases e:qu name (numP n) l with
  | none=>simp
  | some i =>
   have h1:=qht e;obtain ⟨h2,h3⟩:=qyV l name k (n+1);refine ⟨by simp only [yg]; omega,fun u hu=>?_⟩;rcases List.mem_cons.1 hu with rfl | hu
   ·omega
   ·exact h3 u hu
theorem qIW (l:List qi) (name:LU):(usedP l name).length≤1001∧∀ u∈usedP l name,0≤u∧u < ((l.length:Nat):Int):=by
 have hn:=qyV l name 1001 0;unfold usedP;cases e1:qu name extP l with
 | some i =>
  have:=qht e1;refine ⟨by simp,fun u hu=>?_⟩;rw [List.mem_singleton.1 hu]; omega
 | none =>
  simp only;cases e2:numsP l name 1001 0 with
  | cons x xs =>
   rw [e2] at hn;cases qu name qaX l <;> exact hn
  | nil =>
   cases e3:qu name qaX l with
   | none=>simp
   | some i =>
    have:=qht e3;refine ⟨by simp,fun u hu=>?_⟩;rw [List.mem_singleton.1 hu]; omega
theorem qIX {l:List qi} {u:LI} (h:∀ x∈u,0≤x∧x < ((l.length:Nat):Int)):∀ p∈pickP l u,p∈l:=fun p hp=>by
 obtain ⟨x,hx,rfl⟩:=List.mem_map.1 hp;have:=h x hx;rw [show (([]:LU),((0:Int),(false,(([]:LU),()))))=par0 from rfl,qeU (by omega)];exact List.getElem_mem _
theorem qIY {l m:List qi} (h:psOk l=true) (hm:m.length≤1048576) (hs:∀ p∈m,p∈l):psOk m=true:=by
 unfold psOk at *
 rw [yf] at *
 exact ⟨dT hm,List.all_eq_true.2 fun p hp=>List.all_eq_true.1 h.2 p (hs p hp)⟩
theorem qnA (b:Nat):∀ l:List qi,(∀ p∈l,p.2.2.2.1.length≤b)→valL l≤b*l.length
 | [],_=>by simp [valL]
 | p :: l,h=>by
  have h1:=qnA b l fun q hq=>h q (List.mem_cons_of_mem _ hq);have h2:=h p List.mem_cons_self;rw [qeW,yg,Nat.mul_succ]; omega
theorem qsC (k2:List qi→List PairT→List (LU×Bool)→LU→List qi→List qi→Int→Int→OA) (l:List qi) (out:List PairT) (met:List (LU×Bool)) (nm:LU) (s13:List qi) (s14 s15:Int)
 (us:LI) (hu:us.length≤1001) (hr:∀ x∈us,0≤x∧x < ((l.length:Nat):Int)):∀ (d i n:Nat) (of9:List qi),i+d=us.length→d < n→of9.length≤i →
 qiN k2 n l out met nm of9 s13 s14 s15 us ((us.length:Nat):Int) (i:Int)=k2 l out met nm (of9++pickP l (us.drop i)) s13 s14 s15
 | d,i,0,of9,hi,hn,_=>by omega
 | 0,i,n+1,of9,hi,hn,_=>by
  show qdI _ _ n _ _ _ _ _ _ _ _ _ _ _=_;unfold qdI;have e1:us.drop i=[]:=yA (by omega);rw [dF (by omega),e1,yd,show pickP l []=[] from rfl,yG]
 | d+1,i,n+1,of9,hi,hn,ho=>by
  show qdI _ _ n _ _ _ _ _ _ _ _ _ _ _=_;unfold qdI;have hlt:i < us.length:=by omega
  have hx:=hr (us.getD i 0) (by rw [qeU hlt]; exact List.getElem_mem hlt);have hd:=qy (d:=(0:Int)) hlt;have ih:=qsC k2 l out met nm s13 s14 s15 us hu hr d (i+1) n (of9++[l.getD (us.getD i 0).toNat par0]) (by omega) (by omega) (by rw [yn]; simp; omega);rw [hd,show pickP l (us.getD i 0 :: us.drop (i+1))=l.getD (us.getD i 0).toNat par0 :: pickP l (us.drop (i+1)) from rfl];simp (disch:=omega) only [dT,yc,yi,y6,tn,qq];rw [dT (show of9.length+([l.getD (us.getD i 0).toNat par0]:List qi).length≤room by unfold room; simp; omega)];simp only [yc,yi];rw [ih,yl];rfl
theorem qyW (k' k:LU):∀ x:List (LU×Bool),@findM .str .bool k' (@putM .str .bool k true x)=bif k'==k then some true else @findM .str .bool k' x
 | []=>by
  show (bif k'==k then some true else none)=_;rfl
 | p :: x=>by
  show @findM .str .bool k' (bif k==p.1 then (p.1,true) :: x else p :: @putM .str .bool k true x)=bif k'==k then some true else bif k'==p.1 then some p.2 else @findM .str .bool k' x
  by_cases e:k=p.1
  ·subst e;rw [beq_self_eq_true,yc];show (bif k'==p.1 then some true else @findM .str .bool k' x)=_;cases k'==p.1 <;> rfl
  ·rw [beq_eq_false_iff_ne.2 e,yd];show (bif k'==p.1 then some p.2 else @findM .str .bool k' (@putM .str .bool k true x))=_;rw [qyW k' k x]
   by_cases e2:k'=p.1
   ·rw [beq_iff_eq.2 e2,beq_eq_false_iff_ne.2 (fun h=>e (h.symm.trans e2))];rfl
   ·rw [beq_eq_false_iff_ne.2 e2]; rfl
def metOk (x:List (LU×Bool)) (M:List LU):Prop:=∀ k,Option.getD (@findM .str .bool k x) false=M.contains k
theorem qEs {x:List (LU×Bool)} {M:List LU} (h:metOk x M) (k:LU):metOk (@putM .str .bool k true x) (k :: M):=fun k'=>by
 rw [qyW,List.contains_cons];cases k'==k with
 | true=>rfl
 | false=>exact h k'
theorem qsD (l:List qi) (hok:qpk l=true) (N:Nat):∀ (d i n:Nat) (out:List PairT) (x:List (LU×Bool)) (M:List LU),i+d=l.length→d+1100 < n→out.length≤i→metOk x M →
 qnI (qem N) n l out x l ((l.length:Nat):Int) (i:Int)=qjR (out++joinF l (l.drop i) M)
 | d,i,0,out,x,M,hi,hn,_,_=>by omega
 | 0,i,n+1,out,x,M,hi,hn,_,_=>by
  show qel _ _ n _ _ _ _ _ _=_;unfold qel qam;have e1:l.drop i=[]:=yA (by omega);rw [dF (by omega),e1,yd];show qjR out=qjR (out++[]);rw [yG]
 | d+1,i,n+1,out,x,M,hi,hn,ho,hM=>by
  show qel _ _ n _ _ _ _ _ _=_;unfold qel qam;have hlt:i < l.length:=by omega
  have hd:=qy (d:=par0) hlt;have hok':=hok;unfold qpk at hok';rw [yf,yf,ym] at hok';obtain ⟨⟨hps,hll⟩,hvl⟩:=hok';have hmem:l.getD i par0∈l:=by rw [qeU hlt]; exact List.getElem_mem hlt
  have hps':=hps;unfold psOk at hps';rw [yf] at hps';have hp:=List.all_eq_true.1 hps'.2 _ hmem;simp only [yf] at hp;have hnl:=qk hp.1;have ih:=fun out' x' M' h1 h2=>qsD l hok N d (i+1) n out' x' M' (by omega) (by omega) h1 h2;have hfl:(z28 (l.getD i par0).1).length=(l.getD i par0).1.length:=by unfold z28; rw [yP]
  have hfo:qgX (l.getD i par0).1=true:=hp.1;have huo:quW l (z28 (l.getD i par0).1)=true:=by
   unfold quW;rw [hps,qn (by omega)];rfl
  rw [hd];show _=qjR (out++bif M.contains (z28 (l.getD i par0).1)||(usedP l (z28 (l.getD i par0).1)).isEmpty then joinF l (l.drop (i+1)) M
   else (z28 (l.getD i par0).1,(z30 (pickP l (usedP l (z28 (l.getD i par0).1))),())) :: joinF l (l.drop (i+1)) (z28 (l.getD i par0).1 :: M))
  simp (disch:=omega) only [dT,yc,yi,y6,tn,qq,hfo,huo];rw [hM (z28 (l.getD i par0).1),show z29 l (z28 (l.getD i par0).1)=usedP l (z28 (l.getD i par0).1) from rfl,qIV];cases M.contains (z28 (l.getD i par0).1) with
  | true=>exact ih out x M (by omega) hM
  | false =>
   cases e:(usedP l (z28 (l.getD i par0).1)).isEmpty with
   | true=>exact ih out x M (by omega) hM
   | false =>
    obtain ⟨u1,u2⟩:=qIW l (z28 (l.getD i par0).1);simp only [yd,Bool.or_false];have hloop:=qsC (qdJ (qem N) (qnI (qem N) n) n) l out (@putM .str .bool (z28 (l.getD i par0).1) true x) (z28 (l.getD i par0).1) l ((l.length:Nat):Int) (i:Int)
     (usedP l (z28 (l.getD i par0).1)) u1 u2 (usedP l (z28 (l.getD i par0).1)).length 0 n [] (by omega) (by omega) (by simp)
    rw [yw,List.nil_append] at hloop;refine hloop.trans ?_;have hpm:=qIX u2;have hpl:(pickP l (usedP l (z28 (l.getD i par0).1))).length≤1001:=by unfold pickP; rw [yP]; exact u1
    have hto:quX (pickP l (usedP l (z28 (l.getD i par0).1)))=true:=by
     unfold quX;rw [qIY hps (by omega) hpm];have h1:=qnA 1000 (pickP l (usedP l (z28 (l.getD i par0).1))) fun p hp=>by have:=List.all_eq_true.1 hvl p (hpm p hp); exact of_decide_eq_true this
     have h2:valL (pickP l (usedP l (z28 (l.getD i par0).1)))≤1048576:=by omega
     rw [show decide (((pickP l (usedP l (z28 (l.getD i par0).1))).map fun p=>p.2.2.2.1.length).sum≤1048576)=true from dT h2];have h3:(pickP l (usedP l (z28 (l.getD i par0).1))).isEmpty=false:=by
      cases e4:usedP l (z28 (l.getD i par0).1) with
      | nil=>rw [e4] at e; cases e
      | cons _ _=>rfl
     rw [h3];rfl
    unfold qdJ;rw [hto,dT (show out.length+([(z28 (l.getD i par0).1,(z30 (pickP l (usedP l (z28 (l.getD i par0).1))),()))]:List PairT).length≤room by unfold room; simp; omega)];simp only [yi,yc];rw [qq (by omega),ih _ _ (z28 (l.getD i par0).1 :: M) (by rw [yn]; simp; omega) (qEs hM _),yl];rfl
theorem qIZ:∀ (l0:List qi),(qpk l0=true)→∃ n,qJM n l0=qjR (z14 l0):=fun l h=>⟨l.length+1200,by
 have:=qsD l h (l.length+1200) l.length 0 (l.length+1200) [] [] [] (by omega) (by omega) (by simp) (fun _=>rfl);rw [yw,List.nil_append] at this;exact this⟩
theorem qOt:∀ (s0:LU),(z7_ok s0=true)→∃ n,z7_sh n s0=qOH (z7 s0):=fun s h=>⟨0,by
 unfold z7_ok at h;rw [yf] at h;unfold z7_sh;rw [show qEm s=true from h.1,h.2];rfl⟩
theorem qJa:∀ (p0:PairT) (x1:LU),(qyG p0 x1=true)→∃ n,qJZ n p0 x1=qGQ (z18 p0 x1).1 (z18 p0 x1).2:=fun p x h=>⟨0,by
 unfold qJZ;rw [show qoK p.1 x=true from h];rfl⟩
theorem qyX {l:List PairT} (h:qjF l=true) {i:Nat} (hi:i < l.length) (d:PairT):(l.getD i d).1.length≤1048576∧(l.getD i d).2.1.length≤1048576:=by
 unfold qjF at h;rw [yf] at h;have:=List.all_eq_true.1 h.2 (l.getD i d) (by rw [qeU hi]; exact List.getElem_mem hi);rw [yf] at this;exact ⟨qk this.1,qk this.2⟩
theorem qyY {name:LU}:∀ {l:List PairT} {i:Nat},findP name l=some i→i < l.length
 | [],i,h=>by cases h
 | p :: l,i,h=>by
  unfold findP at h;cases e:z19 p.1 name with
  | true=>rw [e] at h; cases h; simp
  | false =>
   rw [e,yd] at h;obtain ⟨j,hj,rfl⟩:=Option.map_eq_some_iff.1 h;have:=qyY hj;rw [yg]; omega
abbrev pair0:PairT:=([],([],()))
theorem qjK (l:List PairT) (name:LU) (hl:qjF l=true) (hn:lenOk name=true) (N:Nat):∀ (d i n:Nat),i+d=l.length→d < n →
 qcI qcu (qcv N) n l ((l.length:Nat):Int) (i:Int) name =
  qcu (match findP name (l.drop i) with | some j=>((i+j:Nat):Int) | none => -1) name
 | d,i,0,hi,hn=>by omega
 | 0,i,n+1,hi,_=>by
  show qbx _ _ _ n _ _ _ _=_;unfold qbx qaB;have e1:l.drop i=[]:=yA (by omega);rw [dF (by omega),e1];rfl
 | d+1,i,n+1,hi,hnn=>by
  show qbx _ _ _ n _ _ _ _=_;unfold qbx qaB;have hlt:i < l.length:=by omega
  have hd:=qy (d:=pair0) hlt;have hb:=qyX hl hlt pair0;have hl1:l.length≤1048576:=by unfold qjF at hl; rw [yf] at hl; exact of_decide_eq_true hl.1
  have ih:=qjK l name hl hn N d (i+1) n (by omega) (by omega);have hok:qyG (l.getD i pair0) name=true:=by unfold qyG; rw [qn hb.1,hn]; rfl
  rw [hd];unfold findP;simp (disch:=omega) only [dT,yc,yi,y6,tn,qq,hok];rw [show z18 (l.getD i pair0) name=(z19 (l.getD i pair0).1 name,name) from rfl];cases z19 (l.getD i pair0).1 name with
  | true=>rfl
  | false =>
   simp only [yd];rw [ih];cases findP name (l.drop (i+1)) with
   | none=>rfl
   | some j=>simp only [yU]; congr 2; omega
theorem qvb:∀ (s0:List PairT) (f1:LU),(qeT s0 f1=true)→∃ n,qlI n s0 f1=qcu (qiz s0 f1).1 (qiz s0 f1).2:=fun l name h=>⟨l.length+1,by
 unfold qeT at h;rw [yf] at h;have:=qjK l name h.1 h.2 (l.length+1) l.length 0 (l.length+1) (by omega) (by omega);rw [yw] at this;refine this.trans ?_;unfold qiz;cases findP name l with
 | none=>rfl
 | some j=>simp⟩
theorem qJb:∀ (l0:List PairT) (name1:LU),(qEp l0 name1=true)→∃ n,qKa n l0 name1=qAd (z11 l0 name1).1 (z11 l0 name1).2:=fun l name h=>⟨0,by
 have h0:=h;unfold qEp at h;rw [yf] at h;unfold qKa z11;rw [show qeT l name=true from h0];unfold qiz;cases e:findP name l with
 | none=>rfl
 | some i =>
  have hi:=qyY e;have hb:=qyX h.1 hi pair0;simp only [yc];simp (disch:=omega) only [dT,dF,yc,yd,yi,y6,tn];rw [show qHU (l.getD i pair0).2.1=true from qn hb.2];rfl⟩
end Go.Av
