import Derived.Test.YtcbimkaeoojceaaGreatDoorPjP6
namespace Go.Av
set_option linter.unusedSimpArgs false
set_option linter.unusedVariables false
def upC (c:UInt8):UInt8:=bif decide ((97:UInt8)≤c) then (bif decide (c≤(122:UInt8)) then c - 32 else c) else c
theorem qGJ:∀ i:Fin 256,z44 (upC (UInt8.ofNat i.val))=z44 (UInt8.ofNat i.val):=by decide +kernel
theorem qEI (s:List UInt8):z28 (s.map upC)=z28 s:=by
 unfold z28;rw [List.map_map];exact List.map_congr_left fun c _=>qBJ (P:=fun c=>z44 (upC c)=z44 c) qGJ c
theorem qoA (a b:List UInt8):z19 a b=(z28 a==z28 b):=rfl
theorem qtD {big nm:List UInt8} (hb:z28 big=nm):∀ (P:List PairT) (i:Nat) (p:PairT),P[i]? = some p→p.1=nm→(∀ q∈P,z28 q.1=q.1)→(P.map (·.1)).Nodup→findP big P=some i
 | [],i,p,h,_,_,_=>by simp at h
 | q :: P,0,p,h,hn,hf,_=>by
  simp only [y3,ya] at h;subst h;unfold findP;rw [qoA,hf q List.mem_cons_self,hb,hn,beq_self_eq_true];rfl
 | q :: P,i+1,p,h,hn,hf,hd=>by
  simp only [yZ] at h;rw [yI,List.nodup_cons] at hd;have ih:=qtD hb P i p h hn (fun x hx=>hf x (List.mem_cons_of_mem _ hx)) hd.2;unfold findP;rw [qoA,hf q List.mem_cons_self,hb,ih];have:q.1≠nm:=fun e=>hd.1 (by rw [e,← hn]; exact List.mem_map.2 ⟨p,List.mem_of_getElem? h,rfl⟩);rw [beq_eq_false_iff_ne.2 this];rfl
theorem qkN (ret:Bool→Option AV) (k2:List UInt8→List PairT→Int→PairT→List PairT→Int→Int→Option AV) (s:List UInt8) (P:List PairT) (n4:Int) (p:PairT) (s19:List PairT) (s20 s21:Int) (m:Nat) (hm:m≤P.length) (hP:P.length≤1000)
 (hne:∀ j,j < m→(P.getD j pair0).1≠p.1∧(P.getD j pair0).1.length≤1000):∀ (d i n:Nat),i+d=m→d < n →
 z4_l9 ret k2 n s P n4 p s19 s20 s21 ((m:Nat):Int) (i:Int)=k2 s P n4 p s19 s20 s21
 | d,i,0,hi,hn=>by omega
 | 0,i,n+1,hi,hn=>by
  show qhO _ _ _ n _ _ _ _ _ _ _ _ _=_;unfold qhO;rw [dF (by omega)];rfl
 | d+1,i,n+1,hi,hn=>by
  show qhO _ _ _ n _ _ _ _ _ _ _ _ _=_;unfold qhO;have ih:=qkN ret k2 s P n4 p s19 s20 s21 m hm hP hne d (i+1) n (by omega) (by omega);obtain ⟨h1,h2⟩:=hne i (by omega);have hok:z8_ok (P.getD i pair0).1 p.1=true:=qn (by omega);have hlk:z8 (P.getD i pair0).1 p.1=false:=dF h1;simp (disch:=omega) only [dT,yc,yd,yi,tn,qv,hok,hlk];exact ih
theorem qtE (k4:List UInt8→List PairT→Int→PairT→List UInt8→List PairT→Int→Int→Option AV) (s:List UInt8) (P:List PairT) (n4:Int) (p:PairT) (s19:List PairT) (s20 s21:Int) (b:List UInt8) (hb:b.length≤1000):∀ (d i n:Nat) (out:List UInt8),i+d=b.length→d < n→out.length≤i →
 qmw k4 n s P n4 p out s19 s20 s21 b ((b.length:Nat):Int) (i:Int)=k4 s P n4 p (out++(b.drop i).map upC) s19 s20 s21
 | d,i,0,out,hi,hn,_=>by omega
 | 0,i,n+1,out,hi,hn,_=>by
  show qeO _ _ n _ _ _ _ _ _ _ _ _ _ _=_;unfold qeO qX;have e1:b.drop i=[]:=yA (by omega);rw [dF (by omega),e1,yd,List.map_nil,yG]
 | d+1,i,n+1,out,hi,hn,ho=>by
  show qeO _ _ n _ _ _ _ _ _ _ _ _ _ _=_;unfold qeO qX;have hlt:i < b.length:=by omega
  have ih:=qtE k4 s P n4 p s19 s20 s21 b hb d (i+1) n (out++[upC (b.getD i 0)]) (by omega) (by omega) (by rw [yn]; simp; omega);have hrm:∀ c:UInt8,out.length+([c]:List UInt8).length≤room:=fun c=>by unfold room; simp; omega
  rw [qz (d:=(0:UInt8)) hlt,yI];rw [yl] at ih;rw [dT (show (i:Int) < ((b.length:Nat):Int) by omega),dT (show (0:Int)≤(i:Int) by omega),tn,qv (by omega)];simp only [dT (hrm _),yi,yc];rw [show [upC (b.getD i 0)]++(b.drop (i+1)).map upC=upC (b.getD i 0) :: (b.drop (i+1)).map upC from rfl] at ih;rw [← ih];unfold upC;cases decide ((97:UInt8)≤b.getD i 0) with
  | false=>rfl
  | true=>cases decide (b.getD i 0≤(122:UInt8)) <;> rfl
theorem qoB {p:Int→Bool}:∀ (t:List Int) (i:Int),t.all p=true→qdf p t i = -1
 | [],i,_=>rfl
 | c :: t,i,h=>by
  simp only [List.all_cons,yf] at h;show (bif p c then qdf p t (i+1) else i) = -1;rw [h.1];exact qoB t (i+1) h.2
theorem qxw (P:List PairT) {i:Nat} (h:i < P.length):txtL (P.take (i+1))=txtL (P.take i)+(P.getD i pair0).2.1.length:=by
 rw [List.take_succ_eq_append_getElem h,qbV h];unfold txtL;rw [List.map_append,List.sum_append];simp only [yI,List.map_nil,List.sum_cons,List.sum_nil,Nat.add_zero]
theorem qEJ (P:List PairT) (i:Nat):txtL (P.take i)≤txtL P:=by
 have:∀ (P:List PairT) (i:Nat),txtL (P.take i)≤txtL P:=fun P=>by
  induction P with
  | nil=>intro i; simp
  | cons p P ih =>
   intro i;cases i with
   | zero=>simp [txtL]
   | succ i=>have:=ih i; rw [List.take_succ_cons,qje,qje]; omega
 exact this P i
theorem qoC (s:List UInt8) (hs:s.length≤400) (P:List PairT) (hP:OnceG s P) (N:Nat):∀ (d i n:Nat),i+d=P.length→d+1100 < n →
 z4_l6 qeN (qcU N) n s P ((txtL (P.take i):Nat):Int) P ((P.length:Nat):Int) (i:Int)=qeN true
 | d,i,0,hi,hn=>by omega
 | 0,i,n+1,hi,hn=>by
  show qhf _ _ _ n _ _ _ _ _ _=_;unfold qhf;have ht:=hP.total;rw [dF (by omega),yd,List.take_of_length_le (by omega)];unfold qcU;rw [dT (by omega)];rfl
 | d+1,i,n+1,hi,hn=>by
  show qhf _ _ _ n _ _ _ _ _ _=_;unfold qhf;have hlt:i < P.length:=by omega
  have hc:=hP.count;have hto:=hP.total;have hat:P[i]? = some (P.getD i pair0):=by rw [qbV hlt]; exact yO hlt
  have hmem:P.getD i pair0∈P:=List.mem_of_getElem? hat;obtain ⟨q1,q2,q3,q4⟩:=hP.each _ hmem;have ih:=qoC s hs P hP N d (i+1) n (by omega) (by omega);rw [dT (show (i:Int) < ((P.length:Nat):Int) by omega),dT (show (0:Int)≤(i:Int) by omega),tn];simp only [yi,yc];have h9:=qkN qeN (qhe qeN (qcU N) (z4_l6 qeN (qcU N) n) n) s P ((txtL (P.take i):Nat):Int) (P.getD i pair0) P ((P.length:Nat):Int) (i:Int) i (by omega) hc (fun j hj=>by
   have hj':j < P.length:=by omega
   have hjm:P.getD j pair0∈P:=by rw [qbV hj']; exact List.getElem_mem hj'
   refine ⟨fun e=>?_,(hP.each _ hjm).2.1⟩;have hnd:=hP.names;have e1:(P.map (·.1))[j]'(by rw [yP]; exact hj')=(P.map (·.1))[i]'(by rw [yP]; exact hlt):=by
    rw [List.getElem_map,List.getElem_map];rw [qbV hj',qbV hlt] at e;exact e
   exact (List.pairwise_iff_getElem.1 hnd) j i (by rw [yP]; exact hj') (by rw [yP]; exact hlt) hj e1) i 0 n (by omega) (by omega)
  refine h9.trans ?_;unfold qhe;have h16:=qtE (qeP qeN (qcU N) (z4_l6 qeN (qcU N) n) n) s P ((txtL (P.take i):Nat):Int) (P.getD i pair0) P ((P.length:Nat):Int) (i:Int) (P.getD i pair0).1 q2 (P.getD i pair0).1.length 0 n [] (by omega) (by omega) (by simp);rw [yw,List.nil_append] at h16;refine h16.trans ?_;unfold qeP;have hbl:((P.getD i pair0).1.map upC).length=(P.getD i pair0).1.length:=by rw [yP]
  have hfp:findP ((P.getD i pair0).1.map upC) P=some i:=qtD (nm:=(P.getD i pair0).1) (by rw [qEI,q1]) P i _ hat rfl (fun q hq=>(hP.each q hq).1) hP.names;have hpo:qeY P=true:=by
   unfold qeY;rw [dT (by omega),List.all_eq_true.2 fun q hq=>?_]
   ·rfl
   ·obtain ⟨_,k2,k3,_⟩:=hP.each q hq;rw [qn (by omega),qn (by omega)]; rfl
  have hfo:qma P ((P.getD i pair0).1.map upC)=true:=by unfold qma; rw [hpo,qn (by omega)]; rfl
  have hfi:z11 P ((P.getD i pair0).1.map upC)=((P.getD i pair0).2.1,true):=by unfold z11; rw [hfp]
  have h3:=qxw P hlt;have h4:=qEJ P (i+1);rw [hfo,hfi];simp only [yi,yc,Bool.not_true,yd];rw [show qpD (P.getD i pair0).2.1 (P.getD i pair0).2.1=true from qn (by omega),show z10 (P.getD i pair0).2.1 (P.getD i pair0).2.1=true from dT rfl,show qyq (P.getD i pair0).2.1=true from qn (by omega)];rw [show z12 (P.getD i pair0).2.1 = -1 from qoB _ 0 q4];simp only [yi,yc,Bool.not_true,yd];rw [dF (show ¬ (0:Int) ≤ -1 by omega),yd,qv (by omega),show ((txtL (P.take i):Nat):Int)+(((P.getD i pair0).2.1.length:Nat):Int)=((txtL (P.take (i+1)):Nat):Int) from by omega,qdP (by omega)];exact ih
theorem qEK:∀ (s0:List UInt8),∃ n,z4_sh n s0=qeN (z4 s0):=fun s=>⟨3000,by
 unfold z4_sh
 by_cases h:(400:Int) < ((s.length:Nat):Int)
 ·rw [dT h]; rfl
 ·rw [dF h,qEC (by omega)];have hP:=qEH s (by omega);have hc:=hP.count;exact qoC s (by omega) (z7 s) hP 3000 (z7 s).length 0 3000 (by omega) (by omega)⟩
end Go.Av
