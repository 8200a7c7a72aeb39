import Derived.Test.YtabdohophompiaaGreatDoorPxT2
namespace Go.Av
set_option linter.unusedSimpArgs false
set_option linter.unusedVariables false
theorem qdD {α β:Type} {t:List α} {dv:α} {f:α→List β} {k0:List β→Option AV} {L:Nat→List β→Int→Option AV} {b M:Nat} (hf:∀ x∈t,(f x).length≤b)
 (hL:∀ (n i:Nat) (out:List β),i < t.length→out.length+b≤M→L (n+1) out (i:Int)=L n (out++f (t.getD i dv)) ((i+1:Nat):Int)) (hE:∀ n out,L (n+1) out ((t.length:Nat):Int)=k0 out) :
 ∀ (d i n:Nat) (out:List β),i+d=t.length→d < n→out.length+b*d≤M→L n out (i:Int)=k0 (out++(t.drop i).flatMap f)
 | d,i,0,out,hi,hn,_=>by omega
 | 0,i,n+1,out,hi,hn,_=>by
  obtain rfl:i=t.length:=by omega
  rw [hE,yA (by omega)];simp
 | d+1,i,n+1,out,hi,hn,hb=>by
  have hlt:i < t.length:=by omega
  have hx:=hf (t.getD i dv) (by rw [yX,yO hlt]; exact List.getElem_mem hlt);have hb':b*(d+1)=b*d+b:=by rw [Nat.mul_succ]
  have h0:0≤b*d:=Nat.zero_le _;rw [hL n i out hlt (by omega),qdD hf hL hE d (i+1) n _ (by omega) (by omega) (by rw [yn]; omega),qC (d:=dv) hlt];simp only [List.flatMap_cons,yl]
theorem qao {α:Type} {l:List α} (h:len1k l=true):l.length≤1000:=by unfold len1k at h; exact of_decide_eq_true h
theorem qaV {α:Type} {l:List α} (h:l.length≤1000):len1k l=true:=by unfold len1k; exact dT h
theorem qzJ:∀ (c0:UInt8),∃ n,qAQ n c0=qtq (z79 c0):=fun c=>⟨0,by
 unfold qAQ z79;cases z100 c 256 <;> rfl⟩
theorem qsm (c:UInt8):(oneC c).length≤3:=by
 unfold oneC z116;cases z100 c 256 <;> simp
theorem qzK:∀ (s0:List UInt8),(qwm s0=true)→∃ n,qwW n s0=qys (z45 s0):=fun s h=>⟨s.length+1,by
 have hl:=qao h;unfold qwW z45;have:=qdD (t:=s) (dv:=0) (f:=oneC) (b:=3) (M:=4000) (k0:=qeD (s.length+1)) (L:=fun n out i=>qlL (qeD (s.length+1)) n out s ((s.length:Nat):Int) i) (fun x _=>qsm x) (fun n i out hi hb=>by
  show qeC _ _ n _ _ _ _=_;unfold qeC;rw [show quK out 37 (s.getD (Int.toNat (i:Int)) 0)=true from qy (by omega)];unfold room;simp (disch:=omega) only [dT,yc,yi,tn,qm,yg,List.length_nil];unfold z79 oneC z80;cases z100 (s.getD i 0) 256 <;> rfl) (fun n out=>by
  show qeC _ _ n _ _ _ _=_;unfold qeC;rw [dF (by omega)];rfl) s.length 0 (s.length+1) [] (by omega) (by omega) (by simp; omega)
 refine this.trans ?_;rw [yw];rfl⟩
theorem qxS (c:UInt8) (k:Int):z65 c k=z100 c k:=rfl
theorem qsn (c:UInt8):(quoC c).length≤2:=by
 unfold quoC;cases (c==34)||(c==92) <;> simp
theorem qxT (s:List UInt8):(s.flatMap quoC).length≤2*s.length:=by
 induction s with
 | nil=>simp
 | cons c r ih =>
  have:=qsn c;rw [List.flatMap_cons,yn,yg];omega
theorem qzL:∀ (s0:List UInt8),(qwn s0=true)→∃ n,qwZ n s0=qyy (z94 s0):=fun s h=>⟨s.length+1,by
 have hl:=qao h;unfold qwZ z94 quoL;have:=qdD (t:=s) (dv:=0) (f:=quoC) (b:=2) (M:=4000) (k0:=qcV (s.length+1)) (L:=fun n out i=>qlN (qcV (s.length+1)) n out s ((s.length:Nat):Int) i) (fun x _=>qsn x) (fun n i out hi hb=>by
  show qeH _ _ n _ _ _ _=_;unfold qeH qS room;simp (disch:=omega) only [dT,yc,yi,tn,qm,yg,List.length_nil,yn];unfold quoC;cases s.getD i 0==34 <;> cases s.getD i 0==92 <;> first | rfl | (simp only [yc,yd,Bool.or_self,Bool.or_true,Bool.or_false,yl,List.cons_append,List.nil_append])) (fun n out=>by
  show qeH _ _ n _ _ _ _=_;unfold qeH qS;rw [dF (by omega)];rfl) s.length 0 (s.length+1) [34] (by omega) (by omega) (by simp; omega)
 refine this.trans ?_;have hq:=qxT s;rw [yw];unfold qcV room;rw [dT (by simp only [yn,yg,List.length_nil]; omega)];rfl⟩
theorem qEr {α:Type} (s:List α):decide ((0:Int) < ((s.length:Nat):Int)) = !s.isEmpty:=by cases s <;> simp <;> omega
theorem qzM:∀ (s0:List UInt8),(qwo s0=true)→∃ n,qAY n s0=qtw (z93 s0):=fun s h=>⟨0,by
 have hl:=qao h;unfold qAY z93 tokB;rw [qEr,show qoK s 64=true from qy (by omega)];unfold z36;cases s.isEmpty <;> rfl⟩
theorem qzN:∀ (s0:List UInt8),(qwp s0=true)→∃ n,qAZ n s0=qtx (z54 s0):=fun s h=>⟨0,by
 have hl:=qao h;unfold qAZ z54 atomL;rw [show qwo s=true from h,show qgt s=true from qy (by omega),show qwn s=true from h,show z93 s=tokB s from rfl];cases tokB s <;> rfl⟩
theorem qwz (s:List UInt8) (k:Int):((z37 s k)==((s.length:Nat):Int))=s.all fun c=>z100 c k:=qkH _ s
theorem qiN {n:Int} (h:qkq n=true):0≤n∧n < 100:=by unfold qkq at h; exact of_decide_eq_true h
theorem qGX {n:Int} (h:0≤n∧n < 100):qkq n=true:=by unfold qkq; exact dT h
def outS:Option AV→Option (List UInt8)
 | some (df s none)=>some s
 | _=>none
theorem qwA:∀ i:Fin 100,(outS (qhC 0 ((i.val:Nat):Int))==some (digI ((i.val:Nat):Int)))=true:=by decide +kernel
theorem qwB:∀ (i0:Int),(qnE i0=true)→∃ n,qhC n i0=qeI (z136 i0):=fun n h=>⟨0,by
 have hr:=qiN h;obtain ⟨k,rfl⟩:∃ k:Nat,n=(k:Int):=⟨n.toNat,by omega⟩;have h1:=eq_of_beq (qwA ⟨k,by omega⟩);unfold z136;revert h1;show outS (qhC 0 (k:Int))=some (digI (k:Int))→qhC 0 (k:Int)=qeI (digI (k:Int));generalize digI (k:Int)=r;unfold qhC qdI qgO qgN;intro h1;cases e:decide ((k:Int) < 10) with
 | true =>
  rw [e] at h1;simp only [yc] at h1 ⊢;revert h1;cases (decide ((0:Int)≤(k:Int))&&decide ((k:Int)≤IntKind.wrap .i64 ((k:Int)+1))&&decide (IntKind.wrap .i64 ((k:Int)+1)≤_)) with
  | true=>intro h1; exact congrArg qeI (yp h1)
  | false=>intro h1; cases h1
 | false =>
  rw [e] at h1;simp only [yd] at h1 ⊢;revert h1;cases (decide ((0:Int)≤IntKind.wrap .i64 ((k:Int)*2))&&decide (IntKind.wrap .i64 ((k:Int)*2)≤IntKind.wrap .i64 (IntKind.wrap .i64 ((k:Int)*2)+2))&&decide (IntKind.wrap .i64 (IntKind.wrap .i64 ((k:Int)*2)+2)≤_)) with
  | true=>intro h1; exact congrArg qeI (yp h1)
  | false=>intro h1; cases h1⟩
theorem qiO (n:Int):(digI n).length≤2:=by
 unfold digI;cases decide (n < 10) <;> simp
theorem qGY {x:Int} (h:0≤x∧x < 9223372036854775808):IntKind.wrap .u64 x=x:=IntWalk.u64_in x (by omega)
theorem qwC:∀ (dst0:List UInt8) (i1:Int) (base2:Int),(qhx dst0 i1 base2=true)→∃ n,qtA n dst0 i1 base2=qtz (z133 dst0 i1 base2):=fun dst n b h=>⟨0,by
 unfold qhx at h;simp only [yf] at h;obtain ⟨h1,h2,h3⟩:=h;have hr:=qiN h2;have hd:=qiO n;have hl:=qp h1;unfold qtA;rw [h3,dT hr.2,wr (x:=n) (by omega)];unfold z136 room;rw [show qnE n=true from h2,dT (by omega)];rfl⟩
theorem qwD:∀ (dst0:List UInt8) (i1:Int) (base2:Int),(qkr dst0 i1 base2=true)→∃ n,qtB n dst0 i1 base2=qlO (z123 dst0 i1 base2):=fun dst n b h=>⟨0,by
 have h':=h;unfold qkr at h;simp only [yf] at h;have hr:=qiN h.2.1;unfold qtB;rw [dF (show ¬ n < 0 by omega),qGY (x:=n) (by omega),show qhx dst n b=true from h'];rfl⟩
theorem qzO:∀ (dst0:List UInt8) (i1:Int) (base2:Int),(qse dst0 i1 base2=true)→∃ n,qBb n dst0 i1 base2=qyz (z95 dst0 i1 base2):=fun dst n b h=>⟨0,by
 unfold qBb;rw [show qkr dst n b=true from h];rfl⟩
end Go.Av
