import Derived.Test.YtabdohophompiaaGreatDoorPxP7
namespace Go.Av
set_option linter.unusedSimpArgs false
set_option linter.unusedVariables false
theorem qky:unqG []=none:=by unfold unqG; rfl
theorem qnO (c:UInt8):unqG [c]=bif c==34 then some ([],1) else none:=by unfold unqG; rfl
theorem qsH (c d:UInt8) (r:List UInt8):unqG (c :: d :: r)=bif c==34 then some ([],1) else bif c==92 then (unqG r).map fun x=>(d :: x.1,x.2+2) else (unqG (d :: r)).map fun x=>(c :: x.1,x.2+1):=by
 conv=>lhs; unfold unqG
theorem qiS (r:List UInt8):unqG (34 :: r)=some ([],1):=by
 cases r with
 | nil=>rw [qnO]; rfl
 | cons d r=>rw [qsH]; rfl
theorem qnP (d:UInt8) (r:List UInt8):unqG (92 :: d :: r)=(unqG r).map fun x=>(d :: x.1,x.2+2):=by rw [qsH]; rfl
theorem qiT (c:UInt8) (r:List UInt8) (h1:(c==34)=false) (h2:(c==92)=false):unqG (c :: r)=(unqG r).map fun x=>(c :: x.1,x.2+1):=by
 cases r with
 | nil=>rw [qnO,h1,qky]; rfl
 | cons d r=>rw [qsH,h1,h2]; rfl
def unqK (ret:List UInt8→Int→Int→Option AV) (out:List UInt8) (i:Nat):Option (List UInt8×Nat)→Option AV
 | some x=>ret (out++x.1) ((i+x.2:Nat):Int) 0
 | none=>ret [] 0 4
theorem qiU (ret:List UInt8→Int→Int→Option AV) (s:List UInt8) (hl:s.length≤1048576):∀ (d i n:Nat) (out:List UInt8),i+d=s.length→d < n→out.length≤i →
 qjc ret (ret [] 0 4) n s out (i:Int)=unqK ret out i (unqG (s.drop i))
 | d,i,0,out,hi,hn,_=>by omega
 | 0,i,n+1,out,hi,hn,_=>by
  show qcb _ _ _ n _ _ _=_;unfold qcb;rw [dF (by omega),yA (by omega),qky];rfl
 | 1,i,n+1,out,hi,hn,ho=>by
  show qcb _ _ _ n _ _ _=_;unfold qcb;have hlt:i < s.length:=by omega
  rw [qC (d:=(0:UInt8)) hlt];have ih:=qiU ret s hl 0 (i+1) n (out++[s.getD i 0]) (by omega) (by omega) (by rw [yn]; simp; omega);simp (disch:=omega) only [dT,yc,yi,tn,qm];rw [yA (by omega)] at ih ⊢;rw [qnO];cases s.getD i 0==34 with
  | true=>simp [unqK]
  | false =>
   simp only [yd];cases e2:s.getD i 0==92 with
   | true=>rw [show (((i+1:Nat):Int)==((s.length:Nat):Int))=true from by rw [qhz,beq_iff_eq]; omega]; rfl
   | false =>
    rw [dT (show out.length+([s.getD i 0]:List UInt8).length≤room by unfold room; simp; omega)];simp only [yd,yc];rw [ih,qky];rfl
 | d+2,i,n+1,out,hi,hn,ho=>by
  show qcb _ _ _ n _ _ _=_;unfold qcb;have hlt:i < s.length:=by omega
  have hlt':i+1 < s.length:=by omega
  have ih:=qiU ret s hl (d+1) (i+1) n (out++[s.getD i 0]) (by omega) (by omega) (by rw [yn]; simp; omega);have ih2:=qiU ret s hl d (i+2) n (out++[s.getD (i+1) 0]) (by omega) (by omega) (by rw [yn]; simp; omega);have hd:=qC (d:=(0:UInt8)) hlt';rw [qC (d:=(0:UInt8)) hlt];have hr1:out.length+([s.getD i 0]:List UInt8).length≤room:=by unfold room; simp; omega
  have hr2:out.length+([s.getD (i+1) 0]:List UInt8).length≤room:=by unfold room; simp; omega
  simp (disch:=omega) only [dT,yc,yi,tn,qm];rw [show (((i+1:Nat):Int)==((s.length:Nat):Int))=false from by rw [qhz,beq_eq_false_iff_ne]; omega];cases e1:s.getD i 0==34 with
  | true=>rw [eq_of_beq e1,qiS]; simp [unqK]
  | false =>
   cases e2:s.getD i 0==92 with
   | true =>
    rw [hd,eq_of_beq e2,qnP];simp only [yd,yc];rw [show qjc ret (ret [] 0 4) n s (out++[s.getD (i+1) 0]) ((i+1+1:Nat):Int)=_ from ih2];cases unqG (s.drop (i+2)) with
    | none=>rfl
    | some x=>simp only [yT,unqK,yl,List.singleton_append]; congr 2; omega
   | false =>
    rw [qiT _ _ e1 e2];simp only [yd];rw [ih];cases unqG (s.drop (i+1)) with
    | none=>rfl
    | some x=>simp only [yT,unqK,yl,List.singleton_append]; congr 2; omega
theorem qAx:∀ (s0:List UInt8),(qps s0=true)→∃ n,qxc n s0=qfj (z66 s0).1 (z66 s0).2.1 (z66 s0).2.2:=fun s h=>⟨s.length+1,by
 unfold qxc;have hl:=qp h;cases s with
 | nil=>rfl
 | cons c r =>
  rw [show ((((c :: r).length:Nat):Int)==0)=false from by rw [beq_eq_false_iff_ne]; simp only [yg]; omega];rw [dT (show (0:Int) < (((c :: r).length:Nat):Int) by simp only [yg]; omega)];simp only [yd,yc,yi,dT (show (0:Int)≤0 by omega)];show (bif c != 34 then _ else _)=_;rw [show z66 (c :: r)=bif c != 34 then ([],(0,3)) else unqR (unqG r) from rfl];cases c != 34 with
  | true=>rfl
  | false =>
   simp only [yd];have:=qiU qfj (c :: r) hl r.length 1 ((c :: r).length+1) [] (by simp only [yg]; omega) (by simp only [yg]; omega) (by simp);rw [show qjc qfj (qgQ ((c :: r).length+1)) ((c :: r).length+1) (c :: r) [] 1=_ from this];rw [List.drop_one,List.tail_cons];cases unqG r with
   | none=>rfl
   | some x=>simp only [unqK,unqR,List.nil_append]; congr 2; omega⟩
theorem qiV (s:List UInt8):s.take (Int.toNat ((s.length:Nat):Int))=s:=by rw [tn,List.take_length]
theorem qfG:∀ (m:Nat) (s:List UInt8),s.length≤m→∀ x,unqG s=some x→x.2≤s.length∧0 < x.2
 | 0,[],_,x,h=>by rw [qky] at h; cases h
 | m+1,[],_,x,h=>by rw [qky] at h; cases h
 | m+1,c :: r,hm,x,h=>by
  simp only [yg] at hm ⊢
  by_cases e1:c=34
  ·subst e1;rw [qiS] at h;cases h;simp
  ·by_cases e2:c=92
   ·subst e2;cases r with
    | nil=>rw [qnO] at h; cases h
    | cons d r =>
     rw [qnP] at h;cases e:unqG r with
     | none=>rw [e] at h; cases h
     | some y =>
      rw [e] at h;cases h;simp only [yg] at hm ⊢;have:=qfG m r (by omega) y e;omega
   ·rw [qiT c r (beq_eq_false_iff_ne.2 e1) (beq_eq_false_iff_ne.2 e2)] at h;cases e:unqG r with
    | none=>rw [e] at h; cases h
    | some y =>
     rw [e] at h;cases h;have:=qfG m r (by omega) y e;simp only;omega
theorem qpB (s:List UInt8):0≤(z66 s).2.1∧(z66 s).2.1≤((s.length:Nat):Int):=by
 cases s with
 | nil=>exact ⟨Int.le_refl 0,Int.le_refl 0⟩
 | cons c r =>
  rw [show z66 (c :: r)=bif c != 34 then ([],(0,3)) else unqR (unqG r) from rfl];cases c != 34 with
  | true=>simp only [yc,yg]; omega
  | false =>
   simp only [yd];cases e:unqG r with
   | none=>simp only [unqR,yg]; omega
   | some x =>
    have:=qfG r.length r (yv _) x e;simp only [unqR,yg];omega
theorem qAy:∀ (s0:List UInt8) (at1:Int),(qwx s0 at1=true)→∃ n,qBn n s0 at1=qkE (z70 s0 at1).1 (z70 s0 at1).2.1 (z70 s0 at1).2.2:=fun s i h=>⟨0,by
 unfold qBn qcy z70 z102;have hl:=qp h;have hc:=qiR s i;rw [qiV,qhz,show qlw s i=true from h];cases e:qF s i==s.length with
 | true=>rfl
 | false =>
  have hne:qF s i≠s.length:=beq_eq_false_iff_ne.1 e;have hu:=qpB (s.drop (qF s i));rw [yK] at hu;simp (disch:=omega) only [dT,yc,yd,yi,Bool.false_or,tn];cases s.getD (qF s i) 0 != 34 with
  | true=>rfl
  | false =>
   simp only [yd];rw [show qps (s.drop (qF s i))=true from qy (by rw [yK]; omega)];simp only [yi,yc];cases (z66 (s.drop (qF s i))).2.2 != 0 with
   | true=>rfl
   | false =>
    simp only [yd];rw [IntWalk.i64_in _ (by omega)]⟩
def outI:Option AV→Option Int
 | some (dc v)=>some v
 | _=>none
theorem qEG:∀ i:Fin 100,(outI (qod 5 (digI ((i.val:Nat):Int)))==some (numV (digI ((i.val:Nat):Int))))=true:=by decide +kernel
theorem qAz:∀ i:Fin 100,numV (digI ((i.val:Nat):Int))=((i.val:Nat):Int):=by decide +kernel
theorem qEH {x:Option AV} {v:Int} (h:outI x=some v):x=some (dc v):=by
 unfold outI at h;split at h
 ·cases h; rfl
 ·cases h
theorem qgC {s:List UInt8} (h:qdC s=true):∃ i:Fin 100,s=digI ((i.val:Nat):Int):=by
 unfold qdC at h;obtain ⟨n,hn,he⟩:=List.any_eq_true.1 h;exact ⟨⟨n,List.mem_range.1 hn⟩,eq_of_beq he⟩
theorem qlB {n:Nat} (h:n < 100):qdC (digI (n:Int))=true:=by
 unfold qdC;exact List.any_eq_true.2 ⟨n,List.mem_range.2 h,beq_self_eq_true _⟩
theorem qwM:∀ (s0:List UInt8),(qdC s0=true)→∃ n,qod n s0=qcW (z104 s0):=fun s h=>⟨5,by
 obtain ⟨i,rfl⟩:=qgC h;exact qEH (eq_of_beq (qEG i))⟩
end Go.Av
