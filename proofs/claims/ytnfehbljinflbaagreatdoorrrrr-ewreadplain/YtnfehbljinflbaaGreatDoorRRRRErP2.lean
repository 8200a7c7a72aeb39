import Derived.Test.YtnfehbljinflbaaGreatDoorRRRRErP
namespace Go.Av
set_option linter.unusedVariables false
set_option linter.unusedSimpArgs false
def qvI:List UInt8:=[97,32,61,63,117,116,102,45,56,63,81,63,98,63,61,13,10,32,61,63,117,116,102,45,56,63,81,63,99,63,61]
theorem qom:z9 qvI=[97,32,98,99]:=by decide +kernel
theorem qsn:z17 qvI=0:=by decide +kernel
theorem qon:(z16 qvI).length=2:=by decide +kernel
theorem qmu:(z15 qvI).length=4:=by decide +kernel
theorem qHS:∃ n,z7_sh n  = qwR z7:=⟨0,by
 show z7_sh 0=_;unfold z7_sh qbS;simp only [show ([97,32,61,63,117,116,102,45,56,63,81,63,98,63,61,13,10,32,61,63,117,116,102,45,56,63,81,63,99,63,61]:List UInt8)=qvI from rfl,qom,qsn,qon,qmu];rfl⟩
theorem qfn (k0:List UInt8→Option AV) (s:List UInt8) (hl:s.length≤1048576) (r:Option AV) (hk:∀ p:List UInt8,noEQE p=true→p.all qfm=true→p.length≤s.length→k0 p=r):∀ (d i n:Nat) (p:List UInt8),i+d=s.length→d < n→noEQE p=true→p.all qfm=true→p.length≤i →
 z6_l5 k0 n p s ((s.length:Nat):Int) (i:Int)=r
 | d,i,0,p,hi,hn,h1,h2,h3=>by omega
 | 0,i,n+1,p,hi,hn,h1,h2,h3=>by
  obtain rfl:i=s.length:=by omega
  show qiU _ _ n _ _ _ _=_;unfold qiU qaQ;rw [dF (by omega)];exact hk p h1 h2 h3
 | d+1,i,n+1,p,hi,hn,h1,h2,h3=>by
  have hlt:i < s.length:=by omega
  have hg:s.getD i 0=s[i]:=by rw [yY,yO hlt]; rfl
  have hno:=qfn k0 s hl r hk d (i+1) n p (by omega) (by omega) h1 h2 (by omega);have hyes:((s[i]==63)&&(decide (0 < p.length)&&(p.getLast? == some 61)))=false→qfm s[i]=true→z6_l5 k0 n (p++[s[i]]) s ((s.length:Nat):Int) ((i+1:Nat):Int)=r:=fun hq ho =>
   qfn k0 s hl r hk d (i+1) n (p++[s[i]]) (by omega) (by omega) (qqd p s[i] h1 hq) (by rw [List.all_append,h2,List.all_cons,ho]; rfl) (by rw [yn]; simp; omega)
  show qiU _ _ n _ _ _ _=_;unfold qiU qaQ;rw [tn,hg,dT (show (i:Int) < ((s.length:Nat):Int) by omega),dT (show (0:Int)≤(i:Int) by omega),qz (by omega),dT (show p.length+[s[i]].length≤room by unfold room; simp; omega)];simp only [yi,yc]
  by_cases c1:s[i] < 32
  ·rw [dT c1]; exact hno
  ·rw [dF c1]
   by_cases c2:126 < s[i]
   ·rw [dT c2]; exact hno
   ·rw [dF c2];have ho:qfm s[i]=true:=by
     unfold qfm;rw [dT (by simpa using c1),dT (by simpa using c2)];rfl
    simp only [yd]
    by_cases c3:s[i]=63
    ·rw [show (s[i]==63)=true by simp [c3]] at hyes ⊢;simp only [yc]
     by_cases c4:0 < p.length
     ·rw [dT (show (0:Int) < ((p.length:Nat):Int) by omega)];have hw:IntKind.wrap .i64 (((p.length:Nat):Int) - 1)=((p.length - 1:Nat):Int):=by
       rw [show ((p.length:Nat):Int) - 1=((p.length - 1:Nat):Int) by omega];exact IntWalk.i64_in _ (by omega)
      have hlast:p.getLast? = some (p.getD (p.length - 1) 0):=by
       rw [List.getLast?_eq_getElem?,yY,yO (by omega)];rfl
      rw [hw,tn,dT (show (0:Int)≤((p.length - 1:Nat):Int) by omega),dT (show ((p.length - 1:Nat):Int) < ((p.length:Nat):Int) by omega)];simp only [yi,yc];rw [dT c4,hlast] at hyes;cases c5:p.getD (p.length - 1) 0==61 with
      | true=>exact hno
      | false =>
       refine hyes ?_ ho;have:(some (p.getD (p.length - 1) 0)==some (61:UInt8))=false:=by
        rw [yB] at c5 ⊢;intro e;exact c5 (yp e)
       rw [this];rfl
     ·rw [dF (show ¬ (0:Int) < ((p.length:Nat):Int) by omega)];refine hyes ?_ ho;rw [dF c4];rfl
    ·rw [show (s[i]==63)=false by simp [c3]] at hyes ⊢;exact hyes rfl ho
theorem qiL (ret:Bool→Option AV) (k2:List UInt8→Option AV) (p:List UInt8) (hl:p.length≤1048576):∀ (d i n:Nat),i+d=p.length→d < n →
 qoB ret k2 n p (p.map fun c=>(c.toNat:Int)) p ((p.length:Nat):Int) (i:Int)=k2 p
 | d,i,0,hi,hn=>by omega
 | 0,i,n+1,hi,hn=>by
  obtain rfl:i=p.length:=by omega
  show qfu _ _ _ n _ _ _ _ _=_;unfold qfu;rw [dF (by omega)];rfl
 | d+1,i,n+1,hi,hn=>by
  have hlt:i < p.length:=by omega
  have hg:p.getD i 0=p[i]:=by rw [yY,yO hlt]; rfl
  have hg2:(p.map fun c=>(c.toNat:Int)).getD i 0=(p[i].toNat:Int):=by rw [yY,List.getElem?_map,yO hlt]; rfl
  have hb:=p[i].toNat_lt;show qfu _ _ _ n _ _ _ _ _=_;unfold qfu;rw [tn,hg,hg2,dT (show (i:Int) < ((p.length:Nat):Int) by omega),dT (show (0:Int)≤(i:Int) by omega),yP,dT (show (i:Int) < ((p.length:Nat):Int) by omega),qz (by omega),IntWalk.i32_in _ (show -2147483648≤((p[i].toNat:Nat):Int)∧((p[i].toNat:Nat):Int)≤2147483647 by omega),bneF rfl];exact qiL ret k2 p hl d (i+1) n (by omega) (by omega)
theorem qHT:∀ (s0:List UInt8),∃ n,z6_sh n s0=qoA (z6 s0):=fun s=>⟨1048577,by
 unfold z6_sh
 by_cases h:(500:Int) < ((s.length:Nat):Int)
 ·rw [dT h]; rfl
 ·rw [dF h];refine qfn _ s (by omega) _ (fun p h1 h2 h3=>?_) s.length 0 1048577 [] (yE _) (by omega) rfl rfl (yv _);obtain ⟨e1,e2⟩:=qvA h1 h2;unfold qiV;rw [show z9_ok p=true from qo (by omega),e1,yP,bneF rfl];simp only [yi,yc,yd];refine Eq.trans (qiL _ _ p (by omega) p.length 0 1048577 (yE _) (by omega)) ?_;unfold qid;rw [show qvC p=true from qo (by omega),e2];rfl⟩
end Go.Av
