import Derived.Test.YtnfehbljinflbaaGreatDoorRRRRErP
namespace Go.Av
theorem qcU (k0:List LI→LI→Int→OA) (l:List qz) (hl:l.length≤1048576) (hm:∀ p∈l,p.2.1.length≤1048576):∀ (d i n:Nat) (out:List LI) (sets:LI) (odd:Int),i+d=l.length→d < n→out.length≤i→sets.length≤i→0≤odd→odd≤(i:Int) →
 qtj k0 n out sets odd l (i:Int)=k0 (out++(l.drop i).map qaB) (sets++(qbe (l.drop i)).map z31) (odd+oddOf (qbe (l.drop i)))
 | d,i,0,out,sets,odd,hi,hn,h1,h2,h3,h4=>by omega
 | 0,i,n+1,out,sets,odd,hi,hn,h1,h2,h3,h4=>by
  obtain rfl:i=l.length:=by omega
  show qhj _ _ n _ _ _ _ _=_;unfold qhj qaX qE;rw [dF (by omega),List.drop_length];show k0 out sets odd=k0 (out++[]) (sets++[]) (odd+((0:Nat):Int));rw [yG,yG];congr 1;omega
 | d+1,i,n+1,out,sets,odd,hi,hn,h1,h2,h3,h4=>by
  have hlt:i < l.length:=by omega
  have hp:=hm _ (List.getElem_mem hlt);show qhj _ _ n _ _ _ _ _=_;unfold qhj qaX qE;rw [tn,qdC hlt,List.drop_eq_getElem_cons hlt];obtain ⟨k,rfl⟩:∃ k:Nat,odd=k:=⟨odd.toNat,by omega⟩;rw [dT (show (i:Int) < ((l.length:Nat):Int) by omega),dT (show (0:Int)≤(i:Int) by omega),qf (i:=i) (by omega),qf (i:=k) (by omega),
   show qFI l[i].2.1=true from qg hp,show qrJ l[i].2.1=true from qg hp,show qFG l[i].2.1=true from qg hp,show qwW l[i].2.1=true from qg hp,
   show z26 l[i].2.1=z33 l[i].2.1 from rfl,show z25 l[i].2.1=z31 l[i].2.1 from rfl]
  have r1:∀ z:LI,decide (out.length+[z].length≤room)=true:=fun z=>dT (by unfold room; simp; omega);have r2:∀ z:Int,decide (sets.length+[z].length≤room)=true:=fun z=>dT (by unfold room; simp; omega);simp only [r1,r2,yi,yc];have hw:qbe (l[i] :: l.drop (i+1))=bif l[i].1==3 then l[i].2.1 :: qbe (l.drop (i+1)) else qbe (l.drop (i+1)):=by
   unfold qbe;cases hk:l[i].1==3 with
   | true=>rw [List.filter_cons_of_pos (by simp [hk])]; rfl
   | false=>rw [List.filter_cons_of_neg (by simp [hk])]; rfl
  rw [hw,yI];have hr:qaB l[i]=bif l[i].1==3 then (z39 l[i].2.1).1 else z38 l[i].2.1:=rfl
  cases hk:l[i].1==3 with
  | false =>
   rw [hk] at hr;simp only [yd];have ih:=qcU k0 l hl hm d (i+1) n (out++[(z27 l[i].2.1).1]) sets (k:Int) (by omega) (by omega) (by rw [yn]; simp; omega) (by omega) (by omega) (by omega);rw [ih,yl,hr];rfl
  | true =>
   rw [hk] at hr;simp only [yc,yI];have ho:oddOf (l[i].2.1 :: qbe (l.drop (i+1)))=(bif z33 l[i].2.1 then 0 else 1)+oddOf (qbe (l.drop (i+1))):=by
    unfold oddOf;cases hs:z33 l[i].2.1 with
    | true=>rw [List.countP_cons_of_neg (by simp [hs])]; simp
    | false=>rw [List.countP_cons_of_pos (by simp [hs])]; simp; omega
   rw [ho,hr];cases hs:z33 l[i].2.1 with
   | false =>
    simp only [Bool.not_false,yc,yd];have ih:=qcU k0 l hl hm d (i+1) n (out++[(z24 l[i].2.1).1]) (sets++[z31 l[i].2.1]) ((k+1:Nat):Int) (by omega) (by omega) (by rw [yn]; simp; omega) (by rw [yn]; simp; omega) (by omega) (by omega);rw [ih,yl,yl];show k0 (out++((z39 l[i].2.1).1 :: _)) (sets++(z31 l[i].2.1 :: _)) _=_;congr 1;omega
   | true =>
    simp only [Bool.not_true,yc,yd];have ih:=qcU k0 l hl hm d (i+1) n (out++[(z24 l[i].2.1).1]) (sets++[z31 l[i].2.1]) (k:Int) (by omega) (by omega) (by rw [yn]; simp; omega) (by rw [yn]; simp; omega) (by omega) (by omega);rw [ih,yl,yl];show k0 (out++((z39 l[i].2.1).1 :: _)) (sets++(z31 l[i].2.1 :: _)) _=_;congr 1;omega
theorem qMh:∀ (s0:LU),(qHM s0=true)→∃ n,qIf n s0=qKy (z14 s0).1 (z14 s0).2.1 (z14 s0).2.2:=fun s h=>⟨1048577,by
 have hs:=qd (show lenOk s=true from h);have hc:=qbu s;unfold qIf;rw [show qJH s=true from h,show z23 s=z37 s from rfl];have:=qcU (qkB 1048577) (z37 s) (by omega) (fun p hp=>yL (qfG s p hp) hs) _ 0 1048577 [] [] 0 (yE _) (by omega) (by simp) (by simp) (by omega) (by omega);refine Eq.trans this ?_;rw [yw,List.nil_append,List.nil_append,Int.zero_add];rfl⟩
theorem qqq (k0:LI→OA) (l:List LI) (hl:l.length≤1048576):∀ (d i n:Nat) (out:LI),i+d=l.length→d < n→(out++(l.drop i).flatten).length≤1048576 →
 qtk k0 n out l (i:Int)=k0 (out++(l.drop i).flatten)
 | d,i,0,out,hi,hn,h1=>by omega
 | 0,i,n+1,out,hi,hn,h1=>by
  obtain rfl:i=l.length:=by omega
  show qhk _ _ n _ _ _=_;unfold qhk;rw [dF (by omega),List.drop_length,List.flatten_nil,yG];rfl
 | d+1,i,n+1,out,hi,hn,h1=>by
  have hlt:i < l.length:=by omega
  have hg:l.getD i []=l[i]:=by rw [yY,yO hlt]; rfl
  rw [List.drop_eq_getElem_cons hlt,List.flatten_cons,← yl] at h1 ⊢;have h2:(out++l[i]).length≤1048576:=by rw [yn] at h1; omega
  rw [yn] at h2;show qhk _ _ n _ _ _=_;unfold qhk;rw [tn,hg,dT (show (i:Int) < ((l.length:Nat):Int) by omega),dT (show (0:Int)≤(i:Int) by omega),qf (by omega),dT (show out.length+l[i].length≤room by unfold room; omega)];exact qqq k0 l hl d (i+1) n (out++l[i]) (by omega) (by omega) h1
theorem qMi:∀ (s0:LU),(qym s0=true)→∃ n,qIg n s0=qKz (z12 s0):=fun s h=>⟨1048577,by
 have hs:=qd (show lenOk s=true from h);have hc:=qbu s;have hr:=qCq s;unfold qIg;rw [show qHM s=true from h,show (z14 s).1=(z37 s).map qaB from rfl];have hf:((z37 s).map qaB).flatten=z11 s:=by unfold z11; rw [List.flatMap_def]
 have:=qqq (qkC 1048577) ((z37 s).map qaB) (by rw [yP]; omega) _ 0 1048577 [] (yE _) (by rw [yP]; omega) (by rw [yw,hf]; exact yL hr hs);refine Eq.trans this ?_;rw [yw,List.nil_append,hf];rfl⟩
theorem qMj:∀ (s0:LU),(qHN s0=true)→∃ n,qNm n s0=qKB (z10 s0):=fun s h=>⟨0,by
 have h:lenOk s=true:=h;unfold qNm;rw [show qJJ s=true from h,show qym (z13 s).1=true from qCw h];rfl⟩
def qCy:LU:=[97,32,61,63,117,116,102,45,56,63,81,63,98,63,61,13,10,32,61,63,117,116,102,45,56,63,81,63,99,63,61]
theorem qsL:z9 qCy=[97,32,98,99]:=by decide +kernel
theorem qyz:z17 qCy=0:=by decide +kernel
theorem qsM:(z16 qCy).length=2:=by decide +kernel
theorem qqr:(z15 qCy).length=4:=by decide +kernel
theorem qSK:∃ n,z7_sh n  = qDH z7:=⟨0,by
 show z7_sh 0=_;unfold z7_sh qcu;simp only [show ([97,32,61,63,117,116,102,45,56,63,81,63,98,63,61,13,10,32,61,63,117,116,102,45,56,63,81,63,99,63,61]:LU)=qCy from rfl,qsL,qyz,qsM,qqr];rfl⟩
theorem qSL:∀ (s0:LU),∃ n,z3_sh n s0=qDQ (z3 s0):=fun s=>⟨0,by
 unfold z3_sh
 by_cases h:(500:Int) < ((s.length:Nat):Int)
 ·rw [dT h]; rfl
 ·rw [dF h];have hk:lenOk s=true:=qg (by omega);have h1:=qLT s;have h2:=qCq s;rw [show z9_ok s=true from hk,show qHN s=true from hk,show qyl s=true from hk,show qym s=true from hk,show z10 s=z9 s from rfl,show z12 s=z11 s from rfl,
   show z8_ok (z9 s) (z9 s)=true from qg (by omega),show z8_ok (z11 s) (z11 s)=true from qg (by omega),qqp,qqp]
  rfl⟩
end Go.Av
