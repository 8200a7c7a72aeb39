import Derived.Test.YtnfehbljinflbaaGreatDoorRRRRErP
namespace Go.Av
theorem qcU (k0:List LI→LI→Int→OA) (l:List qz) (hl:l.length≤1048576) (hm:∀ p∈l,p.2.1.length≤1048576):∀ (d i n:Nat) (out:List LI) (sets:LI) (odd:Int),i+d=l.length→d < n→out.length≤i→sets.length≤i→0≤odd→odd≤(i:Int) →
 qtl k0 n out sets odd l (i:Int)=k0 (out++(l.drop i).map qbl) (sets++(qaG (l.drop i)).map z31) (odd+oddOf (qaG (l.drop i)))
 | d,i,0,out,sets,odd,hi,hn,h1,h2,h3,h4=>by omega
 | 0,i,n+1,out,sets,odd,hi,hn,h1,h2,h3,h4=>by
  obtain rfl:i=l.length:=by omega
  show qhk _ _ n _ _ _ _ _=_;unfold qhk qaX qE;rw [dF (by omega),List.drop_length];show k0 out sets odd=k0 (out++[]) (sets++[]) (odd+((0:Nat):Int));rw [yG,yG];congr 1;omega
 | d+1,i,n+1,out,sets,odd,hi,hn,h1,h2,h3,h4=>by
  have hlt:i < l.length:=by omega
  have hp:=hm _ (List.getElem_mem hlt);show qhk _ _ n _ _ _ _ _=_;unfold qhk qaX qE;rw [tn,qdC hlt,List.drop_eq_getElem_cons hlt];obtain ⟨k,rfl⟩:∃ k:Nat,odd=k:=⟨odd.toNat,by omega⟩;rw [dT (show (i:Int) < ((l.length:Nat):Int) by omega),dT (show (0:Int)≤(i:Int) by omega),qf (i:=i) (by omega),qf (i:=k) (by omega),
   show qFM l[i].2.1=true from qi hp,show qrL l[i].2.1=true from qi hp,show qFK l[i].2.1=true from qi hp,show qwZ l[i].2.1=true from qi hp,
   show z26 l[i].2.1=z33 l[i].2.1 from rfl,show z25 l[i].2.1=z31 l[i].2.1 from rfl]
  have r1:∀ z:LI,decide (out.length+[z].length≤room)=true:=fun z=>dT (by unfold room; simp; omega);have r2:∀ z:Int,decide (sets.length+[z].length≤room)=true:=fun z=>dT (by unfold room; simp; omega);simp only [r1,r2,yi,yc];have hw:qaG (l[i] :: l.drop (i+1))=bif l[i].1==3 then l[i].2.1 :: qaG (l.drop (i+1)) else qaG (l.drop (i+1)):=by
   unfold qaG;cases hk:l[i].1==3 with
   | true=>rw [List.filter_cons_of_pos (by simp [hk])]; rfl
   | false=>rw [List.filter_cons_of_neg (by simp [hk])]; rfl
  rw [hw,yI];have hr:qbl l[i]=bif l[i].1==3 then (z39 l[i].2.1).1 else z38 l[i].2.1:=rfl
  cases hk:l[i].1==3 with
  | false =>
   rw [hk] at hr;simp only [yd];have ih:=qcU k0 l hl hm d (i+1) n (out++[(z27 l[i].2.1).1]) sets (k:Int) (by omega) (by omega) (by rw [yn]; simp; omega) (by omega) (by omega) (by omega);rw [ih,yl,hr];rfl
  | true =>
   rw [hk] at hr;simp only [yc,yI];have ho:oddOf (l[i].2.1 :: qaG (l.drop (i+1)))=(bif z33 l[i].2.1 then 0 else 1)+oddOf (qaG (l.drop (i+1))):=by
    unfold oddOf;cases hs:z33 l[i].2.1 with
    | true=>rw [List.countP_cons_of_neg (by simp [hs])]; simp
    | false=>rw [List.countP_cons_of_pos (by simp [hs])]; simp; omega
   rw [ho,hr];cases hs:z33 l[i].2.1 with
   | false =>
    simp only [Bool.not_false,yc,yd];have ih:=qcU k0 l hl hm d (i+1) n (out++[(z24 l[i].2.1).1]) (sets++[z31 l[i].2.1]) ((k+1:Nat):Int) (by omega) (by omega) (by rw [yn]; simp; omega) (by rw [yn]; simp; omega) (by omega) (by omega);rw [ih,yl,yl];show k0 (out++((z39 l[i].2.1).1 :: _)) (sets++(z31 l[i].2.1 :: _)) _=_;congr 1;omega
   | true =>
    simp only [Bool.not_true,yc,yd];have ih:=qcU k0 l hl hm d (i+1) n (out++[(z24 l[i].2.1).1]) (sets++[z31 l[i].2.1]) (k:Int) (by omega) (by omega) (by rw [yn]; simp; omega) (by rw [yn]; simp; omega) (by omega) (by omega);rw [ih,yl,yl];show k0 (out++((z39 l[i].2.1).1 :: _)) (sets++(z31 l[i].2.1 :: _)) _=_;congr 1;omega
theorem qMh:∀ (s0:LU),(qHQ s0=true)→∃ n,qIi n s0=qKC (z14 s0).1 (z14 s0).2.1 (z14 s0).2.2:=fun s h=>⟨1048577,by
 have hs:=qd (show lenOk s=true from h);have hc:=qbu s;unfold qIi;rw [show qJJ s=true from h,show z23 s=z37 s from rfl];have:=qcU (qkC 1048577) (z37 s) (by omega) (fun p hp=>yL (qec s p hp) hs) _ 0 1048577 [] [] 0 (yE _) (by omega) (by simp) (by simp) (by omega) (by omega);refine Eq.trans this ?_;rw [yw,List.nil_append,List.nil_append,Int.zero_add];rfl⟩
def qCD:LU:=[97,32,61,63,117,116,102,45,56,63,81,63,98,63,61,13,10,32,61,63,117,116,102,45,56,63,81,63,99,63,61]
theorem qsN:z9 qCD=[97,32,98,99]:=by decide +kernel
theorem qyA:z17 qCD=0:=by decide +kernel
theorem qsO:(z16 qCD).length=2:=by decide +kernel
theorem qqt:(z15 qCD).length=4:=by decide +kernel
theorem qSG:∃ n,z7_sh n  = qDM z7:=⟨0,by
 show z7_sh 0=_;unfold z7_sh qcu;simp only [show ([97,32,61,63,117,116,102,45,56,63,81,63,98,63,61,13,10,32,61,63,117,116,102,45,56,63,81,63,99,63,61]:LU)=qCD from rfl,qsN,qyA,qsO,qqt];rfl⟩
theorem qlC (ret:Bool→OA) (k0:LI→LI→OA) (sets b:LI) (l:List LI) (hl:l.length≤1048576) (hx:∀ x∈l,x.length≤1048576):∀ (d i n:Nat),i+d=l.length→d < n →
 z4_l9 ret k0 n l sets l b ((l.length:Nat):Int) (i:Int)=k0 sets b
 | d,i,0,hi,hn=>by omega
 | 0,i,n+1,hi,hn=>by
  obtain rfl:i=l.length:=by omega
  show qlO _ _ _ n _ _ _ _ _ _=_;unfold qlO;rw [dF (by omega)];rfl
 | d+1,i,n+1,hi,hn=>by
  have hlt:i < l.length:=by omega
  have hg:l.getD i []=l[i]:=by rw [yY,yO hlt]; rfl
  show qlO _ _ _ n _ _ _ _ _ _=_;unfold qlO;rw [tn,hg,dT (show (i:Int) < ((l.length:Nat):Int) by omega),dT (show (0:Int)≤(i:Int) by omega),qf (by omega),qCA,show z8_ok l[i] l[i]=true from qi (hx _ (List.getElem_mem hlt))];exact qlC ret k0 sets b l hl hx d (i+1) n (by omega) (by omega)
theorem qlD (ret:Bool→OA) (k2:OA) (b:LI) (hl:b.length≤1048576):∀ (d i n:Nat),i+d=b.length→d < n →
 qtm ret k2 n b b ((b.length:Nat):Int) (i:Int)=k2
 | d,i,0,hi,hn=>by omega
 | 0,i,n+1,hi,hn=>by
  obtain rfl:i=b.length:=by omega
  show qhl _ _ _ n _ _ _ _=_;unfold qhl;rw [dF (by omega)];rfl
 | d+1,i,n+1,hi,hn=>by
  show qhl _ _ _ n _ _ _ _=_;unfold qhl;rw [tn,dT (show (i:Int) < ((b.length:Nat):Int) by omega),dT (show (0:Int)≤(i:Int) by omega),qf (by omega),bneF rfl];exact qlD ret k2 b hl d (i+1) n (by omega) (by omega)
theorem qyB (l:List qz):(qaG l).length≤l.length:=by
 unfold qaG;rw [yP];exact List.length_filter_le _ _
theorem qSH:∀ (s0:LU),∃ n,z4_sh n s0=qlh (z4 s0):=fun s=>⟨1048577,by
 unfold z4_sh
 by_cases h:(500:Int) < ((s.length:Nat):Int)
 ·rw [dT h]; rfl
 ·rw [dF h];have hk:lenOk s=true:=qi (by omega);have hu:=qJV s;have hc:=qbu (unf s);have hwc:=qyB (z37 (unf s));have hm:=qec (unf s);rw [show qJL s=true from hk,show (z13 s).1=unf s from rfl,show qHQ (unf s)=true from qCB hk,show qCv s=true from hk,show qCu s=true from hk,show qCt s=true from hk,
   show (z14 (unf s)).1=z15 s from rfl,show (z14 (unf s)).2.1=z17 s from rfl,show (z14 (unf s)).2.2=z16 s from rfl,bneF rfl,bneF rfl,bneF rfl]
  simp only [yi,yc,yd];have hll:(z15 s).length≤500:=by unfold z15; rw [yP]; omega
  have hcl:(z16 s).length≤500:=by unfold z16; rw [yP]; omega
  refine Eq.trans (qlC _ _ _ _ (z15 s) (by omega) (fun x hx=>by
   unfold z15 at hx;obtain ⟨p,hp,rfl⟩:=List.mem_map.1 hx;have h1:=qjI p;have h2:=hm p hp;omega) _ 0 1048577 (yE _) (by omega)) ?_
  unfold qlP;refine Eq.trans (qlD _ _ (z16 s) (by omega) _ 0 1048577 (yE _) (by omega)) ?_;rfl⟩
end Go.Av
