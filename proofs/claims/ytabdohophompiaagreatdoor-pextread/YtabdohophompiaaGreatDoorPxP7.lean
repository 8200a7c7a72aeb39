import Derived.Test.YtabdohophompiaaGreatDoorPxP6
namespace Go.Av
set_option linter.unusedSimpArgs false
set_option linter.unusedVariables false
theorem qsE:∀ i:Fin 256,(bif decide ((65:UInt8)≤UInt8.ofNat i.val) then (bif decide (UInt8.ofNat i.val≤(90:UInt8)) then UInt8.ofNat i.val+32 else UInt8.ofNat i.val) else UInt8.ofNat i.val)=qcl (UInt8.ofNat i.val):=by decide +kernel
theorem qAr:∀ (c0:UInt8),∃ n,qBo n c0=qob (z41 c0):=fun c=>⟨0,by
 have h:=qlX (P:=fun c=>(bif decide ((65:UInt8)≤c) then (bif decide (c≤(90:UInt8)) then c+32 else c) else c)=qcl c) qsE c;unfold qBo z41;rw [← h];cases decide ((65:UInt8)≤c) <;> cases decide (c≤(90:UInt8)) <;> rfl⟩
theorem qAs:∀ (s0:List UInt8),(qdz s0=true)→∃ n,qxe n s0=qyD (z21 s0):=fun s h=>⟨s.length+1,by
 have hl:=qp h;unfold qxe;have:=qgW (t:=s) (dv:=0) (f:=fun c=>[z41 c]) (q:=fun _=>true) (b:=1) (k0:=qeR (s.length+1)) (R:=none)
  (L:=fun n out i=>qlU (qeR (s.length+1)) n s out i) (fun x=>yv 1) (fun n i out hi hb=>by
   show qeQ _ _ n _ _ _=_;unfold qeQ;have hr:out.length+([z41 (s.getD i 0)]:List UInt8).length≤room:=hb;simp (disch:=omega) only [dT,yc,yi,tn,qm];all_goals (rw [dT hr])
   all_goals rfl) (fun n out=>by
   show qeQ _ _ n _ _ _=_;unfold qeQ;rw [dF (by omega)]; rfl) s.length 0 (s.length+1) [] (by omega) (by omega) (by show 0+_≤room; unfold room; omega)
 rw [yw,qtK,yc,List.nil_append,qlY] at this;exact this⟩
theorem qwL:∀ (s0:List UInt8) (at1:Int),∃ n,qtF n s0 at1=qlR (z102 s0 at1):=fun s i=>⟨0,by
 unfold qtF;unfold z102 qF
 by_cases h:(0:Int) > i
 ·rw [dT h,yc,dF (by omega)];show qlR 0=_;have:i.toNat=0:=by omega
  rw [this]; simp
 ·rw [dF h,yd]
  by_cases h2:((s.length:Nat):Int) < i
  ·rw [dT h2,yc]; congr 1; omega
  ·rw [dF h2,yd]; congr 1; omega⟩
theorem qsF (s:List UInt8) (i:Nat) (h:s.length≤i):gapN s i=i:=by
 unfold gapN;rw [yA h]; rfl
theorem qgB (s:List UInt8) (i:Nat) (h:i < s.length):gapN s i=bif blkB (s.getD i 0) then gapN s (i+1) else i:=by
 unfold gapN;rw [qC (d:=0) h,List.takeWhile_cons];cases blkB (s.getD i 0) with
 | true=>simp only [if_true,yc,yg]; omega
 | false=>simp
theorem qEE (s:List UInt8) (i:Nat) (h:i≤s.length):i≤gapN s i∧gapN s i≤s.length:=by
 unfold gapN;have h1:((s.drop i).takeWhile blkB).length≤(s.drop i).length:=(List.takeWhile_prefix _).length_le;rw [yK] at h1;omega
theorem qsG (s:List UInt8) (hl:s.length≤1048576) (N:Nat):∀ (d i n:Nat),i+d=s.length→d < n→(s.getD (gapN s i) 0 != 40)=true →
 qlS qhH (qgR N) n s (i:Int)=qhH (gapN s i:Nat)
 | d,i,0,hi,hn,_=>by omega
 | 0,i,n+1,hi,hn,_=>by
  show qeN _ _ _ n _ _=_;unfold qeN qaN;rw [dF (by omega),qsF s i (by omega)];rfl
 | d+1,i,n+1,hi,hn,hk=>by
  show qeN _ _ _ n _ _=_;unfold qeN qaN;have hlt:i < s.length:=by omega
  have hg:=qgB s i hlt;have ih:=qsG s hl N d (i+1) n (by omega) (by omega);simp (disch:=omega) only [dT,yc,yi,tn,qm,qxS];rw [show blkB (s.getD i 0)=(z100 (s.getD i 0) 2||(s.getD i 0==13||s.getD i 0==10)) from rfl] at hg;cases e1:z100 (s.getD i 0) 2 with
  | true =>
   rw [e1] at hg;rw [show gapN s i=gapN s (i+1) from hg] at hk ⊢;exact ih hk
  | false =>
   cases e2:s.getD i 0==13 with
   | true =>
    rw [e1,e2] at hg;rw [show gapN s i=gapN s (i+1) from hg] at hk ⊢;exact ih hk
   | false =>
    cases e3:s.getD i 0==10 with
    | true =>
     rw [e1,e2,e3] at hg;rw [show gapN s i=gapN s (i+1) from hg] at hk ⊢;exact ih hk
    | false =>
     rw [e1,e2,e3] at hg;rw [show gapN s i=i from hg] at hk ⊢;have:(s.getD i 0==40)=false:=by rw [bne,Bool.not_eq_true'] at hk; exact hk
     simp only [yd];rw [this];rfl
theorem qiR (s:List UInt8) (i:Int):qF s i≤s.length:=Nat.min_le_right ..
theorem qAt:∀ (s0:List UInt8) (at1:Int),(qav s0 at1=true)→∃ n,qBk n s0 at1=qhH (z67 s0 at1):=fun s i h=>⟨s.length+1,by
 unfold qav at h;rw [yf] at h;have:=qiR s i;exact qsG s (qp h.1) _ (s.length - qF s i) (qF s i) (s.length+1) (by omega) (by omega) h.2⟩
theorem qEF (s:List UInt8) (i:Nat) (h:s.length≤i):tokN s i=[]:=by
 unfold tokN;rw [yA h]; rfl
theorem qHb (s:List UInt8) (i:Nat) (h:i < s.length):tokN s i=bif z100 (s.getD i 0) 64 then s.getD i 0 :: tokN s (i+1) else []:=by
 unfold tokN;rw [qC (d:=0) h,List.takeWhile_cons];cases z100 (s.getD i 0) 64 <;> simp
theorem qHc (s:List UInt8) (i:Nat) (h:i≤s.length):i+(tokN s i).length≤s.length:=by
 unfold tokN;have h1:((s.drop i).takeWhile fun c=>z100 c 64).length≤(s.drop i).length:=(List.takeWhile_prefix _).length_le;rw [yK] at h1;omega
theorem qAu (s:List UInt8) (i:Nat) (h:i≤s.length):(s.take (i+(tokN s i).length)).drop i=tokN s i:=by
 rw [List.drop_take,Nat.add_sub_cancel_left];unfold tokN;exact (List.prefix_iff_eq_take.1 (List.takeWhile_prefix _)).symm
theorem qkx (s:List UInt8) (hl:s.length≤1048576) (i0:Int) (k0:List UInt8→Int→Int→Option AV):∀ (d i n:Nat),i+d=s.length→d < n →
 qlT k0 n s i0 (i:Int)=k0 s i0 ((i+(tokN s i).length:Nat):Int)
 | d,i,0,hi,hn=>by omega
 | 0,i,n+1,hi,hn=>by
  show qeP _ _ n _ _ _=_;unfold qeP;rw [dF (by omega),qEF s i (by omega)];rfl
 | d+1,i,n+1,hi,hn=>by
  show qeP _ _ n _ _ _=_;unfold qeP;have hlt:i < s.length:=by omega
  have ih:=qkx s hl i0 k0 d (i+1) n (by omega) (by omega);rw [qHb s i hlt];simp (disch:=omega) only [dT,yc,yi,tn,qm,qxS];cases z100 (s.getD i 0) 64 with
  | true =>
   rw [yc,yc,ih,yg];congr 2; omega
  | false=>rfl
theorem qhz (a b:Nat):(((a:Nat):Int)==((b:Nat):Int))=(a==b):=by
 by_cases h:a=b
 ·subst h; simp
 ·rw [beq_eq_false_iff_ne.2 h,beq_eq_false_iff_ne.2 (by omega)]
theorem qAv:∀ (s0:List UInt8) (at1:Int),(qlw s0 at1=true)→∃ n,qxd n s0 at1=qnZ (z68 s0 at1).1 (z68 s0 at1).2.1 (z68 s0 at1).2.2:=fun s i h=>⟨s.length+1,by
 unfold qxd z68 z102;have hl:=qp h;have hc:=qiR s i;have hk:=qHc s _ hc;rw [qhz];cases qF s i==s.length with
 | true=>rfl
 | false =>
  rw [yd,yd,qkx s hl _ _ (s.length - qF s i) (qF s i) (s.length+1) (by omega) (by omega)];unfold qgS;rw [qhz];cases e:(tokN s (qF s i)).isEmpty with
  | true =>
   have:=List.isEmpty_iff.1 e;rw [this];simp
  | false =>
   have hp:0 < (tokN s (qF s i)).length:=by
    cases e2:tokN s (qF s i) with
    | nil=>rw [e2] at e; cases e
    | cons _ _=>exact Nat.zero_lt_succ _
   rw [beq_eq_false_iff_ne.2 (show qF s i+(tokN s (qF s i)).length≠qF s i by omega)];simp (disch:=omega) only [dT,yc,yd,yi,tn];rw [qAu s _ hc]⟩
theorem qAw:∀ (s0:List UInt8) (at1:Int) (c2:UInt8),(qww s0 at1 c2=true)→∃ n,qBm n s0 at1 c2=qoa (z69 s0 at1 c2).1 (z69 s0 at1 c2).2:=fun s i c h=>⟨0,by
 unfold qBm z69;have h':qav s i=true:=h;have hl:s.length≤1048576:=by unfold qav at h'; rw [yf] at h'; exact qp h'.1
 have hc:=qiR s i;have hg:=qEE s _ hc;rw [h'];unfold z67 z102
 by_cases h1:gapN s (qF s i) < s.length
 ·simp (disch:=omega) only [dT,yc,yi,y3,tn,qm];cases s.getD (gapN s (qF s i)) 0==c <;> rfl
 ·rw [dF (by omega),dF h1];rfl⟩
end Go.Av
