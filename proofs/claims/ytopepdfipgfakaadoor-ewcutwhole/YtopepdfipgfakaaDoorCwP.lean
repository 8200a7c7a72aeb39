import Derived.Test.YtopepdfipgfakaaDoorCuP6
namespace Go.Av
set_option linter.unusedVariables false
set_option linter.unusedSimpArgs false
theorem qoq:z7 [233] 75=([61,63,105,115,111,45,56,56,53,57,45,49,63,81,63,61,69,57,63,61],0):=by decide +kernel
theorem qlH:(z8 [233] 10).2=12:=by decide +kernel
theorem qlI:z9 [233] 75=1:=by decide +kernel
theorem qxS:∃ n,z4_sh n  = qoc z4:=⟨0,by
 unfold z4_sh
 rw [qoq,qlH,qlI]
 rfl⟩
theorem qor (s:List Int):z6 s s=true:=by unfold z6; exact dT rfl
theorem qxT {cs code:Int} {t:List Int} {rm:Int} (h0:(z5 cs code t rm).2≠0):(z5 cs code t rm).1=[]:=by
 unfold z5 at h0 ⊢
 cases h1:(z10 cs code t).2 != 0 with
 | true=>rfl
 | false =>
  rw [h1] at h0
  simp only [cond_false] at h0 ⊢
  cases hc:cutAt (fun u r=>z19 cs code u r) (t.length+1) t rm with
  | none=>rfl
  | some l=>rw [hc] at h0; exact absurd rfl h0
theorem qhK (m:Nat) (t:List Int) (ht:t.length≤1048576) (l:List (List Int)) (hl:l.length≤1048576) (hx:∀ x∈l,0 < x.length):∀ (d i n:Nat) (acc:List Int),i+d=l.length→d < n→acc++(l.drop i).flatten=t →
 z3_l8 qfc (qeQ m) n t acc l ((l.length:Nat):Int) (i:Int)=qfc true
 | d,i,0,acc,hi,hn,ha=>by omega
 | 0,i,n+1,acc,hi,hn,ha=>by
  obtain rfl:i=l.length:=by omega
  rw [List.drop_length,List.flatten_nil,List.append_nil] at ha
  subst ha
  show qfw _ _ _ n _ _ _ _ _=_
  unfold qfw
  rw [dF (by omega)]
  show qeQ m acc acc=_
  unfold qeQ
  rw [show z6_ok acc acc=true from qbf ht,qor]
  rfl
 | d+1,i,n+1,acc,hi,hn,ha=>by
  have hlt:i < l.length:=by omega
  have hgi:l.getD i []=l[i]:=by
   rw [List.getD_eq_getElem?_getD,List.getElem?_eq_getElem hlt]; rfl
  have hp:=hx _ (List.getElem_mem hlt)
  have hdr:(l.drop i).flatten=l[i]++(l.drop (i+1)).flatten:=by rw [List.drop_eq_getElem_cons hlt,List.flatten_cons]
  rw [hdr,← List.append_assoc] at ha
  have hal:(acc++l[i]).length≤1048576:=by
   have:=congrArg List.length ha
   rw [List.length_append] at this
   omega
  rw [List.length_append] at hal
  have ih:=qhK m t ht l hl hx d (i+1) n (acc++l[i]) (by omega) (by omega) ha
  show qfw _ _ _ n _ _ _ _ _=_
  unfold qfw
  rw [tn,hgi,dT (show (i:Int) < ((l.length:Nat):Int) by omega),dT (show (0:Int)≤(i:Int) by omega),show (((l[i].length:Nat):Int)==0)=false from beq_eq_false_iff_ne.2 (by omega),dT (show acc.length+l[i].length≤room by unfold room; omega),qL (by omega)]
  simp only [Bool.and_true,cond_true,cond_false]
  exact ih
theorem qxU:∀ (how0:List Int) (t1:List Int),(z3_ok how0 t1=true)→∃ n,z3_sh n how0 t1=qfc (z3 how0 t1):=fun how t h=>⟨1048577,by
 have hi:i32s t=true:=h
 unfold z3_sh
 by_cases h80:(80:Int) < ((t.length:Nat):Int)
 ·rw [dT h80]; rfl
 ·rw [dF h80]
  have hl:t.length≤1048576:=by omega
  have hk:lenOk t=true:=qbf hl
  generalize how.getD (Int.toNat 0) 0=cs
  generalize how.getD (Int.toNat 1) 0=code
  generalize how.getD (Int.toNat 2) 0=rm
  obtain ⟨k1,k2⟩:=qgg cs code t rm
  rw [show z5_ok cs code t rm=true from hk]
  by_cases h0:(z5 cs code t rm).2=0
  ·rw [bneF h0]
   obtain ⟨e1,e2,_⟩:=qzG hi hl h0
   exact qhK 1048577 t hl _ (by omega) (fun x hx=>by
    obtain ⟨j1,j2,r',j3⟩:=e2 x hx
    exact (qxR cs code x r' j1 (by omega) j3).2.1) _ 0 1048577 [] (Nat.zero_add _) (by omega) (by rw [List.drop_zero,e1]; rfl)
  ·rw [bneT h0,qxT h0]
   rfl⟩
end Go.Av
