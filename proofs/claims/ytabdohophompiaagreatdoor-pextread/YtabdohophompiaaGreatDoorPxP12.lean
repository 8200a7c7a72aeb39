import Derived.Test.YtabdohophompiaaGreatDoorPxP11
namespace Go.Av
set_option linter.unusedSimpArgs false
set_option linter.unusedVariables false
theorem qsw (name:List UInt8) (t:List Int) (hok:ok36 name t=true) (h0:(qB name t).2=0) (k0:Option AV) (ps:List qiJ) (hps:ps=(qB name t).1.map parOf):∀ (d i n:Nat),i+d=ps.length→d < n →
 qkG qeV k0 n name t ps ps ((ps.length:Nat):Int) (i:Int)=k0
 | d,i,0,hi,hn=>by omega
 | 0,i,n+1,hi,hn=>by
  show qeW _ _ _ n _ _ _ _ _ _=_;unfold qeW qcB qak qaO;rw [dF (by omega)];rfl
 | d+1,i,n+1,hi,hn=>by
  show qeW _ _ _ n _ _ _ _ _ _=_;unfold qeW qcB qak qaO;obtain ⟨hnl,htl⟩:=qkw hok;obtain ⟨k1,k2⟩:=qgA hok;have hpl:ps.length=(qB name t).1.length:=by rw [hps,yP]
  have hlt:i < ps.length:=by omega
  obtain ⟨m,v,hx,hm⟩:=qHa name t hok h0 i (by omega);rw [← hps] at hx;have ih:=qsw name t hok h0 k0 ps hps d (i+1) n (by omega) (by omega);have hfo:qdz name=true:=qy (by omega);have hli:qqZ (qJ name) (qJ name)=true:=qy (by unfold qJ; rw [yP]; omega);have hpo:qiL name t=true:=by unfold qiL; rw [qaV (by omega),qaV (by omega)]; rfl
  have hbe:((!(z16 name t))==z16 name t)=false:=by cases z16 name t <;> rfl
  simp only [qud];simp (disch:=omega) only [dT,yc,yi,tn,qm];rw [hx];simp only [hfo,qEI,hli,qxt,hpo,hbe,Bool.not_true,yc,yd,yi,ih];rcases hm with ⟨rfl,h1⟩ | rfl
  ·rw [show (((ps.length:Nat):Int)==1)=true from by rw [beq_iff_eq]; omega,dT (by omega)];rfl
  ·rw [dF (show ¬ ((i:Int) < 0) by omega)];simp only [bne_self_eq_false,yd];cases (((ps.length:Nat):Int)==1) <;> rfl
theorem qEy:∀ (name0:List UInt8) (t1:List Int),(z5_ok name0 t1=true)→∃ n,z5_sh n name0 t1=qeV (z5 name0 t1):=fun name t h=>⟨200,by
 unfold z5_sh
 by_cases h1:(100:Int) < ((name.length:Nat):Int)
 ·rw [dT h1]; rfl
 ·rw [dF h1]
  by_cases h2:(100:Int) < ((t.length:Nat):Int)
  ·rw [dT h2]; rfl
  ·rw [dF h2];have hok:=qED (name:=name) (t:=t) (by omega) (by omega);have hsh:=qwN name t (by omega);rw [show z7_ok name t=true from hok,show (z7 name t).2=(qB name t).2 from rfl,show (z7 name t).1=textL (qB name t).1 from rfl];cases e:(qB name t).2 != 0 with
   | true =>
    rw [e,yc,List.isEmpty_iff] at hsh;rw [hsh];rfl
   | false =>
    have h0:(qB name t).2=0:=by rw [bne,Bool.not_eq_false'] at e; exact eq_of_beq e
    obtain ⟨r1,r2⟩:=qwK name t hok h0;obtain ⟨k1,k2⟩:=qgA hok;obtain ⟨hm,hpos,hf⟩:=qlx name t (by omega) h0;rw [r1,r2,show qwv name t=true from hok,show z15 name t=(((qB name t).1.length:Nat):Int) from rfl];simp only [yi,yc,yd];have key:qkG qeV (qeX 200) 200 name t ((qB name t).1.map parOf) ((qB name t).1.map parOf) (((((qB name t).1.map parOf).length:Nat):Int)) 0=qeX 200 :=
     qsw name t hok h0 _ _ rfl ((qB name t).1.map parOf).length 0 200 (by omega) (by rw [yP]; omega)
    rw [key,yP];rw [show ((((qB name t).1.length:Nat):Int)==0)=false from by rw [beq_eq_false_iff_ne]; omega];simp only [bne_self_eq_false,yd];rfl⟩
end Go.Av
