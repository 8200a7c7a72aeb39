import Derived.Test.YtnfehbljinflbaaGreatDoorRRRRErP
namespace Go.Av
set_option linter.unusedVariables false
set_option linter.unusedSimpArgs false
theorem qDq:∀ (c0:Int),∃ n,qDZ n c0=qwZ (z56 c0):=fun c=>⟨0,by
 unfold qDZ z56;cases decide ((55296:Int)≤c) <;> rfl⟩
theorem qDr:∀ (c0:Int),∃ n,qEa n c0=qqC (z34 c0):=fun c=>⟨0,by
 unfold qEa z34;cases decide ((0:Int)≤c) <;> cases decide (c≤(1114111:Int)) <;> rfl⟩
theorem qmr (ret:Int→Option AV) (k0:Option AV) (t:List Int) (hl:t.length≤1048576):∀ (d i n:Nat),i+d=t.length→d < n →
 qoB ret k0 n t (i:Int)=bif decide (qdU z34 (t.drop i) (i:Int) < 0) then k0 else ret (qdU z34 (t.drop i) (i:Int))
 | d,i,0,hi,hn=>by omega
 | 0,i,n+1,hi,hn=>by
  obtain rfl:i=t.length:=by omega
  show qft _ _ _ n _ _=_;unfold qft;rw [dF (by omega),List.drop_length];rfl
 | d+1,i,n+1,hi,hn=>by
  have hlt:i < t.length:=by omega
  show qft _ _ _ n _ _=_;unfold qft;have hg:t.getD i 0=t[i]:=by rw [yY,yO hlt]; rfl
  rw [tn,hg,dT (show (i:Int) < ((t.length:Nat):Int) by omega),dT (show (0:Int)≤(i:Int) by omega),qz (by omega),List.drop_eq_getElem_cons hlt];have hstep:qdU z34 (t[i] :: t.drop (i+1)) (i:Int)=bif z34 t[i] then qdU z34 (t.drop (i+1)) ((i:Int)+1) else (i:Int):=rfl
  rw [hstep];have ih:=qmr ret k0 t hl d (i+1) n (by omega) (by omega);cases z34 t[i] with
  | true =>
   simp only [Bool.not_true,yc,yd,yi];exact ih
  | false =>
   simp only [Bool.not_false,yc,yd,yi];rw [dF (show ¬ (i:Int) < 0 by omega)];rfl
theorem qqg (p:Int→Bool):∀ (t:List Int) (i:Int),0≤i→qdU p t i < 0→qdU p t i = -1
 | [],_,_,_=>rfl
 | x :: r,i,hi,h=>by
  have e:qdU p (x :: r) i=bif p x then qdU p r (i+1) else i:=rfl
  rw [e] at h ⊢;cases hp:p x with
  | true=>rw [hp] at h; exact qqg p r (i+1) (by omega) h
  | false=>rw [hp] at h; exact absurd (show i < 0 from h) (by omega)
theorem qDs:∀ (t0:List Int),(qzM t0=true)→∃ n,qzU n t0=qib (z18 t0):=fun t h=>⟨1048577,by
 have hl:=qh (show lenOk t=true from h);unfold qzU z18;have e:=qmr qib (qic 1048577) t hl t.length 0 1048577 (yE _) (by omega);rw [yw] at e;refine e.trans ?_
 by_cases hn:qdU z34 t ((0:Nat):Int) < 0
 ·rw [dT hn];have:=qqg z34 t ((0:Nat):Int) (by omega) hn;show qib (-1)=qib (qdU z34 t 0);rw [show qdU z34 t 0 = -1 from this]
 ·rw [dF hn];rfl⟩
def qvO:List UInt8:=[97,32,61,63,117,116,102,45,56,63,81,63,98,63,61,13,10,32,61,63,117,116,102,45,56,63,81,63,99,63,61]
theorem qon:z9 qvO=[97,32,98,99]:=by decide +kernel
theorem qsq:z17 qvO=0:=by decide +kernel
theorem qoo:(z16 qvO).length=2:=by decide +kernel
theorem qms:(z15 qvO).length=4:=by decide +kernel
theorem qIn:∃ n,z7_sh n  = qwY z7:=⟨0,by
 show z7_sh 0=_;unfold z7_sh qbQ;simp only [show ([97,32,61,63,117,116,102,45,56,63,81,63,98,63,61,13,10,32,61,63,117,116,102,45,56,63,81,63,99,63,61]:List UInt8)=qvO from rfl,qon,qsq,qoo,qms];rfl⟩
theorem qmt (k0:List UInt8→List Int→List Int→Option AV) (s:List UInt8) (t:List Int) (l:List (List Int)) (hl:l.length≤1048576):∀ (d i n:Nat) (out:List Int),i+d=l.length→d < n→(out++(l.drop i).flatten).length≤1048576 →
 z5_l6 k0 n s t out l ((l.length:Nat):Int) (i:Int)=k0 s t (out++(l.drop i).flatten)
 | d,i,0,out,hi,hn,h1=>by omega
 | 0,i,n+1,out,hi,hn,h1=>by
  obtain rfl:i=l.length:=by omega
  show qiT _ _ n _ _ _ _ _ _=_;unfold qiT;rw [dF (by omega),List.drop_length,List.flatten_nil,yG];rfl
 | d+1,i,n+1,out,hi,hn,h1=>by
  have hlt:i < l.length:=by omega
  have hg:l.getD i []=l[i]:=by rw [yY,yO hlt]; rfl
  rw [List.drop_eq_getElem_cons hlt,List.flatten_cons,← yl] at h1 ⊢;have h2:(out++l[i]).length≤1048576:=by rw [yn] at h1; omega
  rw [yn] at h2;show qiT _ _ n _ _ _ _ _ _=_;unfold qiT;rw [tn,hg,dT (show (i:Int) < ((l.length:Nat):Int) by omega),dT (show (0:Int)≤(i:Int) by omega),qz (by omega),dT (show out.length+l[i].length≤room by unfold room; omega)];exact qmt k0 s t l hl d (i+1) n (out++l[i]) (by omega) (by omega) h1
theorem qIo:∀ (s0:List UInt8),∃ n,z5_sh n s0=qoC (z5 s0):=fun s=>⟨1048577,by
 unfold z5_sh
 by_cases h:(500:Int) < ((s.length:Nat):Int)
 ·rw [dT h]; rfl
 ·rw [dF h];have hk:lenOk s=true:=qn (by omega);have hr:=qDf s;have hu:=qBo s;have hc:=qbW (unf s);have hlf:=qvD s;have hll:(z15 s).length≤500:=by unfold z15; rw [yP]; omega
  rw [show z9_ok s=true from hk,show qvH s=true from hk];simp only [yi,yc,yd];refine Eq.trans (qmt _ s _ (z15 s) (by omega) _ 0 1048577 [] (yE _) (by omega) (by rw [yw,List.nil_append,hlf]; omega)) ?_;rw [yw,List.nil_append,hlf];unfold qmy;have hf:z18 (z9 s) = -1:=qmq z34 _ 0 (qKn (unf s));have ho:z17 s≤(((z16 s).length:Nat):Int):=qKo _;rw [show qzM (z9 s)=true from qn (by omega),hf,dT (show (((z9 s).length:Nat):Int)≤((s.length:Nat):Int) by omega),show z8_ok (z9 s) (z9 s)=true from qn (by omega),qvM,
   show qvF s=true from hk,show qvG s=true from hk,dT ho]
  rfl⟩
end Go.Av
