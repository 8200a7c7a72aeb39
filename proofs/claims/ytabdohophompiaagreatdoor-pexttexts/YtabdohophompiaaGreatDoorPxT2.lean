import Derived.Test.YtabdohophompiaaGreatDoorPxT
namespace Go.Av
set_option linter.unusedVariables false
set_option linter.unusedSimpArgs false
theorem qhh (k0:Int→Option AV) (s:List UInt8) (k:Int) (hl:s.length≤1048576):∀ (d i n m:Nat),i+d=s.length→d < n→m+d≤1048576 →
 qja k0 n k (m:Nat) s (s.length:Nat) (i:Nat)=k0 ((m+(s.drop i).countP (fun c=>z100 c k):Nat):Int)
 | d,i,0,m,hi,hn,hm=>by omega
 | 0,i,n+1,m,hi,hn,hm=>by
  show qeF k0 (qja k0 n) n _ _ _ _ _=_;unfold qeF;rw [dF (by omega),yd,yA (by omega)];rfl
 | d+1,i,n+1,m,hi,hn,hm=>by
  show qeF k0 (qja k0 n) n _ _ _ _ _=_;unfold qeF;have hlt:i < s.length:=by omega
  have ih:=qhh k0 s k hl d (i+1) n m (by omega) (by omega) (by omega);have ih2:=qhh k0 s k hl d (i+1) n (m+1) (by omega) (by omega) (by omega);rw [qM (d:=(0:UInt8)) hlt,List.countP_cons];simp (disch:=omega) only [dT,yc,yi,tn,ql];cases z100 (s.getD i 0) k with
  | true=>rw [yc,ih2]; congr 2; simp; omega
  | false=>rw [yd,ih]; congr 2
theorem qEi:∀ (s0:List UInt8) (kinds1:Int),(qwB s0 kinds1=true)→∃ n,qyI n s0 kinds1=qAo (z64 s0 kinds1):=fun s k h=>⟨s.length+1,by
 have hl:=qr h;unfold qyI;have:=qhh (qgR (s.length+1)) s k hl s.length 0 (s.length+1) 0 (by omega) (by omega) (by omega);refine Eq.trans this ?_;rw [yD,yw];rfl⟩
theorem qEj:∀ (s0:List UInt8) (kinds1:Int),(qpW s0 kinds1=true)→∃ n,qCK n s0 kinds1=quQ (z36 s0 kinds1):=fun s k h=>⟨0,by
 unfold qCK;rw [show qwB s k=true from h];show quQ (z64 s k==((s.length:Nat):Int))=_;unfold z64;rw [qkX];rfl⟩
theorem qld (ret:Int→Option AV) (k0:Option AV) (t:List Int) (hl:t.length≤1048576):∀ (d i n:Nat),i+d=t.length→d < n →
 qmt ret k0 n t (i:Int)=bif decide (qn z97 (t.drop i) (i:Int) < 0) then k0 else ret (qn z97 (t.drop i) (i:Int))
 | d,i,0,hi,hn=>by omega
 | 0,i,n+1,hi,hn=>by
  obtain rfl:i=t.length:=by omega
  show qeU _ _ _ n _ _=_;unfold qeU;rw [dF (by omega),List.drop_length];rfl
 | d+1,i,n+1,hi,hn=>by
  have hlt:i < t.length:=by omega
  show qeU _ _ _ n _ _=_;unfold qeU;have hg:t.getD i 0=t[i]:=by rw [yW,yN hlt]; rfl
  rw [tn,hg,dT (show (i:Int) < ((t.length:Nat):Int) by omega),dT (show (0:Int)≤(i:Int) by omega),ql (by omega),List.drop_eq_getElem_cons hlt];have hstep:qn z97 (t[i] :: t.drop (i+1)) (i:Int)=bif z97 t[i] then qn z97 (t.drop (i+1)) ((i:Int)+1) else (i:Int):=rfl
  rw [hstep];have ih:=qld ret k0 t hl d (i+1) n (by omega) (by omega);cases z97 t[i] with
  | true =>
   simp only [Bool.not_true,yc,yd,yi];exact ih
  | false =>
   simp only [Bool.not_false,yc,yd,yi];rw [dF (show ¬ (i:Int) < 0 by omega)];rfl
theorem qpm (p:Int→Bool):∀ (t:List Int) (i:Int),0≤i→qn p t i < 0→qn p t i = -1
 | [],_,_,_=>rfl
 | x :: r,i,hi,h=>by
  have e:qn p (x :: r) i=bif p x then qn p r (i+1) else i:=rfl
  rw [e] at h ⊢;cases hp:p x with
  | true=>rw [hp] at h; exact qpm p r (i+1) (by omega) h
  | false=>rw [hp] at h; exact absurd (show i < 0 from h) (by omega)
theorem qEk:∀ (t0:List Int),(qyn t0=true)→∃ n,qyU n t0=qhb (z59 t0):=fun t h=>⟨1048577,by
 have hl:=qr (show lenOk t=true from h);unfold qyU z59;have e:=qld qhb (qhc 1048577) t hl t.length 0 1048577 (yD _) (by omega);rw [yw] at e;refine e.trans ?_
 by_cases hn:qn z97 t ((0:Nat):Int) < 0
 ·rw [dT hn];have:=qpm z97 t ((0:Nat):Int) (by omega) hn;show qhb (-1)=qhb (qn z97 t 0);rw [show qn z97 t 0 = -1 from this]
 ·rw [dF hn];rfl⟩
end Go.Av
