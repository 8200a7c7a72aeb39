import Derived.Test.YtopepdfipgfakaaGreatDoorEfP9
namespace Go.Av
set_option linter.unusedVariables false
set_option linter.unusedSimpArgs false
theorem qrz (ret:Bool→Option AV) (a b:List Int) (hab:a.length=b.length) (hl:a.length≤1048576):∀ (d i n:Nat),i+d=a.length→d < n →
 qij ret (ret true) n a b (i:Nat)=ret (decide (a.drop i=b.drop i))
 | d,i,0,hi,hn=>by omega
 | 0,i,n+1,hi,hn=>by
  show qen ret (ret true) (qij ret (ret true) n) n a b _=_
  unfold qen
  rw [decide_eq_false (by omega),cond_false,List.drop_eq_nil_of_le (by omega),List.drop_eq_nil_of_le (by omega)]
  rfl
 | d+1,i,n+1,hi,hn=>by
  show qen ret (ret true) (qij ret (ret true) n) n a b _=_
  unfold qen
  have hlt:i < a.length:=by omega
  have hlt':i < b.length:=by omega
  have ih:=qrz ret a b hab hl d (i+1) n (by omega) (by omega)
  simp (disch:=omega) only [dT,cond_true,Bool.and_true,tn,qv]
  rw [ih,qwo hlt hlt' 0]
  cases (a.getD i 0 != b.getD i 0) <;> rfl
theorem qyR:∀ (a0:List Int) (b1:List Int),(qvu a0 b1=true)→∃ n,qwm n a0 b1=qgV (z21 a0 b1):=fun a b h=>⟨a.length+1,by
 unfold qwm z21
 by_cases hab:a.length=b.length
 ·rw [show (((a.length:Nat):Int) != ((b.length:Nat):Int))=false by simp [hab],cond_false]
  exact qrz qgV a b hab (qm h) a.length 0 (a.length+1) (by omega) (by omega)
 ·rw [show (((a.length:Nat):Int) != ((b.length:Nat):Int))=true by simp only [bne_iff_ne,ne_eq]; omega,cond_true,decide_eq_false (fun e=>hab (by rw [e]))]⟩
end Go.Av
