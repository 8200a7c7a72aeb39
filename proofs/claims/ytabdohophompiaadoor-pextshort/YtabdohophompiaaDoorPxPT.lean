import Derived.Test.YtabdohophompiaaDoorPxPS
namespace Go.Av
set_option linter.unusedSimpArgs false
set_option linter.unusedVariables false
theorem u8_lt (a b:UInt8):decide (a < b) = !decide (b≤a):=by
 by_cases h:a < b
 ·rw [dT h,dF (fun h'=>absurd (UInt8.lt_iff_toNat_lt.1 h) (by have:=UInt8.le_iff_toNat_le.1 h'; omega))]; rfl
 ·rw [dF h,dT (UInt8.le_iff_toNat_le.2 (Nat.le_of_not_lt fun hh=>h (UInt8.lt_iff_toNat_lt.2 hh)))]; rfl
theorem qrR (ret:Bool→Option AV) (k2:List (List UInt8)→List (List UInt8)→Int→Int→Option AV) (l s34:List (List UInt8)) (s35 s36:Int) (x:List UInt8) (hl:x.length≤1048576):∀ (d i n:Nat),i+d=x.length→d < n →
 qgV ret k2 n l s34 s35 s36 x ((x.length:Nat):Int) (i:Int)=bif (x.drop i).all chB then k2 l s34 s35 s36 else ret false
 | d,i,0,hi,hn=>by omega
 | 0,i,n+1,hi,hn=>by
  show qdF _ _ _ n _ _ _ _ _ _ _=_;unfold qdF;rw [dF (by omega),yz (by omega)];rfl
 | d+1,i,n+1,hi,hn=>by
  show qdF _ _ _ n _ _ _ _ _ _ _=_;unfold qdF;have hlt:i < x.length:=by omega
  rw [qat (d:=(0:UInt8)) hlt,List.all_cons];simp (disch:=omega) only [dT,yc,yi,tn,qE];rw [show qgV ret k2 n l s34 s35 s36 x ((x.length:Nat):Int) ((i+1:Nat):Int)=_ from qrR ret k2 l s34 s35 s36 x hl d (i+1) n (by omega) (by omega),u8_lt,u8_lt];unfold chB;cases decide (32≤x.getD i 0) <;> cases decide (x.getD i 0≤126) <;> rfl
theorem qoc (ret:Bool→Option AV) (k0:List (List UInt8)→Option AV) (l:List (List UInt8)) (hl:l.length≤1000) (hx:∀ x∈l,x.length≤1000):∀ (d i n:Nat),i+d=l.length→d+1001 < n →
 z3_l7 ret k0 n l l ((l.length:Nat):Int) (i:Int)=bif (l.drop i).all secB then k0 l else ret false
 | d,i,0,hi,hn=>by omega
 | 0,i,n+1,hi,hn=>by
  show qfn _ _ _ n _ _ _ _=_;unfold qfn;rw [dF (by omega),yz (by omega)];rfl
 | d+1,i,n+1,hi,hn=>by
  show qfn _ _ _ n _ _ _ _=_;unfold qfn;have hlt:i < l.length:=by omega
  have hm:=hx (l.getD i []) (by rw [yV,yM hlt]; exact List.getElem_mem hlt);have ih:=qoc ret k0 l hl hx d (i+1) n (by omega) (by omega);rw [qat (d:=([]:List UInt8)) hlt,List.all_cons];simp (disch:=omega) only [dT,yc,yi,tn];generalize hxx:l.getD i []=x at hm ⊢;rw [show qgV ret (qdG ret k0 (z3_l7 ret k0 n) n) n l l ((l.length:Nat):Int) (i:Int) x ((x.length:Nat):Int) 0=_ from qrR ret _ l l _ _ x (by omega) x.length 0 n (by omega) (by omega),yw];unfold qdG;rw [qE (i:=i) (by omega),ih];unfold secB
  by_cases h1:x.length≤74
  ·rw [dF (show ¬ (74:Int) < ((x.length:Nat):Int) by omega),dT h1]
   by_cases h2:0 < x.length
   ·rw [beqF (show ((x.length:Nat):Int)≠0 by omega),dT h2];cases x.all chB <;> rfl
   ·rw [beqT (show ((x.length:Nat):Int)=0 by omega),dF h2];rfl
  ·rw [dT (show (74:Int) < ((x.length:Nat):Int) by omega),dF h1];cases decide (0 < x.length) <;> rfl
theorem qwO:∀ (name0:List UInt8) (t1:List Int),∃ n,z3_sh n name0 t1=qfC (z3 name0 t1):=fun name t=>⟨2000,by
 unfold z3_sh
 by_cases h1:(100:Int) < ((name.length:Nat):Int)
 ·rw [dT h1]; rfl
 ·rw [dF h1]
  by_cases h2:(100:Int) < ((t.length:Nat):Int)
  ·rw [dT h2]; rfl
  ·rw [dF h2];have hok:=qwF (name:=name) (t:=t) (by omega) (by omega);obtain ⟨k1,k2⟩:=qnX hok;have hsh:=qrn name t (by omega);rw [show z5_ok name t=true from hok,show z5 name t=qaH name t from rfl];cases he:(qaH name t).2 != 0 with
   | true =>
    rw [he] at hsh;simp only [yc] at hsh;rw [List.isEmpty_iff.1 hsh];rfl
   | false =>
    rw [he] at hsh;simp only [yd,yf,Bool.not_eq_true'] at hsh;simp only [yd,yc,yi];rw [show z3_l7 qfC (qfX 2000) 2000 (qaH name t).1 (qaH name t).1 (((qaH name t).1.length:Nat):Int) 0=_ from qoc _ _ _ (by omega) k2 (qaH name t).1.length 0 2000 (by omega) (by omega),yw,hsh.2];unfold qfX;rw [qrL,hsh.1];rfl⟩
end Go.Av
