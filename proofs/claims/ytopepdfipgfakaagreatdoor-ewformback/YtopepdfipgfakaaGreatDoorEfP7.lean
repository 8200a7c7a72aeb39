import Derived.Test.YtopepdfipgfakaaGreatDoorEfP6
namespace Go.Av
set_option linter.unusedVariables false
set_option linter.unusedSimpArgs false
theorem qzl (a b:Nat) (hb:b < 64) (h:a*64+b < 2147483648):bits .or .i32 ((a*64:Nat):Int) (b:Int)=((a*64+b:Nat):Int):=by
 have h1:(BitVec.ofInt 32 ((a*64:Nat):Int)).toNat=a*64:=by rw [BitVec.toNat_ofInt]; omega
 have h2:(BitVec.ofInt 32 ((b:Nat):Int)).toNat=b:=by rw [BitVec.toNat_ofInt]; omega
 have h3:(BitVec.ofInt 32 ((a*64:Nat):Int) ||| BitVec.ofInt 32 (b:Int)).toNat=a*64+b:=by
  rw [BitVec.toNat_or,h1,h2]
  have:=Nat.shiftLeft_add_eq_or_of_lt (i:=6) hb a
  rw [Nat.shiftLeft_eq] at this
  exact this.symm
 show IntKind.wrap .i32 (((BitVec.ofInt 32 ((a*64:Nat):Int) ||| BitVec.ofInt 32 (b:Int)).toNat:Nat):Int)=_
 rw [h3,IntWalk.i32_in _ (by omega)]
def foldS (t:List UInt8) (c:Int):Int:=t.foldl (fun c y=>c*64+((y &&& 63).toNat:Int)) c
theorem qrG:∀ i:Fin 256,((UInt8.ofNat i.val) &&& (63:UInt8)).toNat < 64:=by decide +kernel
theorem low6 (y:UInt8):(y &&& 63).toNat < 64:=qat (P:=fun y=>(y &&& 63).toNat < 64) qrG y
theorem qnZ:∀ i:Fin 256,(!(z235 (UInt8.ofNat i.val))||decide ((UInt8.ofNat i.val).toNat=((UInt8.ofNat i.val) &&& (63:UInt8)).toNat+128))=true:=by decide +kernel
theorem low6f {y:UInt8} (h:z235 y=true):y.toNat=(y &&& 63).toNat+128:=by
 have k:=qat (P:=fun y=>(!(z235 y)||decide (y.toNat=(y &&& (63:UInt8)).toNat+128))=true) qnZ y
 rw [h,Bool.not_true,Bool.false_or,decide_eq_true_eq] at k
 exact k
theorem qgN (m:Nat) (t:List UInt8) (n5:Int) (hl:t.length≤1048576):∀ (d i n b c:Nat),i+d=t.length→d < n→c < b→b*64 ^ d≤67108864 →
 qca (qbs m) n n5 (c:Int) t (t.length:Nat) (i:Nat)=qbB (foldS (t.drop i) c) n5 0
 | d,i,0,b,c,hi,hn,_,_=>by omega
 | 0,i,n+1,b,c,hi,hn,_,_=>by
  obtain rfl:i=t.length:=by omega
  show qbr _ _ n _ _ _ _ _=_
  unfold qbr
  rw [dF (by omega),cond_false,List.drop_length]
  rfl
 | d+1,i,n+1,b,c,hi,hn,hc,hb=>by
  show qbr _ _ n _ _ _ _ _=_
  unfold qbr
  have hlt:i < t.length:=by omega
  have h64:0 < 64 ^ d:=Nat.pow_pos (by decide)
  have hb':b*64*64 ^ d≤67108864:=by rw [Nat.pow_succ] at hb; rwa [Nat.mul_assoc,Nat.mul_comm 64]
  have hb2:b*64≤b*64*64 ^ d:=Nat.le_mul_of_pos_right _ h64
  have hy:=low6 (t.getD i 0)
  simp (disch:=omega) only [dT,cond_true,Bool.and_true,tn]
  have e1:IntKind.wrap .i32 ((c:Int)*2 ^ (min (Int.toNat (6:Int)) (IntKind.bits .i32)))=((c*64:Nat):Int):=by
   show IntKind.wrap .i32 ((c:Int)*64)=_
   rw [IntWalk.i32_in _ (by omega)]; omega
  rw [e1,IntWalk.i32_in _ (by omega),qzl _ _ hy (by omega),qv (by omega),qgN m t n5 hl d (i+1) n (b*64) _ (by omega) (by omega) (by omega) hb',qad hlt]
  show _=qbB (foldS (t.drop (i+1)) ((c:Int)*64+(((t.getD i 0) &&& 63).toNat:Int))) n5 0
  congr 2
theorem qrH:∀ i:Fin 256,∀ n:Fin 5,((UInt8.ofNat i.val) &&& ~~~ (z218 ((n.val:Nat):Int)))=((UInt8.ofNat i.val) &&& (255 ^^^ (z218 ((n.val:Nat):Int)))):=by decide +kernel
theorem qDK (x:UInt8) (n:Nat) (hn:n < 5):(x &&& ~~~ (z218 ((n:Nat):Int)))=(x &&& (255 ^^^ (z218 ((n:Nat):Int)))):=qat (P:=fun x=>∀ n:Fin 5,(x &&& ~~~ (z218 ((n.val:Nat):Int)))=(x &&& (255 ^^^ (z218 ((n.val:Nat):Int))))) qrH x ⟨n,hn⟩
theorem qrI (x:UInt8) (r:List UInt8):farN (x :: r)≤qf x∧farN (x :: r)≤r.length+1:=by
 show (bif qf x==0 then 0 else 1+runB x (qf x - 1) true r)≤_∧(bif qf x==0 then 0 else 1+runB x (qf x - 1) true r)≤_
 have:=qxk x (qf x - 1) true r
 cases h:qf x==0 with
 | true=>exact ⟨Nat.zero_le _,Nat.zero_le _⟩
 | false =>
  rw [beq_eq_false_iff_ne] at h
  simp only [cond_false]; omega
theorem qvU:∀ (s0:List UInt8),(qmf s0=true)→∃ n,qmE n s0=qbB (z187 s0).1 (z187 s0).2.1 (z187 s0).2.2:=fun s h=>⟨s.length+5,by
 have hl:=qm h
 match s with
 | []=>rfl
 | x :: r =>
  simp only [List.length_cons] at hl
  have hf:=qrI x r
  have h4:=qfe x
  obtain ⟨N,hN⟩:∃ N,farN (x :: r)=N:=⟨_,rfl⟩
  have eT:z187 (x :: r)=bif farN (x :: r)==0 then ((0:Int),((1:Int),(3:Int))) else bif decide (farN (x :: r) < qf x)&&(farN (x :: r)==(x :: r).length) then (0,(farN (x :: r):Nat),4)
   else bif decide (farN (x :: r) < qf x) then (0,(farN (x :: r):Nat),3) else (signN (farN (x :: r)) (x :: r),(farN (x :: r):Nat),0):=rfl
  have eF:z216 (x :: r)=(N:Int):=by rw [← hN]; rfl
  have eS:z217 (List.getD (x :: r) (Int.toNat 0) 0)=((qf x:Nat):Int):=rfl
  have hok:qgK (x :: r)=true:=by
   unfold qgK
   rw [qt (show (x :: r).length≤1048576 by simp only [List.length_cons]; omega)]; rfl
  have h0:decide ((0:Int) < (((x :: r).length:Nat):Int))=true:=dT (by simp only [List.length_cons]; omega)
  have h00:((((x :: r).length:Nat):Int)==0)=false:=by rw [beq_eq_false_iff_ne]; simp only [List.length_cons]; omega
  rw [eT,hN]
  rw [hN] at hf
  unfold qmE
  rw [eF,eS,hok,h0,h00]
  simp only [Bool.and_true,cond_true,cond_false,show decide ((0:Int)≤0)=true from rfl]
  by_cases hz:N=0
  ·subst hz; rfl
  ·rw [show (((N:Nat):Int)==0)=false by rw [beq_eq_false_iff_ne]; omega,show (N==0)=false by simpa using hz]
   simp only [cond_false]
   by_cases hs:N < qf x
   ·rw [dT (show ((N:Nat):Int) < ((qf x:Nat):Int) by omega),decide_eq_true hs]
    simp only [cond_true,Bool.true_and]
    by_cases hlN:N=(x :: r).length
    ·rw [show (((N:Nat):Int)==(((x :: r).length:Nat):Int))=true by rw [beq_iff_eq]; omega,show (N==(x :: r).length)=true by simpa using hlN]
     rfl
    ·rw [show (((N:Nat):Int)==(((x :: r).length:Nat):Int))=false by rw [beq_eq_false_iff_ne]; omega,show (N==(x :: r).length)=false by simpa using hlN]
     rfl
   ·rw [dF (show ¬ ((N:Nat):Int) < ((qf x:Nat):Int) by omega),decide_eq_false hs]
    simp only [cond_false,Bool.false_and]
    rw [dT (show (1:Int)≤((N:Nat):Int) by omega),dT (show ((N:Nat):Int)≤(((x :: r).length:Nat):Int) by simp only [List.length_cons]; omega)]
    simp only [show decide ((0:Int)≤1)=true from rfl,Bool.and_true,cond_true,tn]
    have e1:List.drop (Int.toNat 1) (List.take N (x :: r))=r.take (N - 1):=by
     obtain ⟨k,rfl⟩:∃ k,N=k+1:=⟨N - 1,by omega⟩
     rfl
    have e2:List.getD (x :: r) (Int.toNat 0) 0=x:=rfl
    rw [e1,e2,qDK x N (by omega)]
    have hx:=(x &&& (255 ^^^ z218 ((N:Nat):Int))).toNat_lt
    have ht:(r.take (N - 1)).length=N - 1:=by rw [List.length_take]; omega
    rw [IntWalk.i32_in _ (by omega)]
    have:=qgN ((x :: r).length+5) (r.take (N - 1)) (N:Int) (by omega) (r.take (N - 1)).length 0 ((x :: r).length+5) 256 _ (by omega) (by simp only [List.length_cons]; omega) hx (by
     rw [ht]
     have:N - 1=0∨N - 1=1∨N - 1=2∨N - 1=3:=by omega
     rcases this with e | e | e | e <;> rw [e] <;> decide)
    rw [List.drop_zero] at this
    exact this⟩
end Go.Av
