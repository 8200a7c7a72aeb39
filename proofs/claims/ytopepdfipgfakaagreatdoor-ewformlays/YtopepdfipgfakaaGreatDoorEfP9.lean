import Derived.Test.YtopepdfipgfakaaGreatDoorEfP8
namespace Go.Av
set_option linter.unusedVariables false
set_option linter.unusedSimpArgs false
theorem quX:∀ (c0:Int) (e1:Int) (x2:List Int),(qlM c0 e1 x2=true)→∃ n,qrB n c0 e1 x2=qkv (z142 c0 e1 x2):=fun c e t h=>⟨0,by
 have hl:t.length≤2097152:=of_decide_eq_true h
 unfold qrB z142
 have hr:∀ y:Int,t.length+([y]:List Int).length≤room:=fun y=>by show t.length+1≤room; unfold room; omega
 rw [dT (hr 65533),dT (hr c)]
 cases (e != 0) <;> rfl⟩
theorem qCU (x:UInt8) (r:List UInt8):(z187 (x :: r)).2.1=((z187 (x :: r)).2.1.toNat:Int)∧(z187 (x :: r)).2.1.toNat≤r.length+1:=by
 have hf:=qwn x r
 show ((bif farN (x :: r)==0 then ((0:Int),((1:Int),(3:Int))) else bif decide (farN (x :: r) < qm x)&&(farN (x :: r)==(x :: r).length) then (0,(farN (x :: r):Nat),4)
  else bif decide (farN (x :: r) < qm x) then (0,(farN (x :: r):Nat),3) else (signN (farN (x :: r)) (x :: r),(farN (x :: r):Nat),0)).2.1=(((bif farN (x :: r)==0 then ((0:Int),((1:Int),(3:Int))) else bif decide (farN (x :: r) < qm x)&&(farN (x :: r)==(x :: r).length) then (0,(farN (x :: r):Nat),4)
  else bif decide (farN (x :: r) < qm x) then (0,(farN (x :: r):Nat),3) else (signN (farN (x :: r)) (x :: r),(farN (x :: r):Nat),0)).2.1.toNat:Nat):Int))∧(bif farN (x :: r)==0 then ((0:Int),((1:Int),(3:Int))) else bif decide (farN (x :: r) < qm x)&&(farN (x :: r)==(x :: r).length) then (0,(farN (x :: r):Nat),4)
  else bif decide (farN (x :: r) < qm x) then (0,(farN (x :: r):Nat),3) else (signN (farN (x :: r)) (x :: r),(farN (x :: r):Nat),0)).2.1.toNat≤r.length+1
 cases farN (x :: r)==0
 ·cases decide (farN (x :: r) < qm x)&&(farN (x :: r)==(x :: r).length)
  ·cases decide (farN (x :: r) < qm x)
   ·exact ⟨rfl,hf.2⟩
   ·exact ⟨rfl,hf.2⟩
  ·exact ⟨rfl,hf.2⟩
 ·exact ⟨rfl,by show 1≤_; omega⟩
theorem qqY (m:Nat):∀ (n k:Nat) (s:List UInt8) (t:List Int),s.length < n→s.length < k→s.length≤1048576→t.length+s.length≤2097152 →
 qas (qao m) n s t=qan (t++utfR k s)
 | 0,k,s,t,hn,_,_,_=>by omega
 | n+1,0,s,t,_,hk,_,_=>by omega
 | n+1,k+1,[],t,_,_,_,_=>by
  show qan t=qan (t++[])
  rw [List.append_nil]
 | n+1,k+1,x :: r,t,hn,hk,hl,ht=>by
  show qbx _ (qas (qao m) n) n _ _=_
  unfold qbx
  simp only [List.length_cons] at hn hk hl ht
  obtain ⟨e1,e2⟩:=qCU x r
  have e3:=qxO x r
  rw [dT (show (0:Int) < (((x :: r).length:Nat):Int) by simp only [List.length_cons]; omega),show qlI (x :: r)=true from qK (by simp only [List.length_cons]; omega),
   show qlM (z187 (x :: r)).1 (z187 (x :: r)).2.2 t=true from decide_eq_true (by omega)]
  generalize hw:(z187 (x :: r)).2.1.toNat=w at e1 e2 e3
  rw [e1,dT (show (0:Int)≤(w:Int) by omega),dT (show (w:Int)≤(((x :: r).length:Nat):Int) by simp only [List.length_cons]; omega),dT (Int.le_refl _)]
  simp only [cond_true,Bool.and_true,tn,List.take_length]
  have hd:((x :: r).drop w).length≤r.length:=by rw [List.length_drop,List.length_cons]; omega
  have hd2:((x :: r).drop w).length+1≤r.length+1:=by omega
  rw [qqY m n k ((x :: r).drop w) (z142 (z187 (x :: r)).1 (z187 (x :: r)).2.2 t) (by omega) (by omega) (by omega) (by unfold z142; rw [List.length_append]; show t.length+1+_≤_; omega)]
  show qan _=qan (t++((bif (z187 (x :: r)).2.2 != 0 then 65533 else (z187 (x :: r)).1) :: utfR k ((x :: r).drop (z187 (x :: r)).2.1.toNat)))
  rw [hw]
  unfold z142
  rw [List.append_assoc]; rfl
theorem qkm:∀ (s0:List UInt8) (f1:List Int),(qbl s0 f1=true)→∃ n,qfZ n s0 f1=qan (qqN s0 f1):=fun s t h=>⟨s.length+1,by
 unfold qbl at h
 rw [Bool.and_eq_true,decide_eq_true_eq] at h
 have hl:=qo h.1
 exact qqY (s.length+1) (s.length+1) (s.length+1) s t (by omega) (by omega) hl (by omega)⟩
theorem qyr:∀ (s0:List UInt8),(qus s0=true)→∃ n,qyI n s0=qwD (z96 s0):=fun s h=>⟨0,by
 unfold qyI
 have hok:qbl s []=true:=by unfold qbl; rw [show lenOk s=true from h]; rfl
 first
  | (rw [hok]; rfl)
  | rfl⟩
end Go.Av
