import Derived.Test.YtopepdfipgfakaaGreatDoorEfP11
namespace Go.Av
set_option linter.unusedVariables false
set_option linter.unusedSimpArgs false
theorem qdm (s:List UInt8):(z11 s).1.1.length≤s.length:=by
 have hs:=qeL 63 s []
 unfold z11
 generalize cutC 63 [] s=l at hs ⊢
 unfold qfU
 split
 ·rename_i a b c d e
  simp only [List.map_cons,List.map_nil,List.sum_cons,List.sum_nil,List.length_nil] at hs
  cases decide (a=[61])&&decide (e=[61])
  ·exact Nat.zero_le _
  ·rw [cond_true]
   cases (codeL c==0)||(!(fullB b 64) || !(fullB d 4))
   ·cases decide (75 < s.length)
    ·show b.length≤_; omega
    ·exact Nat.zero_le _
   ·exact Nat.zero_le _
 ·exact Nat.zero_le _
theorem qwH:∀ (s0:List UInt8),(qwy s0=true)→∃ n,qxw n s0=qiL (z19 s0).1 (z19 s0).2:=fun s h=>⟨0,by
 have hl:=qo h
 have h1:=qdm s
 have h2:=qkZ s
 have h3:=qtb (z11 s).1
 unfold qxw
 rw [show qiT s=true from h,show qmA (z11 s).1=true from qy (by omega),show qmB (z11 s).1=true from qy (by omega),
  show qmz (z53 (z11 s).1) (z54 (z11 s).1)=true from qy (by show (octOf _).length≤_; omega)]
 simp only [Bool.and_true,cond_true,qgM]
 unfold z19
 cases ((z11 s).2 != 0) <;> rfl⟩
theorem qiA (cs:Int):(z89 cs).length≤20:=by
 unfold z89 z133
 cases cs==1
 ·cases cs==2
  ·cases cs==3
   ·cases cs==4
    ·cases cs==5
     ·exact Nat.zero_le _
     ·exact Nat.le_of_ble_eq_true rfl
    ·exact Nat.le_of_ble_eq_true rfl
   ·exact Nat.le_of_ble_eq_true rfl
  ·exact Nat.le_of_ble_eq_true rfl
 ·exact Nat.le_of_ble_eq_true rfl
theorem qmG (c:Int):(z45 c).length≤1:=by
 unfold z45
 cases c==1
 ·cases c==2
  ·exact Nat.zero_le _
  ·exact Nat.le_refl _
 ·exact Nat.le_refl _
theorem qpR (cs c:Int):(z48 cs c).length≤25:=by
 have h1:=qiA cs
 have h2:=qmG c
 unfold z48
 simp only [List.length_append,List.length_cons,List.length_nil]
 omega
theorem qwI (s:List UInt8):(z47 s).length≤4*s.length+8:=by
 obtain ⟨k,hk,e,_⟩:=qsi s
 have h6:=(qhh s).2.2.2
 have:(z47 s).length=(z90 s).length+k:=by rw [show z47 s=z90 s++List.replicate k 61 from e,List.length_append,List.length_replicate]
 unfold qaN at h6
 omega
theorem qpS:∀ s:List UInt8,(z50 s).length≤3*s.length
 | []=>Nat.le_refl _
 | c :: r=>by
  have h1:=qpS r
  have h2:=(quB c).1
  show (z91 c++z50 r).length≤_
  rw [List.length_append,qlE,List.length_cons]; omega
theorem isE (s:List UInt8):(((s.length:Nat):Int)==0)=s.isEmpty:=by
 cases s with
 | nil=>rfl
 | cons x r=>simp only [List.isEmpty_cons,List.length_cons]; rw [beq_eq_false_iff_ne]; omega
theorem i75 (l:List UInt8):decide ((75:Int) < ((l.length:Nat):Int))=decide (75 < l.length):=by
 by_cases h:75 < l.length
 ·rw [dT (by omega),decide_eq_true h]
 ·rw [dF (by omega),decide_eq_false h]
theorem qwJ:∀ (charset0:Int) (code1:Int) (s2:List UInt8),(qwz charset0 code1 s2=true)→∃ n,qxn n charset0 code1 s2=qen (z15 charset0 code1 s2).1 (z15 charset0 code1 s2).2:=fun cs code s h=>⟨0,by
 have hl:s.length≤262144:=of_decide_eq_true h
 have h1:=qpR cs code
 have h2:=qwI s
 have h3:(z46 s).length≤3*s.length:=qpS s
 have hroom:room ≥ 4000000:=by unfold room; omega
 unfold qxn z15
 rw [show qtm s=true from decide_eq_true hl,show qwx s=true from qy (by omega),isE,i75,i75]
 rw [decide_eq_true (show (z48 cs code).length≤room by omega),decide_eq_true (show (z48 cs code).length+(z47 s).length≤room by omega),decide_eq_true (show (z48 cs code).length+(z46 s).length≤room by omega),
  decide_eq_true (show ((z48 cs code)++(z47 s)).length+([63,61]:List UInt8).length≤room by rw [List.length_append]; simp only [List.length_cons,List.length_nil]; omega),
  decide_eq_true (show ((z48 cs code)++(z46 s)).length+([63,61]:List UInt8).length≤room by rw [List.length_append]; simp only [List.length_cons,List.length_nil]; omega)]
 cases z44 cs
 ·rfl
 ·cases (z45 code==[])
  ·cases s.isEmpty
   ·cases (code==1)
    ·simp only [cond_true,cond_false,Bool.not_true,Bool.or_self,Bool.and_true]
     cases decide (75 < (z48 cs code++z46 s++[63,61]).length) <;> rfl
    ·simp only [cond_true,cond_false,Bool.not_true,Bool.or_self,Bool.and_true]
     cases decide (75 < (z48 cs code++z47 s++[63,61]).length) <;> rfl
   ·rfl
  ·rfl⟩
theorem qwK:∃ n,qBn n  = qer z10:=⟨0,by kernel_rfl⟩
theorem qBc:∀ (s0:List UInt8),∃ n,z3_sh n s0=qiN (z3 s0):=fun s=>⟨0,by
 unfold z3_sh
 by_cases hl:(500:Int) < ((s.length:Nat):Int)
 ·rw [dT hl]; rfl
 ·have h1:=qdm s
  have h2:=qkZ s
  have hk:lenOk s=true:=qy (by omega)
  rw [dF hl,cond_false,show qiT s=true from hk,show quD s=true from hk,show z12 s=z11 s from rfl,show qro s=true from hk]
  have hL:∀ x:List UInt8,z13 x x=true:=fun x=>decide_eq_true rfl
  rw [show qmP (z11 s).1.1 (z11 s).1.1=true from qy (by omega),show qmP (z11 s).1.2.2.1 (z11 s).1.2.2.1=true from qy (by omega),hL,hL]
  simp only [Bool.and_true,cond_true,beq_self_eq_true]
  rw [show z14 s=((z11 s).2==0) from rfl,beq_self_eq_true]; rfl⟩
end Go.Av
