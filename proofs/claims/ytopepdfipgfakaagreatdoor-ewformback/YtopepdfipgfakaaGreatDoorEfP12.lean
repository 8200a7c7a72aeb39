import Derived.Test.YtopepdfipgfakaaGreatDoorEfP11
namespace Go.Av
set_option linter.unusedVariables false
set_option linter.unusedSimpArgs false
theorem qbA (s:List UInt8):(z11 s).1.1.length≤s.length:=by
 have hs:=qfd 63 s []
 unfold z11
 generalize cutC 63 [] s=l at hs ⊢
 unfold qjH
 split
 ·rename_i a b c d e
  simp only [List.map_cons,List.map_nil,List.sum_cons,List.sum_nil,List.length_nil] at hs
  cases decide (a=[61])&&decide (e=[61])
  ·exact Nat.zero_le _
  ·rw [cond_true]
   cases (codeL c==0)||(!(fullB b 64) || !(fullB d 4))
   ·cases decide (75 < s.length)
    ·show b.length≤_; omega
    ·exact Nat.zero_le _
   ·exact Nat.zero_le _
 ·exact Nat.zero_le _
theorem qyS:∀ (s0:List UInt8),(qrt s0=true)→∃ n,qzN n s0=qjy (z19 s0).1 (z19 s0).2:=fun s h=>⟨0,by
 have hl:=qm h
 have h1:=qbA s
 have h2:=qmd s
 have h3:=qvd (z11 s).1
 unfold qzN
 rw [show qgz s=true from h,show qji (z11 s).1=true from qt (by omega),show qnT (z11 s).1=true from qt (by omega),
  show qnR (z53 (z11 s).1) (z54 (z11 s).1)=true from qt (by show (octOf _).length≤_; omega)]
 simp only [Bool.and_true,cond_true,qhp]
 unfold z19
 cases ((z11 s).2 != 0) <;> rfl⟩
theorem qyT:∀ (s0:List UInt8),(qvt s0=true)→∃ n,qzO n s0=qsW (z22 s0):=fun s h=>⟨0,by
 have hl:=qm h
 have h1:=qbA s
 unfold qzO z22
 rw [show qgz s=true from h,show qji (z11 s).1=true from qt (by omega)]
 cases ((z11 s).2 != 0) <;> rfl⟩
theorem qyU:∀ (s0:List UInt8),(qvs s0=true)→∃ n,qzR n s0=qgX (z24 s0):=fun s h=>⟨0,by
 have hl:=qm h
 have h1:=qbA s
 have h2:=qmd s
 unfold qzR z24
 rw [show qgz s=true from h,show qnS (z11 s).1.1=true from qt (by omega),show qvn (z11 s).1.2.2.1=true from qt (by omega),show qvq (z11 s).1.2.2.1=true from qt (by omega)]
 have hb:((z11 s).2 != 0) = !((z11 s).2==0):=rfl
 rw [hb]
 cases ((z11 s).2==0) <;> cases ((z11 s).1.2.1==1) <;> cases ((z58 (z11 s).1.1).2==0) <;> rfl⟩
theorem qjl (cs:Int):(z89 cs).length≤20:=by
 unfold z89 z133
 cases cs==1
 ·cases cs==2
  ·cases cs==3
   ·cases cs==4
    ·cases cs==5
     ·exact Nat.zero_le _
     ·exact Nat.le_of_ble_eq_true rfl
    ·exact Nat.le_of_ble_eq_true rfl
   ·exact Nat.le_of_ble_eq_true rfl
  ·exact Nat.le_of_ble_eq_true rfl
 ·exact Nat.le_of_ble_eq_true rfl
theorem qnY (c:Int):(z45 c).length≤1:=by
 unfold z45
 cases c==1
 ·cases c==2
  ·exact Nat.zero_le _
  ·exact Nat.le_refl _
 ·exact Nat.le_refl _
theorem qrA (cs c:Int):(z48 cs c).length≤25:=by
 have h1:=qjl cs
 have h2:=qnY c
 unfold z48
 simp only [List.length_append,List.length_cons,List.length_nil]
 omega
theorem qyV (s:List UInt8):(z47 s).length≤4*s.length+8:=by
 obtain ⟨k,hk,e,_⟩:=qck s
 have h6:=(qaQ s).2.2.2
 have:(z47 s).length=(z90 s).length+k:=by rw [show z47 s=z90 s++List.replicate k 61 from e,List.length_append,List.length_replicate]
 unfold qac at h6
 omega
theorem qrB:∀ s:List UInt8,(z50 s).length≤3*s.length
 | []=>Nat.le_refl _
 | c :: r=>by
  have h1:=qrB r
  have h2:=(qwT c).1
  show (z91 c++z50 r).length≤_
  rw [List.length_append,qmV,List.length_cons]; omega
theorem isE (s:List UInt8):(((s.length:Nat):Int)==0)=s.isEmpty:=by
 cases s with
 | nil=>rfl
 | cons x r=>simp only [List.isEmpty_cons,List.length_cons]; rw [beq_eq_false_iff_ne]; omega
theorem i75 (l:List UInt8):decide ((75:Int) < ((l.length:Nat):Int))=decide (75 < l.length):=by
 by_cases h:75 < l.length
 ·rw [dT (by omega),decide_eq_true h]
 ·rw [dF (by omega),decide_eq_false h]
theorem qyW:∀ (charset0:Int) (code1:Int) (s2:List UInt8),(qru charset0 code1 s2=true)→∃ n,qzE n charset0 code1 s2=qez (z15 charset0 code1 s2).1 (z15 charset0 code1 s2).2:=fun cs code s h=>⟨0,by
 have hl:s.length≤262144:=of_decide_eq_true h
 have h1:=qrA cs code
 have h2:=qyV s
 have h3:(z46 s).length≤3*s.length:=qrB s
 have hroom:room ≥ 4000000:=by unfold room; omega
 unfold qzE z15
 rw [show qvr s=true from decide_eq_true hl,show qyJ s=true from qt (by omega),isE,i75,i75]
 rw [decide_eq_true (show (z48 cs code).length≤room by omega),decide_eq_true (show (z48 cs code).length+(z47 s).length≤room by omega),decide_eq_true (show (z48 cs code).length+(z46 s).length≤room by omega),
  decide_eq_true (show ((z48 cs code)++(z47 s)).length+([63,61]:List UInt8).length≤room by rw [List.length_append]; simp only [List.length_cons,List.length_nil]; omega),
  decide_eq_true (show ((z48 cs code)++(z46 s)).length+([63,61]:List UInt8).length≤room by rw [List.length_append]; simp only [List.length_cons,List.length_nil]; omega)]
 cases z44 cs
 ·rfl
 ·cases (z45 code==[])
  ·cases s.isEmpty
   ·cases (code==1)
    ·simp only [cond_true,cond_false,Bool.not_true,Bool.or_self,Bool.and_true]
     cases decide (75 < (z48 cs code++z46 s++[63,61]).length) <;> rfl
    ·simp only [cond_true,cond_false,Bool.not_true,Bool.or_self,Bool.and_true]
     cases decide (75 < (z48 cs code++z47 s++[63,61]).length) <;> rfl
   ·rfl
  ·rfl⟩
theorem qyX:∃ n,qDP n  = qeD z10:=⟨0,by kernel_rfl⟩
theorem qvA (cs code:Int) (s:List UInt8):(z15 cs code s).1.length≤75:=by
 unfold z15
 cases z44 cs
 ·exact Nat.zero_le _
 ·cases (z45 code==[])||s.isEmpty
  ·by_cases h:75 < (z48 cs code++(bif code==1 then z47 s else z46 s)++[63,61]).length
   ·rw [decide_eq_true h]; exact Nat.zero_le _
   ·rw [decide_eq_false h]
    show (z48 cs code++(bif code==1 then z47 s else z46 s)++[63,61]).length≤75
    omega
  ·exact Nat.zero_le _
theorem qDD (cs code:Int) (s:List UInt8) (h:((z15 cs code s).2 != 0)=true):(z15 cs code s).1=[]:=by
 unfold z15 at h ⊢
 cases hcs:z44 cs
 ·rfl
 ·cases hc:(z45 code==[])||s.isEmpty
  ·by_cases h7:75 < (z48 cs code++(bif code==1 then z47 s else z46 s)++[63,61]).length
   ·rw [decide_eq_true h7]; rfl
   ·rw [hcs,hc,decide_eq_false h7] at h; cases h
  ·rfl
theorem qDE:∀ (charset0:Int) (code1:Int) (s2:List UInt8),∃ n,z6_sh n charset0 code1 s2=qgp (z6 charset0 code1 s2):=fun cs code s=>⟨0,by
 unfold z6_sh
 by_cases hl:(500:Int) < ((s.length:Nat):Int)
 ·rw [dT hl]; rfl
 ·have h75:=qvA cs code s
  have hk:decide (s.length≤262144)=true:=decide_eq_true (by omega)
  rw [dF hl,cond_false,show qru cs code s=true from hk]
  simp only [Bool.and_true,cond_true]
  cases he:((z15 cs code s).2 != 0) with
  | true=>rw [cond_true,qDD cs code s he]; rfl
  | false =>
   have h0:(z15 cs code s).2=0:=by simpa using he
   obtain ⟨w,hw⟩:∃ w,(z15 cs code s).1=w:=⟨_,rfl⟩
   have hlay:z15 cs code s=(w,0):=Prod.ext hw h0
   obtain ⟨k1,k2,k3⟩:=qrR hlay
   obtain ⟨p1,_,_,p4⟩:=qmw hlay
   have hwk:lenOk w=true:=qt (by omega)
   have hrl:=qhY cs s
   rw [hw,cond_false,show qrt w=true from hwk,show qvs w=true from hwk,show qtp w=true from hwk,show qvt w=true from hwk,k1,k2,k3,
    show z14 w=true from by unfold z14; rw [p1]; rfl,dT (show ((w.length:Nat):Int)≤75 by omega),show qvl cs s=true from qt (by omega),show z26 cs s=z52 cs s from rfl]
   simp only [Bool.and_true,cond_true,beq_self_eq_true]
   rw [show qvu (z52 cs s) (z52 cs s)=true from qt (by omega),show z21 (z52 cs s) (z52 cs s)=true from decide_eq_true rfl]
   rfl⟩
end Go.Av
