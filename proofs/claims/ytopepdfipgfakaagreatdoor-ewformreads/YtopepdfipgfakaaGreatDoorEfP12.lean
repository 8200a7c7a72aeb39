import Derived.Test.YtopepdfipgfakaaGreatDoorEfP11
namespace Go.Av
theorem qah (s:LU):(z11 s).1.1.length≤s.length:=by
 have hs:=qgm 63 s []
 unfold z11
 generalize cutC 63 [] s=l at hs ⊢
 unfold qhU
 split
 ·rename_i a b c d e
  simp only [List.map_cons,List.map_nil,List.sum_cons,List.sum_nil,List.length_nil] at hs
  cases decide (a=[61])&&decide (e=[61])
  ·exact Nat.zero_le _
  ·rw [cond_true]
   cases (codeL c==0)||(!(fullB b 64) || !(fullB d 4))
   ·cases decide (75 < s.length)
    ·show b.length≤_; omega
    ·exact Nat.zero_le _
   ·exact Nat.zero_le _
 ·exact Nat.zero_le _
theorem qDB:∀ (s0:LU),(quX s0=true)→∃ n,qEy n s0=qlD (z19 s0).1 (z19 s0).2:=fun s h=>⟨0,by
 have hl:=qh h
 have h1:=qah s
 have h2:=qen s
 have h3:=qoE (z11 s).1
 unfold qEy
 rw [show qie s=true from h,show qlm (z11 s).1=true from ql (by omega),show qqS (z11 s).1=true from ql (by omega),
  show qqN (z53 (z11 s).1) (z54 (z11 s).1)=true from ql (by show (octOf _).length≤_; omega)]
 simp only [Bool.and_true,cond_true,qja]
 unfold z19
 cases ((z11 s).2 != 0) <;> rfl⟩
theorem qDC:∀ (s0:LU),(qzt s0=true)→∃ n,qEK n s0=qwJ (z22 s0):=fun s h=>⟨0,by
 have hl:=qh h
 have h1:=qah s
 unfold qEK z22
 rw [show qie s=true from h,show qlm (z11 s).1=true from ql (by omega)]
 cases ((z11 s).2 != 0) <;> rfl⟩
theorem qDD:∀ (s0:LU),(qzr s0=true)→∃ n,qEN n s0=qiG (z24 s0):=fun s h=>⟨0,by
 have hl:=qh h
 have h1:=qah s
 have h2:=qen s
 unfold qEN z24
 rw [show qie s=true from h,show qqP (z11 s).1.1=true from ql (by omega),show qzk (z11 s).1.2.2.1=true from ql (by omega),show qzo (z11 s).1.2.2.1=true from ql (by omega)]
 have hb:((z11 s).2 != 0) = !((z11 s).2==0):=rfl
 rw [hb]
 cases ((z11 s).2==0) <;> cases ((z11 s).1.2.1==1) <;> cases ((z58 (z11 s).1.1).2==0) <;> rfl⟩
theorem qDE:∀ (s0:LU),(qnd s0=true)→∃ n,qED n s0=qpw (z23 s0):=fun s h=>⟨0,by
 have hl:=qh h
 have h1:=qah s
 unfold qED z23 z22 csOf
 rw [show qlS s=true from h,show z12 s=z11 s from rfl,show qqQ (z11 s).1.1=true from ql (by omega),show z57 (z11 s).1.1=z58 (z11 s).1.1 from rfl]
 cases ((z11 s).2 != 0) <;> cases ((z58 (z11 s).1.1).2 != 0) <;> rfl⟩
theorem qDF:∀ (s0:LU),(qzu s0=true)→∃ n,qEJ n s0=qpC (z20 s0).1 (z20 s0).2:=fun s h=>⟨0,by
 have hl:=qh h
 have h2:=qen s
 have h3:=qlk (z11 s).1.2.2.1
 have h4:=qhe (z11 s).1.2.2.1 0
 unfold qEJ z20 z19
 rw [show qlS s=true from h,show z12 s=z11 s from rfl,show qzm (z11 s).1.2.2.1=true from ql (by omega),show qqR (z11 s).1.2.2.1=true from ql (by omega),show qnd s=true from h,
  show qqO (z23 s) (z55 (z11 s).1.2.2.1).1=true from ql (by show (z98 _).length≤_; omega),show qqO (z23 s) (z56 (z11 s).1.2.2.1).1=true from ql (by show (qwS 0 _).1.length≤_; omega)]
 cases hp:((z11 s).2 != 0) with
 | true=>rfl
 | false =>
  have hc:z23 s=csOf (z11 s).1:=by
   show z22 s=_
   unfold z22
   rw [hp]; rfl
  rw [hc]
  unfold octOf
  cases ((z11 s).1.2.1==1) <;> rfl⟩
theorem qDG:∀ (s0:LU),(qzs s0=true)→∃ n,qEQ n s0=qlK (z25 s0):=fun s h=>⟨0,by
 have hl:=qh h
 have h1:=qah s
 have h2:=qen s
 unfold qEQ z25 z24
 rw [show qlS s=true from h,show z12 s=z11 s from rfl,show qqQ (z11 s).1.1=true from ql (by omega),show z57 (z11 s).1.1=z58 (z11 s).1.1 from rfl,
  show qzj (z11 s).1.2.2.1=true from ql (by omega),show qzp (z11 s).1.2.2.1=true from ql (by omega)]
 have hb:((z11 s).2 != 0) = !((z11 s).2==0):=rfl
 have hb2:((z58 (z11 s).1.1).2 != 0) = !((z58 (z11 s).1.1).2==0):=rfl
 rw [hb,hb2]
 cases ((z11 s).2==0) <;> cases ((z11 s).1.2.1==1) <;> cases ((z58 (z11 s).1.1).2==0) <;> rfl⟩
theorem qls (cs:Int):(z89 cs).length≤20:=by
 unfold z89 z133
 cases cs==1
 ·cases cs==2
  ·cases cs==3
   ·cases cs==4
    ·cases cs==5
     ·exact Nat.zero_le _
     ·exact Nat.le_of_ble_eq_true rfl
    ·exact Nat.le_of_ble_eq_true rfl
   ·exact Nat.le_of_ble_eq_true rfl
  ·exact Nat.le_of_ble_eq_true rfl
 ·exact Nat.le_of_ble_eq_true rfl
theorem qqX (c:Int):(z45 c).length≤1:=by
 unfold z45
 cases c==1
 ·cases c==2
  ·exact Nat.zero_le _
  ·exact Nat.le_refl _
 ·exact Nat.le_refl _
theorem qvf (cs c:Int):(z48 cs c).length≤25:=by
 have h1:=qls cs
 have h2:=qqX c
 unfold z48
 simp only [List.length_append,List.length_cons,List.length_nil]
 omega
theorem qDH (s:LU):(z47 s).length≤4*s.length+8:=by
 obtain ⟨k,hk,e,_⟩:=qxU s
 have h6:=(qjx s).2.2.2
 have:(z47 s).length=(z90 s).length+k:=by rw [show z47 s=z90 s++List.replicate k 61 from e,List.length_append,List.length_replicate]
 unfold qbc at h6
 omega
theorem qvg:∀ s:LU,(z50 s).length≤3*s.length
 | []=>Nat.le_refl _
 | c :: r=>by
  have h1:=qvg r
  have h2:=(qBl c).1
  show (z91 c++z50 r).length≤_
  rw [List.length_append,qpL,List.length_cons]; omega
theorem isE (s:LU):(((s.length:Nat):Int)==0)=s.isEmpty:=by
 cases s with
 | nil=>rfl
 | cons x r=>simp only [List.isEmpty_cons,List.length_cons]; rw [beq_eq_false_iff_ne]; omega
theorem i75 (l:LU):decide ((75:Int) < ((l.length:Nat):Int))=decide (75 < l.length):=by
 by_cases h:75 < l.length
 ·rw [dT (by omega),decide_eq_true h]
 ·rw [dF (by omega),decide_eq_false h]
theorem qDI:∀ (charset0:Int) (code1:Int) (s2:LU),(qDj charset0 code1 s2=true)→∃ n,qEp n charset0 code1 s2=qfK (z15 charset0 code1 s2).1 (z15 charset0 code1 s2).2:=fun cs code s h=>⟨0,by
 have hl:s.length≤262144:=of_decide_eq_true h
 have h1:=qvf cs code
 have h2:=qDH s
 have h3:(z46 s).length≤3*s.length:=qvg s
 have hroom:room ≥ 4000000:=by unfold room; omega
 unfold qEp z15
 rw [show qzq s=true from decide_eq_true hl,show qDi s=true from ql (by omega),isE,i75,i75]
 rw [decide_eq_true (show (z48 cs code).length≤room by omega),decide_eq_true (show (z48 cs code).length+(z47 s).length≤room by omega),decide_eq_true (show (z48 cs code).length+(z46 s).length≤room by omega),
  decide_eq_true (show ((z48 cs code)++(z47 s)).length+([63,61]:LU).length≤room by rw [List.length_append]; simp only [List.length_cons,List.length_nil]; omega),
  decide_eq_true (show ((z48 cs code)++(z46 s)).length+([63,61]:LU).length≤room by rw [List.length_append]; simp only [List.length_cons,List.length_nil]; omega)]
 cases z44 cs
 ·rfl
 ·cases (z45 code==[])
  ·cases s.isEmpty
   ·cases (code==1)
    ·simp only [cond_true,cond_false,Bool.not_true,Bool.or_self,Bool.and_true]
     cases decide (75 < (z48 cs code++z46 s++[63,61]).length) <;> rfl
    ·simp only [cond_true,cond_false,Bool.not_true,Bool.or_self,Bool.and_true]
     cases decide (75 < (z48 cs code++z47 s++[63,61]).length) <;> rfl
   ·rfl
  ·rfl⟩
theorem qDJ:∃ n,qJt n  = qfO z10:=⟨0,by kernel_rfl⟩
theorem qJj:∀ (s0:LU),∃ n,z5_sh n s0=qlL (z5 s0):=fun s=>⟨0,by
 unfold z5_sh
 by_cases hl:(500:Int) < ((s.length:Nat):Int)
 ·rw [dT hl]; rfl
 ·have h1:=quT s
  have hk:lenOk s=true:=ql (by omega)
  rw [dF hl,cond_false,show quX s=true from hk,show qzu s=true from hk,show z20 s=z19 s from rfl,show qzv (z19 s).1 (z19 s).1=true from ql (by omega),
   show z21 (z19 s).1 (z19 s).1=true from decide_eq_true rfl,show qzt s=true from hk,show qnd s=true from hk,show z23 s=z22 s from rfl,
   show qzr s=true from hk,show qzs s=true from hk,show z25 s=z24 s from rfl]
  simp only [Bool.and_true,cond_true,beq_self_eq_true]
  rw [dT (show (((z19 s).1.length:Nat):Int)≤((s.length:Nat):Int) by omega)]; rfl⟩
end Go.Av
