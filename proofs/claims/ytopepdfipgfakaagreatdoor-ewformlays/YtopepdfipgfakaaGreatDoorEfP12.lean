import Derived.Test.YtopepdfipgfakaaGreatDoorEfP11
namespace Go.Av
set_option linter.unusedVariables false
set_option linter.unusedSimpArgs false
theorem qhN (s:List UInt8):(z11 s).1.1.length≤s.length:=by
 have hs:=qeZ 63 s []
 unfold z11
 generalize cutC 63 [] s=l at hs ⊢
 unfold qjj
 split
 ·rename_i a b c d e
  simp only [List.map_cons,List.map_nil,List.sum_cons,List.sum_nil,List.length_nil] at hs
  cases decide (a=[61])&&decide (e=[61])
  ·exact Nat.zero_le _
  ·rw [cond_true]
   cases (codeL c==0)||(!(fullB b 64) || !(fullB d 4))
   ·cases decide (75 < s.length)
    ·show b.length≤_; omega
    ·exact Nat.zero_le _
   ·exact Nat.zero_le _
 ·exact Nat.zero_le _
theorem qyb:∀ (s0:List UInt8),(qxT s0=true)→∃ n,qyP n s0=qjd (z19 s0).1 (z19 s0).2:=fun s h=>⟨0,by
 have hl:=qo h
 have h1:=qhN s
 have h2:=qup s
 have h3:=qun (z11 s).1
 unfold qyP
 rw [show qnE s=true from h,show qnp (z11 s).1=true from qK (by omega),show qnq (z11 s).1=true from qK (by omega),
  show qno (z53 (z11 s).1) (z54 (z11 s).1)=true from qK (by show (octOf _).length≤_; omega)]
 simp only [Bool.and_true,cond_true,qhd]
 unfold z19
 cases ((z11 s).2 != 0) <;> rfl⟩
theorem qeA (cs:Int):(z89 cs).length≤20:=by
 unfold z89 z133
 cases cs==1
 ·cases cs==2
  ·cases cs==3
   ·cases cs==4
    ·cases cs==5
     ·exact Nat.zero_le _
     ·exact Nat.le_of_ble_eq_true rfl
    ·exact Nat.le_of_ble_eq_true rfl
   ·exact Nat.le_of_ble_eq_true rfl
  ·exact Nat.le_of_ble_eq_true rfl
 ·exact Nat.le_of_ble_eq_true rfl
theorem qnv (c:Int):(z45 c).length≤1:=by
 unfold z45
 cases c==1
 ·cases c==2
  ·exact Nat.zero_le _
  ·exact Nat.le_refl _
 ·exact Nat.le_refl _
theorem qqR (cs c:Int):(z48 cs c).length≤25:=by
 have h1:=qeA cs
 have h2:=qnv c
 unfold z48
 simp only [List.length_append,List.length_cons,List.length_nil]
 omega
theorem qqS (s:List UInt8):(z47 s).length≤4*s.length+8:=by
 obtain ⟨k,hk,e,_⟩:=qtr s
 have h6:=(qhy s).2.2.2
 have:(z47 s).length=(z90 s).length+k:=by rw [show z47 s=z90 s++List.replicate k 61 from e,List.length_append,List.length_replicate]
 unfold qR at h6
 omega
theorem qkl:∀ s:List UInt8,(z50 s).length≤3*s.length
 | []=>Nat.le_refl _
 | c :: r=>by
  have h1:=qkl r
  have h2:=(qnB c).1
  show (z91 c++z50 r).length≤_
  rw [List.length_append,qfk,List.length_cons]; omega
theorem isE (s:List UInt8):(((s.length:Nat):Int)==0)=s.isEmpty:=by
 cases s with
 | nil=>rfl
 | cons x r=>simp only [List.isEmpty_cons,List.length_cons]; rw [beq_eq_false_iff_ne]; omega
theorem i75 (l:List UInt8):decide ((75:Int) < ((l.length:Nat):Int))=decide (75 < l.length):=by
 by_cases h:75 < l.length
 ·rw [dT (by omega),decide_eq_true h]
 ·rw [dF (by omega),decide_eq_false h]
theorem qyc:∀ (charset0:Int) (code1:Int) (s2:List UInt8),(qqM charset0 code1 s2=true)→∃ n,qyG n charset0 code1 s2=qeB (z15 charset0 code1 s2).1 (z15 charset0 code1 s2).2:=fun cs code s h=>⟨0,by
 have hl:s.length≤262144:=of_decide_eq_true h
 have h1:=qqR cs code
 have h2:=qqS s
 have h3:(z46 s).length≤3*s.length:=qkl s
 have hroom:room ≥ 4000000:=by unfold room; omega
 unfold qyG z15
 rw [show quA s=true from decide_eq_true hl,show qxS s=true from qK (by omega),isE,i75,i75]
 rw [decide_eq_true (show (z48 cs code).length≤room by omega),decide_eq_true (show (z48 cs code).length+(z47 s).length≤room by omega),decide_eq_true (show (z48 cs code).length+(z46 s).length≤room by omega),
  decide_eq_true (show ((z48 cs code)++(z47 s)).length+([63,61]:List UInt8).length≤room by rw [List.length_append]; simp only [List.length_cons,List.length_nil]; omega),
  decide_eq_true (show ((z48 cs code)++(z46 s)).length+([63,61]:List UInt8).length≤room by rw [List.length_append]; simp only [List.length_cons,List.length_nil]; omega)]
 cases z44 cs
 ·rfl
 ·cases (z45 code==[])
  ·cases s.isEmpty
   ·cases (code==1)
    ·simp only [cond_true,cond_false,Bool.not_true,Bool.or_self,Bool.and_true]
     cases decide (75 < (z48 cs code++z46 s++[63,61]).length) <;> rfl
    ·simp only [cond_true,cond_false,Bool.not_true,Bool.or_self,Bool.and_true]
     cases decide (75 < (z48 cs code++z47 s++[63,61]).length) <;> rfl
   ·rfl
  ·rfl⟩
theorem qwk {l1 l2:List UInt8} (e:l1=l2):(bif decide (75 < l2.length) then qaf [] 12 else qaf l2 0)=qaf (bif decide (75 < l1.length) then (([]:List UInt8),(12:Int)) else (l1,0)).1 (bif decide (75 < l1.length) then (([]:List UInt8),(12:Int)) else (l1,0)).2:=by
 subst e
 cases decide (75 < l1.length) <;> rfl
theorem qyd:∀ (charset0:Int) (code1:Int) (s2:List UInt8),(quB charset0 code1 s2=true)→∃ n,qyT n charset0 code1 s2=qaf (z16 charset0 code1 s2).1 (z16 charset0 code1 s2).2:=fun cs code s h=>⟨0,by
 have hl:s.length≤262144:=of_decide_eq_true h
 have h1:=qeA cs
 have h2:(z49 s).length≤4*s.length+8:=qqS s
 have h3:=qkl s
 have hroom:room ≥ 4000000:=by unfold room; omega
 have hroom2:room≤9223372036854775807:=by unfold room; omega
 show _=qaf (z15 cs code s).1 (z15 cs code s).2
 unfold qyT z15 z48
 rw [show qnm s=true from decide_eq_true (by omega),show qnl s=true from decide_eq_true (by omega),isE,i75,i75,show z51 cs=z89 cs from rfl]
 have e0:decide ((([61,63]:List UInt8)).length+(z89 cs).length≤9223372036854775807)=true:=decide_eq_true (by simp only [List.length_cons,List.length_nil]; omega)
 have eA:∀ x:UInt8,decide ((([61,63]:List UInt8)++z89 cs).length+([63,x,63]:List UInt8).length≤9223372036854775807)=true:=fun x=>decide_eq_true (by rw [List.length_append]; simp only [List.length_cons,List.length_nil]; omega)
 have eB:∀ x:UInt8,decide (((([61,63]:List UInt8)++z89 cs)++([63,x,63]:List UInt8)).length≤room)=true:=fun x=>decide_eq_true (by rw [List.length_append,List.length_append]; simp only [List.length_cons,List.length_nil]; omega)
 have eC:∀ (x:UInt8) (t:List UInt8),t.length≤4*s.length+8→decide (((([61,63]:List UInt8)++z89 cs)++([63,x,63]:List UInt8)).length+t.length≤room)=true:=fun x t ht=>decide_eq_true (by rw [List.length_append,List.length_append]; simp only [List.length_cons,List.length_nil]; omega)
 have eD:∀ (x:UInt8) (t:List UInt8),t.length≤4*s.length+8→decide ((((([61,63]:List UInt8)++z89 cs)++([63,x,63]:List UInt8))++t).length+([63,61]:List UInt8).length≤room)=true:=fun x t ht=>decide_eq_true (by rw [List.length_append,List.length_append,List.length_append]; simp only [List.length_cons,List.length_nil]; omega)
 rw [e0,eA 81,eA 66,eB 81,eB 66,eC 81 _ (show (z50 s).length≤_ by omega),eC 66 _ h2,eD 81 _ (show (z50 s).length≤_ by omega),eD 66 _ h2]
 have hcs:z44 cs=(!(decide (cs < 1)) && !(decide (5 < cs))):=by
  unfold z44
  by_cases h1:cs < 1
  ·rw [dT h1,dF (show ¬ 1≤cs by omega)]; rfl
  ·rw [dF h1,dT (show 1≤cs by omega)]
   by_cases h2:5 < cs
   ·rw [dT h2,dF (show ¬ cs≤5 by omega)]; rfl
   ·rw [dF h2,dT (show cs≤5 by omega)]; rfl
 rw [hcs]
 cases decide (cs < 1)
 ·cases decide (5 < cs)
  ·by_cases hc1:code=1
   ·subst hc1
    cases s.isEmpty
    ·have e:((([61,63]:List UInt8)++z89 cs++[63]++z45 1++[63])++z47 s++[63,61])=(((([61,63]:List UInt8)++z89 cs)++[63,66,63])++z49 s)++[63,61]:=by
      show ((([61,63]:List UInt8)++z89 cs++[63]++[66]++[63])++z49 s++[63,61])=_
      simp
     have e2:(z45 1==[])=false:=rfl
     rw [e2,show ((1:Int)==1)=true from rfl,show ((1:Int) != 1)=false from rfl,show ((1:Int)==2)=false from rfl]
     simp only [cond_true,cond_false,Bool.not_true,Bool.not_false,Bool.and_self,Bool.or_self,Bool.and_true]
     exact qwk e
    ·rfl
   ·have hne1:(code==1)=false:=by simpa using hc1
    have hne1':(code != 1)=true:=by rw [bne,hne1]; rfl
    by_cases hc2:code=2
    ·subst hc2
     cases s.isEmpty
     ·have e:((([61,63]:List UInt8)++z89 cs++[63]++z45 2++[63])++z46 s++[63,61])=(((([61,63]:List UInt8)++z89 cs)++[63,81,63])++z50 s)++[63,61]:=by
       show ((([61,63]:List UInt8)++z89 cs++[63]++[81]++[63])++z50 s++[63,61])=_
       simp
      have e2:(z45 2==[])=false:=rfl
      rw [e2,show ((2:Int)==1)=false from rfl,show ((2:Int) != 1)=true from rfl,show ((2:Int)==2)=true from rfl,show ((2:Int) != 2)=false from rfl]
      simp only [cond_true,cond_false,Bool.not_true,Bool.not_false,Bool.and_self,Bool.or_self,Bool.and_true]
      exact qwk e
     ·rfl
    ·have hne2:(code==2)=false:=by simpa using hc2
     have hne2':(code != 2)=true:=by rw [bne,hne2]; rfl
     have hlt:z45 code=[]:=by unfold z45; rw [hne1,hne2]; rfl
     rw [hne1',hne2',hlt]; rfl
  ·rfl
 ·rfl⟩
theorem qye:∃ n,qCW n  = qeF z10:=⟨0,by kernel_rfl⟩
theorem quH (cs code:Int) (s:List UInt8):(z15 cs code s).1.length≤75:=by
 unfold z15
 cases z44 cs
 ·exact Nat.zero_le _
 ·cases (z45 code==[])||s.isEmpty
  ·by_cases h:75 < (z48 cs code++(bif code==1 then z47 s else z46 s)++[63,61]).length
   ·rw [decide_eq_true h]; exact Nat.zero_le _
   ·rw [decide_eq_false h]
    show (z48 cs code++(bif code==1 then z47 s else z46 s)++[63,61]).length≤75
    omega
  ·exact Nat.zero_le _
theorem qCL:∀ (charset0:Int) (code1:Int) (s2:List UInt8),∃ n,z4_sh n charset0 code1 s2=qny (z4 charset0 code1 s2):=fun cs code s=>⟨0,by
 unfold z4_sh
 by_cases hl:(500:Int) < ((s.length:Nat):Int)
 ·rw [dT hl]; rfl
 ·have h1:=quH cs code s
  have hk:decide (s.length≤262144)=true:=decide_eq_true (by omega)
  rw [dF hl,cond_false,show qqM cs code s=true from hk,show quB cs code s=true from hk,show z16 cs code s=z15 cs code s from rfl,show qvW (z15 cs code s).1 (z15 cs code s).1=true from qK (by omega),
   show z13 (z15 cs code s).1 (z15 cs code s).1=true from decide_eq_true rfl,show z18 cs=z17 cs from rfl]
  simp only [Bool.and_true,cond_true,beq_self_eq_true]
  rfl⟩
end Go.Av
