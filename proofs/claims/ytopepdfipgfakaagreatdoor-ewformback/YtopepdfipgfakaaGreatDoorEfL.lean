import Derived.Test.YtopepdfipgfakaaGreatDoorEfR
namespace Go.Av
set_option linter.unusedVariables false
set_option linter.unusedSimpArgs false
theorem qyF {x:UInt8} {r:List UInt8} (h:(farN (x :: r)==0)=false):1≤farN (x :: r):=by
 have:=beq_eq_false_iff_ne.1 h; omega
theorem qkG (x:UInt8) (r:List UInt8):1≤(z187 (x :: r)).2.1.toNat:=by
 show 1≤(bif farN (x :: r)==0 then ((0:Int),((1:Int),(3:Int))) else bif decide (farN (x :: r) < qf x)&&(farN (x :: r)==(x :: r).length) then (0,(farN (x :: r):Nat),4)
  else bif decide (farN (x :: r) < qf x) then (0,(farN (x :: r):Nat),3) else (signN (farN (x :: r)) (x :: r),(farN (x :: r):Nat),0)).2.1.toNat
 cases h:farN (x :: r)==0 with
 | true=>exact Nat.le_refl 1
 | false =>
  have:=qyF h
  rw [cond_false]
  cases decide (farN (x :: r) < qf x)&&farN (x :: r)==(x :: r).length
  ·cases decide (farN (x :: r) < qf x) <;> exact this
  ·exact this
theorem qrn:∀ (n:Nat) (s:List UInt8),(utfR n s).length≤s.length
 | 0,_=>Nat.zero_le _
 | _+1,[]=>Nat.zero_le _
 | n+1,x :: r=>by
  show (utfR n ((x :: r).drop _)).length+1≤_
  have h1:=qrn n ((x :: r).drop (z187 (x :: r)).2.1.toNat)
  have h2:=qkG x r
  rw [List.length_drop] at h1
  simp only [List.length_cons] at h1 ⊢; omega
theorem qro:∀ (n:Nat) (l:List Int),(octs n l).length=n
 | 0,_=>rfl
 | n+1,l=>by show (octs n _).length+1=_; rw [qro]
theorem qmc:∀ s:List UInt8,(bitsB s).length=6*s.length
 | []=>rfl
 | x :: r=>by
  show (qbI _++bitsB r).length=_
  rw [List.length_append,qmc r]; simp [qbI]; omega
theorem qbX {α:Type} (p:α→Bool):∀ l:List α,(l.takeWhile p).length≤l.length
 | []=>Nat.le_refl _
 | x :: r=>by
  rw [List.takeWhile_cons]
  split
  ·simp only [List.length_cons]; have:=qbX p r; omega
  ·simp
theorem qyG (s:List UInt8):(digB s).length≤s.length :=
 Nat.le_trans (List.length_filter_le _ _) (qbX _ _)
theorem qrp (s:List UInt8):(z98 s).length≤s.length:=by
 show (octs _ _).length≤_
 rw [qro,qmc]
 have:=qyG s; omega
theorem qjh:∀ (s:List UInt8) (k:Nat),(qwS k s).1.length≤s.length
 | [],k=>by cases k <;> exact Nat.zero_le _
 | x :: r,k+1=>by
  have:=qjh r k
  show (qwS k r).1.length≤r.length+1; omega
 | x :: r,0=>by
  show (bif _ then _ else _:List UInt8×Nat).1.length≤r.length+1
  cases (z189 (x :: r) 0 61).2
  ·have:=qjh r 0
   show (qwS 0 r).1.length+1≤_; omega
  ·have:=qjh r 2
   show (qwS 2 r).1.length+1≤_; omega
theorem qvd (w:Word):(octOf w).length≤w.2.2.1.length:=by
 unfold octOf
 cases w.2.1==1
 ·exact qjh _ _
 ·exact qrp _
theorem qhY (cs:Int) (s:List UInt8):(z52 cs s).length≤s.length:=by
 unfold z52
 cases cs==1
 ·cases cs==3
  ·cases cs==4
   ·cases cs==5
    ·simp [z97]
    ·exact qrn _ _
   ·simp [z95]
  ·simp [z94]
 ·simp [z93]
theorem qfd (c:UInt8):∀ (s cur:List UInt8),((cutC c cur s).map List.length).sum≤cur.length+s.length
 | [],cur=>by simp [cutC]
 | x :: r,cur=>by
  show (((bif x==c then cur :: cutC c [] r else cutC c (cur++[x]) r):List (List UInt8)).map List.length).sum≤_
  cases x==c
  ·have:=qfd c r (cur++[x])
   simp only [cond_false,List.length_append,List.length_cons,List.length_nil] at this ⊢; omega
  ·have:=qfd c r []
   simp only [cond_true,List.map_cons,List.sum_cons,List.length_cons,List.length_nil] at this ⊢; omega
theorem qmd (s:List UInt8):(z11 s).1.2.2.1.length≤s.length:=by
 have hs:=qfd 63 s []
 unfold z11
 generalize cutC 63 [] s=l at hs ⊢
 unfold qjH
 split
 ·rename_i a b c d e
  simp only [List.map_cons,List.map_nil,List.sum_cons,List.sum_nil,List.length_nil] at hs
  cases decide (a=[61])&&decide (e=[61])
  ·exact Nat.zero_le _
  ·rw [cond_true]
   cases (codeL c==0)||(!(fullB b 64) || !(fullB d 4))
   ·cases decide (75 < s.length)
    ·show d.length≤_; omega
    ·exact Nat.zero_le _
   ·exact Nat.zero_le _
 ·exact Nat.zero_le _
end Go.Av
