import Derived.Test.YtopepdfipgfakaaGreatDoorEfR
namespace Go.Av
set_option linter.unusedVariables false
set_option linter.unusedSimpArgs false
theorem qHI {x:UInt8} {r:List UInt8} (h:(farN (x :: r)==0)=false):1≤farN (x :: r):=by
 have:=beq_eq_false_iff_ne.1 h; omega
theorem qHJ (x:UInt8) (r:List UInt8):1≤(z187 (x :: r)).2.1.toNat:=by
 show 1≤(bif farN (x :: r)==0 then ((0:Int),((1:Int),(3:Int))) else bif decide (farN (x :: r) < qg x)&&(farN (x :: r)==(x :: r).length) then (0,(farN (x :: r):Nat),4)
  else bif decide (farN (x :: r) < qg x) then (0,(farN (x :: r):Nat),3) else (signN (farN (x :: r)) (x :: r),(farN (x :: r):Nat),0)).2.1.toNat
 cases h:farN (x :: r)==0 with
 | true=>exact Nat.le_refl 1
 | false =>
  have:=qHI h
  rw [cond_false]
  cases decide (farN (x :: r) < qg x)&&farN (x :: r)==(x :: r).length
  ·cases decide (farN (x :: r) < qg x) <;> exact this
  ·exact this
theorem qoM:∀ (n:Nat) (l:List Int),(octs n l).length=n
 | 0,_=>rfl
 | n+1,l=>by show (octs n _).length+1=_; rw [qoM]
theorem qfR:∀ s:List UInt8,(bitsB s).length=6*s.length
 | []=>rfl
 | x :: r=>by
  show (qar _++bitsB r).length=_
  rw [List.length_append,qfR r]; simp [qar]; omega
theorem qaV {α:Type} (p:α→Bool):∀ l:List α,(l.takeWhile p).length≤l.length
 | []=>Nat.le_refl _
 | x :: r=>by
  rw [List.takeWhile_cons]
  split
  ·simp only [List.length_cons]; have:=qaV p r; omega
  ·simp
theorem qzd (s:List UInt8):(digB s).length≤s.length :=
 Nat.le_trans (List.length_filter_le _ _) (qaV _ _)
theorem qze (s:List UInt8):(z98 s).length≤s.length:=by
 show (octs _ _).length≤_
 rw [qoM,qfR]
 have:=qzd s; omega
theorem qmt:∀ (s:List UInt8) (k:Nat),(qwS k s).1.length≤s.length
 | [],k=>by cases k <;> exact Nat.zero_le _
 | x :: r,k+1=>by
  have:=qmt r k
  show (qwS k r).1.length≤r.length+1; omega
 | x :: r,0=>by
  show (bif _ then _ else _:List UInt8×Nat).1.length≤r.length+1
  cases (z189 (x :: r) 0 61).2
  ·have:=qmt r 0
   show (qwS 0 r).1.length+1≤_; omega
  ·have:=qmt r 2
   show (qwS 2 r).1.length+1≤_; omega
theorem qfS (c:UInt8):∀ (s cur:List UInt8),((cutC c cur s).map List.length).sum≤cur.length+s.length
 | [],cur=>by simp [cutC]
 | x :: r,cur=>by
  show (((bif x==c then cur :: cutC c [] r else cutC c (cur++[x]) r):List (List UInt8)).map List.length).sum≤_
  cases x==c
  ·have:=qfS c r (cur++[x])
   simp only [cond_false,List.length_append,List.length_cons,List.length_nil] at this ⊢; omega
  ·have:=qfS c r []
   simp only [cond_true,List.map_cons,List.sum_cons,List.length_cons,List.length_nil] at this ⊢; omega
theorem qrr (s:List UInt8):(z11 s).1.2.2.1.length≤s.length:=by
 have hs:=qfS 63 s []
 unfold z11
 generalize cutC 63 [] s=l at hs ⊢
 unfold qmw
 split
 ·rename_i a b c d e
  simp only [List.map_cons,List.map_nil,List.sum_cons,List.sum_nil,List.length_nil] at hs
  cases decide (a=[61])&&decide (e=[61])
  ·exact Nat.zero_le _
  ·rw [cond_true]
   cases (codeL c==0)||(!(fullB b 64) || !(fullB d 4))
   ·cases decide (75 < s.length)
    ·show d.length≤_; omega
    ·exact Nat.zero_le _
   ·exact Nat.zero_le _
 ·exact Nat.zero_le _
end Go.Av
