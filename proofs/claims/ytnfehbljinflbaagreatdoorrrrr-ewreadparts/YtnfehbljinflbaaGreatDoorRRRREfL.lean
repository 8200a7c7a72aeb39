import Derived.Test.YtnfehbljinflbaaGreatDoorRRRREfR
namespace Go.Av
theorem qLI {x:UInt8} {r:LU} (h:(farN (x :: r)==0)=false):1≤farN (x :: r):=by
 have:=beq_eq_false_iff_ne.1 h; omega
theorem qrH (x:UInt8) (r:LU):1≤(z102 (x :: r)).2.1.toNat:=by
 show 1≤(bif farN (x :: r)==0 then ((0:Int),((1:Int),(3:Int))) else bif decide (farN (x :: r) < qk x)&&(farN (x :: r)==(x :: r).length) then (0,(farN (x :: r):Nat),4)
  else bif decide (farN (x :: r) < qk x) then (0,(farN (x :: r):Nat),3) else (signN (farN (x :: r)) (x :: r),(farN (x :: r):Nat),0)).2.1.toNat
 cases h:farN (x :: r)==0 with
 | true=>exact yv 1
 | false =>
  have:=qLI h;rw [yd];cases decide (farN (x :: r) < qk x)&&farN (x :: r)==(x :: r).length
  ·cases decide (farN (x :: r) < qk x) <;> exact this
  ·exact this
theorem qrI:∀ (n:Nat) (s:LU),(utfR n s).length≤s.length
 | 0,_=>Nat.zero_le _
 | _+1,[]=>Nat.zero_le _
 | n+1,x :: r=>by
  show (utfR n ((x :: r).drop _)).length+1≤_;have h1:=qrI n ((x :: r).drop (z102 (x :: r)).2.1.toNat);have h2:=qrH x r;rw [yK] at h1;simp only [yg] at h1 ⊢; omega
theorem qrJ:∀ (n:Nat) (l:LI),(octs n l).length=n
 | 0,_=>rfl
 | n+1,l=>by show (octs n _).length+1=_; rw [qrJ]
theorem qig:∀ s:LU,(bitsB s).length=6*s.length
 | []=>rfl
 | x :: r=>by
  show (qbL _++bitsB r).length=_;rw [yn,qig r]; simp [qbL]; omega
theorem qcd {α:Type} (p:α→Bool):∀ l:List α,(l.takeWhile p).length≤l.length
 | []=>yv _
 | x :: r=>by
  rw [List.takeWhile_cons];split
  ·simp only [yg]; have:=qcd p r; omega
  ·simp
theorem qAj (s:LU):(digB s).length≤s.length :=
 yL (List.length_filter_le _ _) (qcd _ _)
theorem qps (s:LU):(z107 s).length≤s.length:=by
 show (octs _ _).length≤_;rw [qrJ,qig];have:=qAj s; omega
theorem qji:∀ (s:LU) (k:Nat),(qwS k s).1.length≤s.length
 | [],k=>by cases k <;> exact Nat.zero_le _
 | x :: r,k+1=>by
  have:=qji r k;show (qwS k r).1.length≤r.length+1; omega
 | x :: r,0=>by
  show (bif _ then _ else _:LU×Nat).1.length≤r.length+1;cases (z144 (x :: r) 0 61).2
  ·have:=qji r 0;show (qwS 0 r).1.length+1≤_; omega
  ·have:=qji r 2;show (qwS 2 r).1.length+1≤_; omega
theorem qug (w:Word):(octOf w).length≤w.2.2.1.length:=by
 unfold octOf;cases w.2.1==1
 ·exact qji _ _
 ·exact qps _
theorem qmO (cs:Int) (s:LU):(z63 cs s).length≤s.length:=by
 unfold z63;cases cs==1
 ·cases cs==3
  ·cases cs==4
   ·cases cs==5
    ·simp [z106]
    ·exact qrI _ _
   ·simp [z105]
  ·simp [z104]
 ·simp [z103]
theorem qih (c:UInt8):∀ (s cur:LU),((cutC c cur s).map List.length).sum≤cur.length+s.length
 | [],cur=>by simp [cutC]
 | x :: r,cur=>by
  show (((bif x==c then cur :: cutC c [] r else cutC c (cur++[x]) r):List LU).map List.length).sum≤_;cases x==c
  ·have:=qih c r (cur++[x]);simp only [yd,yn,yg,List.length_nil] at this ⊢; omega
  ·have:=qih c r [];simp only [yc,yI,List.sum_cons,yg,List.length_nil] at this ⊢; omega
theorem qfD (s:LU):(z51 s).1.2.2.1.length≤s.length:=by
 have hs:=qih 63 s [];unfold z51;generalize cutC 63 [] s=l at hs ⊢;unfold qkR;split
 ·rename_i a b c d e;simp only [yI,List.map_nil,List.sum_cons,List.sum_nil,List.length_nil] at hs;cases decide (a=[61])&&decide (e=[61])
  ·exact Nat.zero_le _
  ·rw [yc];cases (codeL c==0)||(!(fullB b 64) || !(fullB d 4))
   ·cases decide (75 < s.length)
    ·show d.length≤_; omega
    ·exact Nat.zero_le _
   ·exact Nat.zero_le _
 ·exact Nat.zero_le _
theorem qAk (s:LU):(z39 s).1.length≤s.length:=by
 unfold z39;cases (z51 s).2 != 0
 ·exact yL (qmO _ _) (yL (qug _) (qfD s))
 ·exact Nat.zero_le _
end Go.Av
