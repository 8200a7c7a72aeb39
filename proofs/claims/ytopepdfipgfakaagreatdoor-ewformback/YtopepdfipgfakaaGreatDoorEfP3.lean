import Derived.Test.YtopepdfipgfakaaGreatDoorEfP2
namespace Go.Av
set_option linter.unusedVariables false
set_option linter.unusedSimpArgs false
theorem qvC:∀ (c0:UInt8),∃ n,qxD n c0=qlb (z150 c0).1 (z150 c0).2:=fun c=>⟨0,by
 show qlb (bif decide (Lib.indexByte b64D c < 0) then 0 else Lib.indexByte b64D c) (decide (0≤Lib.indexByte b64D c))=_
 unfold z150
 by_cases h:Lib.indexByte b64D c < 0
 ·rw [dT h,dF (by omega)]; rfl
 ·rw [dF h,dT (by omega)]; rfl⟩
theorem qvD:∀ i:Fin 256,(decide (0≤(z150 (UInt8.ofNat i.val)).1)&&decide ((z150 (UInt8.ofNat i.val)).1 < 64))=true:=by decide +kernel
theorem qxh (c:UInt8):∃ n:Nat,(z150 c).1=(n:Int)∧n < 64:=by
 have h:=qat (P:=fun c=>(decide (0≤(z150 c).1)&&decide ((z150 c).1 < 64))=true) qvD c
 simp only [Bool.and_eq_true,decide_eq_true_eq] at h
 exact ⟨(z150 c).1.toNat,by omega,by omega⟩
theorem u8_of (k:Nat):UInt8.ofNat (Int.toNat (IntKind.wrap .u8 (k:Int)))=UInt8.ofNat k:=by
 have:IntKind.wrap .u8 (k:Int)=((k % 256:Nat):Int):=by
  rw [IntKind.wrap_u8]; omega
 rw [this,Int.toNat_natCast]
 apply UInt8.toNat_inj.1
 show (k % 256) % 256=k % 256
 omega
def decT {R:Type} (K:List UInt8→Int→Int→R) (N:R) (out:List UInt8) (held many v:Int):R :=
 bif (decide ((8:Int)≤(IntKind.wrap .i64 (many+(6:Int))))) then
  bif (decide ((0:Int)≤(IntKind.wrap .i64 ((IntKind.wrap .i64 (many+(6:Int))) - (8:Int))))) then
   bif (decide (List.length out+List.length ([(UInt8.ofNat (Int.toNat (IntKind.wrap .u8 (Int.fdiv (bits .or .i64 (IntKind.wrap .i64 (held*2 ^ (min (Int.toNat (6:Int)) (IntKind.bits .i64)))) v) (2 ^ (min (Int.toNat (IntKind.wrap .i64 ((IntKind.wrap .i64 (many+(6:Int))) - (8:Int)))) (IntKind.bits .i64)))))))]:List UInt8)≤room)) then
    bif (decide ((0:Int)≤(IntKind.wrap .i64 ((IntKind.wrap .i64 (many+(6:Int))) - (8:Int))))) then
     K (out++([(UInt8.ofNat (Int.toNat (IntKind.wrap .u8 (Int.fdiv (bits .or .i64 (IntKind.wrap .i64 (held*2 ^ (min (Int.toNat (6:Int)) (IntKind.bits .i64)))) v) (2 ^ (min (Int.toNat (IntKind.wrap .i64 ((IntKind.wrap .i64 (many+(6:Int))) - (8:Int)))) (IntKind.bits .i64)))))))]:List UInt8)) (bits .and .i64 (bits .or .i64 (IntKind.wrap .i64 (held*2 ^ (min (Int.toNat (6:Int)) (IntKind.bits .i64)))) v) (IntKind.wrap .i64 ((IntKind.wrap .i64 ((1:Int)*2 ^ (min (Int.toNat (IntKind.wrap .i64 ((IntKind.wrap .i64 (many+(6:Int))) - (8:Int)))) (IntKind.bits .i64)))) - (1:Int)))) (IntKind.wrap .i64 ((IntKind.wrap .i64 (many+(6:Int))) - (8:Int)))
    else N
   else N
  else N
 else
  K out (bits .or .i64 (IntKind.wrap .i64 (held*2 ^ (min (Int.toNat (6:Int)) (IntKind.bits .i64)))) v) (IntKind.wrap .i64 (many+(6:Int)))
theorem held6 (h n:Nat) (hh:h < 64) (hn:n < 64):bits .or .i64 (IntKind.wrap .i64 ((h:Int)*2 ^ (min (Int.toNat (6:Int)) (IntKind.bits .i64)))) (n:Int)=((h*64+n:Nat):Int):=by
 have e:IntKind.wrap .i64 ((h:Int)*2 ^ (min (Int.toNat (6:Int)) (IntKind.bits .i64)))=((h*2 ^ 6:Nat):Int):=by
  show IntKind.wrap .i64 ((h:Int)*64)=_
  rw [IntWalk.i64_in _ (by omega)]; omega
 rw [e,qDF h n 6 (by omega) (by omega)]
theorem qxi {R:Type} (K:List UInt8→Int→Int→R) (N:R) (out:List UInt8) (h m n:Nat) (hm:m=0∨m=2∨m=4∨m=6) (hh:h < 2 ^ m) (hn:n < 64) (ho:out.length+1≤room) :
 decT K N out (h:Int) (m:Int) (n:Int)=K (out++decO m h n) (decH m h n:Nat) (decM m:Nat):=by
 have hh6:h < 64:=by rcases hm with rfl | rfl | rfl | rfl <;> omega
 unfold decT
 rw [held6 h n hh6 hn]
 rcases hm with rfl | rfl | rfl | rfl
 ·obtain rfl:h=0:=by omega
  rw [show decide ((8:Int)≤IntKind.wrap .i64 (((0:Nat):Int)+6))=false from rfl,cond_false,Nat.zero_mul,Nat.zero_add]
  show K out _ 6=K (out++[]) _ 6
  rw [List.append_nil]; rfl
 ·rw [show decide ((8:Int)≤IntKind.wrap .i64 (((2:Nat):Int)+6))=true from rfl,cond_true,show IntKind.wrap .i64 (IntKind.wrap .i64 (((2:Nat):Int)+6) - 8)=((0:Nat):Int) from rfl,dT (by omega),cond_true,cond_true]
  have e1:Int.fdiv ((h*64+n:Nat):Int) (2 ^ (min (Int.toNat ((0:Nat):Int)) (IntKind.bits .i64)))=(((h*64+n) / 2 ^ 0:Nat):Int):=fdivN _ 1
  have e2:IntKind.wrap .i64 (IntKind.wrap .i64 ((1:Int)*2 ^ (min (Int.toNat ((0:Nat):Int)) (IntKind.bits .i64))) - 1)=((2 ^ 0 - 1:Nat):Int):=rfl
  rw [e1,e2,u8_of,qgM _ 0 (by omega) (by decide),dT (show out.length+[_].length≤room from ho),cond_true]
  rfl
 ·rw [show decide ((8:Int)≤IntKind.wrap .i64 (((4:Nat):Int)+6))=true from rfl,cond_true,show IntKind.wrap .i64 (IntKind.wrap .i64 (((4:Nat):Int)+6) - 8)=((2:Nat):Int) from rfl,dT (by omega),cond_true,cond_true]
  have e1:Int.fdiv ((h*64+n:Nat):Int) (2 ^ (min (Int.toNat ((2:Nat):Int)) (IntKind.bits .i64)))=(((h*64+n) / 2 ^ 2:Nat):Int):=fdivN _ 4
  have e2:IntKind.wrap .i64 (IntKind.wrap .i64 ((1:Int)*2 ^ (min (Int.toNat ((2:Nat):Int)) (IntKind.bits .i64))) - 1)=((2 ^ 2 - 1:Nat):Int):=rfl
  rw [e1,e2,u8_of,qgM _ 2 (by omega) (by decide),dT (show out.length+[_].length≤room from ho),cond_true]
  rfl
 ·rw [show decide ((8:Int)≤IntKind.wrap .i64 (((6:Nat):Int)+6))=true from rfl,cond_true,show IntKind.wrap .i64 (IntKind.wrap .i64 (((6:Nat):Int)+6) - 8)=((4:Nat):Int) from rfl,dT (by omega),cond_true,cond_true]
  have e1:Int.fdiv ((h*64+n:Nat):Int) (2 ^ (min (Int.toNat ((4:Nat):Int)) (IntKind.bits .i64)))=(((h*64+n) / 2 ^ 4:Nat):Int):=fdivN _ 16
  have e2:IntKind.wrap .i64 (IntKind.wrap .i64 ((1:Int)*2 ^ (min (Int.toNat ((4:Nat):Int)) (IntKind.bits .i64))) - 1)=((2 ^ 4 - 1:Nat):Int):=rfl
  rw [e1,e2,u8_of,qgM _ 4 (by omega) (by decide),dT (show out.length+[_].length≤room from ho),cond_true]
  rfl
theorem qrC (m h n:Nat):(decO m h n).length≤1:=by
 unfold decO
 cases m==0
 ·exact Nat.le_refl 1
 ·exact Nat.zero_le 1
theorem qvE {s:List UInt8} {i:Nat} (h:i < s.length):s.take i++[s.getD i 0]=s.take (i+1):=by
 rw [List.take_succ_eq_append_getElem h,List.getD_eq_getElem?_getD,List.getElem?_eq_getElem h]; rfl
theorem qad {s:List UInt8} {i:Nat} (h:i < s.length):s.drop i=s.getD i 0 :: s.drop (i+1):=by
 rw [List.drop_eq_getElem_cons h,List.getD_eq_getElem?_getD,List.getElem?_eq_getElem h]; rfl
theorem qjn (j:Nat) (s t:List UInt8) (hl:t.length≤1048576):∀ (d i n:Nat) (out:List UInt8) (h m:Nat),i+d=t.length→d < n→DecSt (t.take i) out m h→out.length≤i →
 qcG qaf (qaz j) n s out (h:Int) (m:Int) t (t.length:Nat) (i:Nat) =
  bif (t.drop i).all isB64 then (bif ((Int.tmod ((List.length s:Nat):Int) (4:Int)) != (0:Int)) then qaf [] 4 else bif !(z102 (bitsB t)).2 then qaf [] 3 else qaf (z102 (bitsB t)).1 0) else qaf [] 3
 | d,i,0,out,h,m,hi,hn,_,_=>by omega
 | 0,i,n+1,out,h,m,hi,hn,e,ho=>by
  obtain rfl:i=t.length:=by omega
  show qcq _ _ _ n _ _ _ _ _ _ _=_
  unfold qcq
  rw [dF (by omega),cond_false,List.drop_length]
  rw [List.take_length] at e
  obtain ⟨e1,e2,e3⟩:=e.octets
  rw [e1,e3,qny m h e.cases e.lt]
  unfold qaz
  show _=(bif ((Int.tmod ((List.length s:Nat):Int) (4:Int)) != (0:Int)) then _ else _)
  cases ((Int.tmod ((List.length s:Nat):Int) (4:Int)) != (0:Int))
  ·rw [cond_false,cond_false]; rfl
  ·rfl
 | d+1,i,n+1,out,h,m,hi,hn,e,ho=>by
  show qcq _ _ _ n _ _ _ _ _ _ _=_
  unfold qcq
  have hlt:i < t.length:=by omega
  rw [qad hlt,List.all_cons]
  simp (disch:=omega) only [dT,cond_true,Bool.and_true,tn]
  unfold isB64
  cases hv:(z150 (t.getD i 0)).2 with
  | false=>rfl
  | true =>
   obtain ⟨v,hv1,hv2⟩:=qxh (t.getD i 0)
   rw [Bool.not_true,cond_false,Bool.true_and,hv1,qv (by omega)]
   have hs:=qxi (fun o h m=>qcG qaf (qaz j) n s o h m t (t.length:Nat) ((i+1:Nat):Int)) none out h m v e.cases e.lt hv2 (by unfold room; omega)
   refine (show _=decT (fun o h m=>qcG qaf (qaz j) n s o h m t (t.length:Nat) ((i+1:Nat):Int)) none out h m v from rfl).trans (hs.trans ?_)
   have e2:=e.step (t.getD i 0) v hv1 hv2
   rw [qvE hlt] at e2
   have hd:=qrC m h v
   exact qjn j s t hl d (i+1) n _ _ _ (by omega) (by omega) e2 (by rw [List.length_append]; omega)
theorem qzb (s:List UInt8):(bodyB s).length≤s.length:=by
 unfold bodyB
 cases s.getLast?==some 61
 ·simp only [cond_false]
  cases (s.getLast?==some 61&&s.length != s.length)
  ·exact Nat.le_refl _
  ·rw [cond_true,List.length_dropLast]; omega
 ·simp only [cond_true]
  cases (s.dropLast.getLast?==some 61&&s.dropLast.length != s.length)
  ·rw [cond_false,List.length_dropLast]; omega
  ·rw [cond_true,List.length_dropLast,List.length_dropLast]; omega
theorem tmod4 (n:Nat):((Int.tmod (n:Int) 4) != (0:Int))=(n % 4 != 0):=by
 have:Int.tmod (n:Int) 4=((n % 4:Nat):Int):=rfl
 rw [this]
 cases h:n % 4 != 0 with
 | true =>
  rw [bne_iff_ne] at h ⊢; omega
 | false =>
  rw [bne_eq_false_iff_eq] at h ⊢; omega
theorem qvF:∀ (s0:List UInt8),(qmk s0=true)→∃ n,qmN n s0=qaf (z108 s0).1 (z108 s0).2:=fun s h=>⟨s.length+1,by
 have hl:=qm h
 have hb:=qzb s
 unfold qmN
 rw [show qmj s=true from h,Bool.and_true,cond_true]
 have:=qjn (s.length+1) s (bodyB s) (by omega) (bodyB s).length 0 (s.length+1) [] 0 0 (by omega) (by omega) DecSt.nil (Nat.le_refl 0)
 refine (show _=qcG qaf (qaz (s.length+1)) (s.length+1) s [] ((0:Nat):Int) ((0:Nat):Int) (bodyB s) ((bodyB s).length:Nat) ((0:Nat):Int) from rfl).trans (this.trans ?_)
 rw [List.drop_zero,tmod4]
 unfold z108
 cases (bodyB s).all isB64
 ·rfl
 ·cases (s.length % 4 != 0)
  ·cases (z102 (bitsB (bodyB s))).2 <;> rfl
  ·rfl⟩
theorem qzc:∀ (s0:List UInt8),(qvn s0=true)→∃ n,qzP n s0=qxG (z59 s0):=fun s h=>⟨0,by
 unfold qzP
 rw [show qmk s=true from h]; rfl⟩
theorem qvG:∀ (s0:List UInt8) (suffix1:List UInt8),(qfU s0 suffix1=true)→∃ n,qsY n s0 suffix1=qld (z191 s0 suffix1):=fun s t h=>⟨0,by
 have hl:=qm h
 unfold qsY z191
 rw [show qmn s t=true from h,Bool.and_true,cond_true]
 cases hs:z228 s t with
 | false=>rfl
 | true =>
  have hle:t.length≤s.length:=by
   unfold z228 at hs
   by_cases h:t.length≤s.length
   ·exact h
   ·rw [decide_eq_false h] at hs; cases hs
  rw [cond_true,cond_true,show IntKind.wrap .i64 (((s.length:Nat):Int) - ((t.length:Nat):Int))=((s.length - t.length:Nat):Int) by rw [IntWalk.i64_in _ (by omega)]; omega]
  simp (disch:=omega) only [dT,cond_true,Bool.and_true,tn]
  rfl⟩
theorem qic (s:List UInt8):z191 s [61]=bif s.getLast?==some 61 then s.dropLast else s:=by
 unfold z191 z228
 match s with
 | []=>rfl
 | x :: r =>
  have hle:([61]:List UInt8).length≤(x :: r).length:=by simp
  have hx:(x :: r)=(x :: r).dropLast++[(x :: r).getLast (by simp)]:=(List.dropLast_concat_getLast (by simp)).symm
  generalize (x :: r).getLast (by simp)=y at hx
  generalize (x :: r).dropLast=d at hx
  rw [hx]
  have h1:(d++[y]).length - ([61]:List UInt8).length=d.length:=by simp
  rw [h1,List.drop_left,List.take_left,decide_eq_true (by simp),cond_true]
  have h2:(d++[y]).getLast?=some y:=by simp
  have h3:(d++[y]).dropLast=d:=by simp
  rw [h2]
  by_cases hy:y=61
  ·subst hy; rfl
  ·have e1:(([y]:List UInt8)==[61])=false:=by simpa using hy
   have e2:((some y:Option UInt8)==some 61)=false:=by simpa using hy
   rw [e1,e2]
theorem qvH:∀ (s0:List UInt8),(qmj s0=true)→∃ n,qmM n s0=qle (z149 s0):=fun s h=>⟨3,by
 have h2:qfU (z191 s [61]) [61]=true:=by
  have hl:=qm h
  refine qt ?_
  rw [qic]
  cases s.getLast?==some 61
  ·exact hl
  ·rw [cond_true,List.length_dropLast]; omega
 have e:qmM 3 s=bif qfU s [61]&&true then (bif qfU (z191 s [61]) [61]&&true then qle (z191 (z191 s [61]) [61]) else none) else none:=rfl
 rw [e,h2,show qfU s [61]=true from h,Bool.and_true,cond_true,cond_true]
 congr 1
 rw [qic (z191 s [61]),qic s]
 show _=bodyB s
 unfold bodyB
 cases hg:s.getLast?==some 61 with
 | false =>
  simp only [cond_false]
  rw [hg]; rfl
 | true =>
  simp only [cond_true]
  have hne:s≠[]:=by rintro rfl; cases hg
  have hlen:(s.dropLast.length != s.length)=true:=by
   have:=List.length_pos_iff.2 hne
   rw [bne_iff_ne,List.length_dropLast]; omega
  rw [hlen,Bool.and_true]⟩
end Go.Av
