import Derived.Test.YtopepdfipgfakaaGreatDoorCuP2
namespace Go.Av
set_option linter.unusedVariables false
set_option linter.unusedSimpArgs false
abbrev CutS:=Bool×(List (List Int))×Int×(List (List Int))×Unit
theorem qBu (n:Nat) (o8 acc:List (List Int)) (e9:Int) (y:List Int) (hy:y.length≤1048576) (ha:acc.length≤1048576) :
 qdl n (false,(o8,(e9,(acc,())))) y=bif y.isEmpty then (true,false,(true,(([]:List (List Int)),(12,(acc,()))))) else (true,true,(false,(o8,(e9,(acc++[y],()))))):=by
 unfold qdl
 cases y with
 | nil=>rfl
 | cons c r =>
  have h1:((((c :: r:List Int).length:Nat):Int)==0)=false:=beq_eq_false_iff_ne.2 (by simp; omega)
  have h2:qFE (c :: r)=true:=qr hy
  have h3:decide (acc.length+List.length ([z68 (c :: r)]:List (List Int))≤room)=true:=dT (by unfold room; simp; omega)
  simp only [h1,h2,h3,cond_false,cond_true,Bool.and_true]
  rfl
theorem qqs (j:Nat) (cs code:Int):∀ (d:Nat) (o8 acc:List (List Int)) (e9:Int) (t:List Int) (rm:Int),t.length < d→acc.length+t.length≤1048576 →
 (qaq (qdl j) d (false,(o8,(e9,(acc,())))) t cs code rm).1=true ∧
 (match cutAt (fun u r=>z114 cs code u r) d t rm with
 | none=>(qaq (qdl j) d (false,(o8,(e9,(acc,())))) t cs code rm).2.1.1=true∧(qaq (qdl j) d (false,(o8,(e9,(acc,())))) t cs code rm).2.1.2.1=[]∧(qaq (qdl j) d (false,(o8,(e9,(acc,())))) t cs code rm).2.1.2.2.1=12
 | some l=>(qaq (qdl j) d (false,(o8,(e9,(acc,())))) t cs code rm).2.1=(false,(o8,(e9,(acc++l,())))))
 | 0,_,_,_,_,_,h,_=>by omega
 | d+1,o8,acc,e9,[],rm,h,hl=>⟨rfl,by
  show (false,(o8,(e9,(acc,()))))=((false,(o8,(e9,(acc++[],())))):CutS)
  rw [List.append_nil]⟩
 | d+1,o8,acc,e9,a :: t,rm,h,hl=>by
  have ht:a :: t≠[]:=by simp
  rw [show cutAt (fun u r=>z114 cs code u r) (d+1) (a :: t) rm=bif z114 cs code (a :: t) rm==0 then none else (cutAt (fun u r=>z114 cs code u r) d ((a :: t).drop (z114 cs code (a :: t) rm).toNat) 75).map fun l=>(a :: t).take (z114 cs code (a :: t) rm).toNat :: l from rfl]
  revert h hl
  generalize a :: t=l at ht
  intro h hl
  have h0:0 < l.length:=List.length_pos_iff.2 ht
  rw [qgW _ _ _ ht]
  obtain ⟨k,hk,hkl⟩:=qqr cs code l rm
  rw [hk,tn,qBu j o8 acc e9 _ (by rw [List.length_take]; omega) (by omega)]
  by_cases hk0:k=0
  ·subst hk0
   exact ⟨rfl,rfl,rfl,rfl⟩
  ·have he:(l.take k).isEmpty=false:=by
    rw [List.isEmpty_eq_false_iff]
    intro e
    have:=congrArg List.length e
    rw [List.length_take,List.length_nil] at this
    omega
   rw [show (((k:Nat):Int) != 0)=true from bne_iff_ne.2 (by omega),show (((k:Nat):Int)==0)=false from beq_eq_false_iff_ne.2 (by omega),he]
   simp only [cond_true,cond_false,Bool.true_and]
   have ih:=qqs j cs code d o8 (acc++[l.take k]) e9 (l.drop k) 75 (by rw [List.length_drop]; omega) (by rw [List.length_append,List.length_drop]; simp; omega)
   refine ⟨ih.1,?_⟩
   have h2:=ih.2
   cases hc:cutAt (fun u r=>z114 cs code u r) d (l.drop k) 75 with
   | none =>
    rw [hc] at h2
    exact h2
   | some z =>
    rw [hc] at h2
    refine h2.trans ?_
    rw [List.append_assoc]
    rfl
theorem qFL:∀ (charset0:Int) (code1:Int) (t2:List Int) (first3:Int),(qBl charset0 code1 t2 first3=true)→∃ n,qGv n charset0 code1 t2 first3=qqX (z28 charset0 code1 t2 first3).1 (z28 charset0 code1 t2 first3).2:=fun cs code t rm h=>⟨0,by
 have hl:=qh (l:=t) h
 unfold qGv z28
 rw [show qsY cs code t=true from h]
 cases (z66 cs code t).2 != 0 with
 | true=>rfl
 | false =>
  simp only [cond_false,Bool.and_true,cond_true]
  have hh:=qqs 0 cs code (t.length+1) [] [] 0 t rm (by omega) (by simp; omega)
  have e:z113 (qdl 0) (false,(([]:List (List Int)),((0:Int),(([]:List (List Int)),())))) t cs code rm=qaq (qdl 0) (t.length+1) (false,(([]:List (List Int)),((0:Int),(([]:List (List Int)),())))) t cs code rm:=by
   unfold z113
   rw [show lenOk t=true from h]
   rfl
  rw [e,hh.1]
  have h2:=hh.2
  cases hc:cutAt (fun u r=>z114 cs code u r) (t.length+1) t rm with
  | none =>
   rw [hc] at h2
   rw [h2.1,h2.2.1,h2.2.2]
   rfl
  | some z =>
   rw [hc] at h2
   have h3:(qaq (qdl 0) (t.length+1) (false,(([]:List (List Int)),((0:Int),(([]:List (List Int)),())))) t cs code rm).2.1=(false,([],(0,(z,())))):=h2
   rw [h3]
   rfl⟩
end Go.Av
