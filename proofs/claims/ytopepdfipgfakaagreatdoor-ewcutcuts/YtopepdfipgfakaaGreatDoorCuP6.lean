import Derived.Test.YtopepdfipgfakaaGreatDoorCuP5
namespace Go.Av
set_option linter.unusedVariables false
set_option linter.unusedSimpArgs false
theorem qyD {t:List Int} (h:i32s t=true) (n:Nat):i32s (t.drop n)=true:=by
 unfold i32s at h ⊢
 rw [List.all_eq_true] at h ⊢
 exact fun c hc=>h c (List.mem_of_mem_drop hc)
theorem qIp {p q:Int→Bool} (h1:p 1=q 1) (h2:p 2=q 2) (h3:p 3=q 3) (h4:p 4=q 4) (h5:p 5=q 5):selF p=selF q:=by
 unfold selF qqO
 rw [h1,h2,h3,h4,h5]
theorem all12 (n:Int) (t:List Int) (h:i32s t=true) (h1:1≤n∧n≤5):z119 n t=t.all (z157 n):=by
 unfold z119 z160
 rw [dT h1.1,dT h1.2]
 have:=qkw (p:=z167 n) t 0
 rw [show decide (qV (z167 n) t 0 < 0)=t.all (z167 n) from this,qwg (q:=z157 n) (fun c hc=>(qDG n (qcF h hc)).symm)]
 rfl
theorem qyE (t:List Int) (h:i32s t=true):z71 t=z73 t :=
 qIp (all12 1 t h (by omega)).symm (all12 2 t h (by omega)).symm (all12 3 t h (by omega)).symm (all12 4 t h (by omega)).symm (all12 5 t h (by omega)).symm
theorem qIq {p:Int→Bool} (h:(selF p).2=0):(1≤(selF p).1∧(selF p).1≤5)∧p (selF p).1=true:=by
 unfold selF qqO at h ⊢
 cases h1:p 1 with
 | true=>simp [h1]
 | false =>
  cases h2:p 2 with
  | true=>simp [h1,h2]
  | false =>
   cases h3:p 3 with
   | true=>simp [h1,h2,h3]
   | false =>
    cases h4:p 4 with
    | true=>simp [h1,h2,h3,h4]
    | false =>
     cases h5:p 5 with
     | true=>simp [h1,h2,h3,h4,h5]
     | false =>
      rw [h1,h2,h3,h4,h5] at h
      cases h
theorem qyF {cs:Int} {t:List Int} (h1:1≤cs∧cs≤5) (h:t.all (z167 cs)=true):(z76 cs t).2=0:=by
 have h':cs=1∨cs=2∨cs=3∨cs=4∨cs=5:=by omega
 unfold z76
 rw [dF (show ¬ cs < 1 by omega),dF (show ¬ 5 < cs by omega),qwg (q:=z167 cs) (fun c _=>qpn h'),h]
 rfl
theorem qIr {t:List Int} (h:i32s t=true) (h0:(z71 t).2=0):(1≤(z71 t).1∧(z71 t).1≤5)∧(z76 (z71 t).1 t).2=0:=by
 obtain ⟨h1,h2⟩:=qIq h0
 refine ⟨h1,qyF h1 ?_⟩
 rw [qwg (q:=z157 (z71 t).1) (fun c hc=>(qDG _ (qcF h hc)).symm)]
 exact h2
theorem qCt {cs code:Int} {t:List Int} (h:(z76 cs t).2=0) (hc:code=1∨code=2):(told cs code t).2=0:=by
 unfold told
 rw [h]
 rcases hc with rfl | rfl <;> rfl
theorem qyG {cs:Int} {t:List Int} (hl:t.length≤1048576) (h:(z76 cs t).2=0):(z74 cs t).2=0∧((z74 cs t).1=1∨(z74 cs t).1=2):=by
 have h1:=qCt (code:=1) h (.inl rfl)
 unfold z74
 rw [qkP cs 1 t hl]
 have:(lenE cs 1 t).2=0:=by unfold lenE; rw [h1]; rfl
 rw [this]
 cases decide ((z69 cs 2 t).1≤(lenE cs 1 t).1)
 ·exact ⟨rfl,.inl rfl⟩
 ·exact ⟨rfl,.inr rfl⟩
theorem qKV (t:List Int) (h:i32s t=true) (hl:t.length≤1048576):z30 t=z31 t:=by
 unfold z30 z31
 rw [← qyE t h]
 by_cases h0:(z71 t).2=0
 ·obtain ⟨_,h2⟩:=qIr h h0
  rw [qAm _ t h hl,(qyG hl h2).1]
 ·rw [bneT h0]; rfl
theorem quu {p q:List Int→Int→Int} (h:∀ t r,i32s t=true→t.length≤1048576→p t r=q t r):∀ (d:Nat) (t:List Int) (r:Int),i32s t=true→t.length≤1048576→cutAt p d t r=cutAt q d t r
 | 0,_,_,_,_=>rfl
 | _+1,[],_,_,_=>rfl
 | d+1,a :: t,r,hi,hl=>by
  show (bif p (a :: t) r==0 then none else (cutAt p d ((a :: t).drop (p (a :: t) r).toNat) 75).map fun l=>(a :: t).take (p (a :: t) r).toNat :: l)=bif q (a :: t) r==0 then none else (cutAt q d ((a :: t).drop (q (a :: t) r).toNat) 75).map fun l=>(a :: t).take (q (a :: t) r).toNat :: l
  rw [h _ r hi hl,quu h d _ 75 (qyD hi _) (by rw [List.length_drop]; omega)]
theorem qKW (cs code:Int) (t:List Int) (rm:Int) (h:i32s t=true) (hl:t.length≤1048576):z28 cs code t rm=z29 cs code t rm:=by
 unfold z28 z29
 rw [len_E cs code t h hl,qkP cs code t hl,quu (q:=fun u r=>z70 cs code u r) (fun u r hu hn=>qAo cs code u r hu hn) _ t rm h hl]
end Go.Av
