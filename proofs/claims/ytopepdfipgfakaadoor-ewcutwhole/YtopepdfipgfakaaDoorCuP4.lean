import Derived.Test.YtopepdfipgfakaaDoorCuP3
namespace Go.Av
set_option linter.unusedVariables false
set_option linter.unusedSimpArgs false
theorem qki {f:Int→List UInt8} (h:∀ c,(f c).length≤4):∀ t:List Int,(t.flatMap f).length≤4*t.length
 | []=>by simp
 | c :: t=>by
  have h1:=qki h t
  have h2:=h c
  rw [List.flatMap_cons,List.length_append,List.length_cons]
  omega
theorem qnI (cs:Int) (t:List Int):(z23 cs t).1.length≤4*t.length:=by
 have h1:(z35 t).1.length≤4*t.length:=by
  unfold z35
  have:=qki qkw t
  cases !(z51 t) with
  | true=>exact Nat.zero_le _
  | false=>exact this
 have h2:(z36 t).1.length≤4*t.length:=by
  unfold z36
  cases t.all z63 <;> simp <;> omega
 have h3:(z37 t).1.length≤4*t.length:=by
  unfold z37
  cases decide (0≤z54 t) <;> simp <;> omega
 have h4:(z38 t).1.length≤4*t.length:=by
  unfold z38
  cases z56 t != -1 <;> simp <;> omega
 unfold z23
 cases (z33 cs==0) <;> cases z34 cs t <;> cases (cs==(5:Int)) <;> cases (cs==(3:Int)) <;> cases (cs==(4:Int)) <;> first | exact Nat.zero_le _ | assumption
theorem qui:∀ (t0:List Int),(qrf t0=true)→∃ n,quS n t0=qnZ (z14 t0).1 (z14 t0).2.1 (z14 t0).2.2:=fun t h=>⟨0,by
 unfold quS z14
 rw [show qre t=true from h,show qqZ (z21 t).1 t=true from h]
 cases (z21 t).2 != 0 <;> rfl⟩
theorem quj:∀ (charset0:Int) (code1:Int) (p2:List Int),(qrg charset0 code1 p2=true)→∃ n,quY n charset0 code1 p2=qob (z15 charset0 code1 p2).1 (z15 charset0 code1 p2).2:=fun cs code p h=>⟨0,by
 have hl:p.length≤65536:=of_decide_eq_true h
 have hc:=qnI cs p
 unfold quY z15
 rw [show qlK cs p=true from qbf (by omega),show qsh cs code (z23 cs p).1=true from dT (by omega)]
 cases (z23 cs p).2 != 0 <;> rfl⟩
theorem qkj {p:List Int→Int→Int} (hp:∀ t r,∃ k:Nat,p t r=k∧k≤t.length):∀ (d:Nat) (t:List Int) (r:Int) (l:List (List Int)),cutAt p d t r=some l→l.length≤t.length∧∀ x∈l,x.length≤t.length
 | 0,_,_,_,h=>by cases h
 | d+1,[],r,l,h=>by
  have h:some []=some l:=h
  cases h
  exact ⟨Nat.le_refl _,fun x hx=>by cases hx⟩
 | d+1,a :: t,r,l,h=>by
  have h:(bif p (a :: t) r==0 then none else (cutAt p d ((a :: t).drop (p (a :: t) r).toNat) 75).map fun l=>(a :: t).take (p (a :: t) r).toNat :: l)=some l:=h
  revert h
  generalize a :: t=u
  intro h
  obtain ⟨k,hk,hkl⟩:=hp u r
  rw [hk,tn] at h
  by_cases hk0:k=0
  ·subst hk0; cases h
  ·rw [show (((k:Nat):Int)==0)=false from beq_eq_false_iff_ne.2 (by omega)] at h
   simp only [cond_false,Option.map_eq_some_iff] at h
   obtain ⟨z,hz,rfl⟩:=h
   obtain ⟨h1,h2⟩:=qkj hp d _ _ z hz
   rw [List.length_drop] at h1
   refine ⟨by rw [List.length_cons]; omega,fun x hx=>?_⟩
   rcases List.mem_cons.1 hx with rfl | hx
   ·rw [List.length_take]; omega
   ·have:=h2 x hx
    rw [List.length_drop] at this
    omega
theorem qnJ {p:List Int→Int→Int} (hp:∀ t r,∃ k:Nat,p t r=k∧k≤t.length) (d:Nat) (t:List Int) (r:Int):(qtY (cutAt p d t r)).1.length≤t.length∧∀ x∈(qtY (cutAt p d t r)).1,x.length≤t.length:=by
 cases h:cutAt p d t r with
 | none=>exact ⟨Nat.zero_le _,fun x hx=>by cases hx⟩
 | some l=>exact qkj hp d t r l h
theorem qgg (cs code:Int) (t:List Int) (rm:Int):(z5 cs code t rm).1.length≤t.length∧∀ x∈(z5 cs code t rm).1,x.length≤t.length:=by
 unfold z5
 cases (z10 cs code t).2 != 0 with
 | true=>exact ⟨Nat.zero_le _,fun x hx=>by cases hx⟩
 | false=>exact qnJ (qkg cs code) _ _ _
theorem qbZ (f:List Int→List UInt8×Int) (p:List Int) (l:List (List Int)):qS f (p :: l)=bif (f p).2 != 0 then ([],(f p).2) else bif (qS f l).2 != 0 then ([],(qS f l).2) else ((f p).1 :: (qS f l).1,0):=rfl
theorem qhq (cs code:Int) (m:Nat) (l:List (List Int)) (hl:l.length≤65536) (hx:∀ x∈l,x.length≤65536):∀ (d i n:Nat) (out:List (List UInt8)),i+d=l.length→d < n→out.length=i →
 z8_l9 qeP (qhE m) n cs code out l ((l.length:Nat):Int) (i:Int) =
  bif (qS (z15 cs code) (l.drop i)).2 != 0 then qeP [] (qS (z15 cs code) (l.drop i)).2 else qeP (out++(qS (z15 cs code) (l.drop i)).1) 0
 | d,i,0,out,hi,hn,_=>by omega
 | 0,i,n+1,out,hi,hn,ho=>by
  obtain rfl:i=l.length:=by omega
  show qfu _ _ _ n _ _ _ _ _ _=_
  unfold qfu
  rw [dF (by omega),List.drop_eq_nil_of_le (Nat.le_refl _)]
  show qeP out 0=qeP (out++[]) 0
  rw [List.append_nil]
 | d+1,i,n+1,out,hi,hn,ho=>by
  have hlt:i < l.length:=by omega
  show qfu _ _ _ n _ _ _ _ _ _=_
  unfold qfu
  have hgm:l.getD i []∈l:=by
   rw [List.getD_eq_getElem?_getD,List.getElem?_eq_getElem hlt]
   exact List.getElem_mem hlt
  have hok:qrg cs code (l.getD i [])=true:=dT (hx _ hgm)
  have hr:∀ z:List UInt8,out.length+[z].length≤room:=fun z=>by unfold room; simp; omega
  rw [qaX (d:=([]:List Int)) hlt]
  simp (disch:=omega) only [dT,cond_true,Bool.and_true,tn,qL,hok]
  rw [qbZ]
  cases hb:(z15 cs code (l.getD i [])).2 != 0 with
  | true=>simp only [cond_true,hb]
  | false =>
   simp only [cond_false]
   rw [dT (hr _),cond_true,qhq cs code m l hl hx d (i+1) n _ (by omega) (by omega) (by rw [List.length_append,ho]; rfl)]
   cases hz:(qS (z15 cs code) (l.drop (i+1))).2 != 0 with
   | true=>simp only [cond_true,hz]
   | false =>
    simp only [cond_false]
    rw [List.append_assoc]
    rfl
theorem qly (f:List Int→List UInt8×Int):∀ l:List (List Int),((qS f l).2 != 0)=true→qS f l=([],(qS f l).2)
 | [],h=>by cases h
 | p :: l,h=>by
  rw [qbZ] at h ⊢
  cases hb:(f p).2 != 0 with
  | true=>rfl
  | false =>
   rw [hb] at h
   simp only [cond_false] at h ⊢
   cases hz:(qS f l).2 != 0 with
   | true=>rfl
   | false=>rw [hz] at h; cases h
theorem qnK (f:List Int→List UInt8×Int) (l:List (List Int)) (h:((qS f l).2 != 0)=false):(qS f l).2=0:=by simpa using h
theorem qxn:∀ (t0:List Int) (first1:Int),(z8_ok t0 first1=true)→∃ n,z8_sh n t0 first1=qeP (z8 t0 first1).1 (z8 t0 first1).2:=fun t rm h=>⟨65537,by
 have hl:t.length≤65536:=of_decide_eq_true h
 have hk:lenOk t=true:=qbf (by omega)
 unfold z8_sh z8
 rw [show qrf t=true from hk,show z5_ok (z14 t).1 (z14 t).2.1 t rm=true from hk]
 cases (z14 t).2.2 != 0 with
 | true=>rfl
 | false =>
  simp only [cond_false,Bool.and_true,cond_true]
  cases hc:(z5 (z14 t).1 (z14 t).2.1 t rm).2 != 0 with
  | true=>rfl
  | false =>
   obtain ⟨h1,h2⟩:=qgg (z14 t).1 (z14 t).2.1 t rm
   simp only [cond_false]
   have:=qhq (z14 t).1 (z14 t).2.1 65537 (z5 (z14 t).1 (z14 t).2.1 t rm).1 (by omega) (fun x hx=>Nat.le_trans (h2 x hx) hl) _ 0 65537 [] (Nat.zero_add _) (by omega) rfl
   refine this.trans ?_
   rw [List.drop_zero,List.nil_append]
   cases hz:(qS (z15 (z14 t).1 (z14 t).2.1) (z5 (z14 t).1 (z14 t).2.1 t rm).1).2 != 0 with
   | true =>
    rw [qly _ _ hz]
    simp only [cond_true]
   | false=>rw [qnK _ _ hz]; rfl⟩
end Go.Av
