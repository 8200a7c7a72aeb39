import Derived.Test.YtopepdfipgfakaaGreatDoorCuP3
namespace Go.Av
set_option linter.unusedVariables false
set_option linter.unusedSimpArgs false
theorem qqt {f:Int→List UInt8} (h:∀ c,(f c).length≤4):∀ t:List Int,(t.flatMap f).length≤4*t.length
 | []=>by simp
 | c :: t=>by
  have h1:=qqt h t
  have h2:=h c
  rw [List.flatMap_cons,List.length_append,List.length_cons]
  omega
theorem qwV (cs:Int) (t:List Int):(z120 cs t).1.length≤4*t.length:=by
 have h1:(z163 t).1.length≤4*t.length:=by
  unfold z163
  have:=qqt qrm t
  cases !(z203 t) with
  | true=>exact Nat.zero_le _
  | false=>exact this
 have h2:(z164 t).1.length≤4*t.length:=by
  unfold z164
  cases t.all z197 <;> simp <;> omega
 have h3:(z165 t).1.length≤4*t.length:=by
  unfold z165
  cases decide (0≤z206 t) <;> simp <;> omega
 have h4:(z166 t).1.length≤4*t.length:=by
  unfold z166
  cases z208 t != -1 <;> simp <;> omega
 unfold z120
 cases (z161 cs==0) <;> cases z162 cs t <;> cases (cs==(5:Int)) <;> cases (cs==(3:Int)) <;> cases (cs==(4:Int)) <;> first | exact Nat.zero_le _ | assumption
theorem qFM:∀ (t0:List Int),(qBm t0=true)→∃ n,qGx n t0=qyq (z30 t0).1 (z30 t0).2.1 (z30 t0).2.2:=fun t h=>⟨0,by
 unfold qGx z30
 rw [show qBk t=true from h,show qBi (z71 t).1 t=true from h]
 cases (z71 t).2 != 0 <;> rfl⟩
theorem qFN:∀ (charset0:Int) (code1:Int) (p2:List Int),(qBn charset0 code1 p2=true)→∃ n,qGA n charset0 code1 p2=qyy (z75 charset0 code1 p2).1 (z75 charset0 code1 p2).2:=fun cs code p h=>⟨0,by
 have hl:p.length≤65536:=of_decide_eq_true h
 have hc:=qwV cs p
 unfold qGA z75
 rw [show qiC cs p=true from qr (by omega),show qDQ cs code (z120 cs p).1=true from dT (by omega)]
 cases (z120 cs p).2 != 0 <;> rfl⟩
theorem qqu {p:List Int→Int→Int} (hp:∀ t r,∃ k:Nat,p t r=k∧k≤t.length):∀ (d:Nat) (t:List Int) (r:Int) (l:List (List Int)),cutAt p d t r=some l→l.length≤t.length∧∀ x∈l,x.length≤t.length
 | 0,_,_,_,h=>by cases h
 | d+1,[],r,l,h=>by
  have h:some []=some l:=h
  cases h
  exact ⟨Nat.le_refl _,fun x hx=>by cases hx⟩
 | d+1,a :: t,r,l,h=>by
  have h:(bif p (a :: t) r==0 then none else (cutAt p d ((a :: t).drop (p (a :: t) r).toNat) 75).map fun l=>(a :: t).take (p (a :: t) r).toNat :: l)=some l:=h
  revert h
  generalize a :: t=u
  intro h
  obtain ⟨k,hk,hkl⟩:=hp u r
  rw [hk,tn] at h
  by_cases hk0:k=0
  ·subst hk0; cases h
  ·rw [show (((k:Nat):Int)==0)=false from beq_eq_false_iff_ne.2 (by omega)] at h
   simp only [cond_false,Option.map_eq_some_iff] at h
   obtain ⟨z,hz,rfl⟩:=h
   obtain ⟨h1,h2⟩:=qqu hp d _ _ z hz
   rw [List.length_drop] at h1
   refine ⟨by rw [List.length_cons]; omega,fun x hx=>?_⟩
   rcases List.mem_cons.1 hx with rfl | hx
   ·rw [List.length_take]; omega
   ·have:=h2 x hx
    rw [List.length_drop] at this
    omega
theorem qwW {p:List Int→Int→Int} (hp:∀ t r,∃ k:Nat,p t r=k∧k≤t.length) (d:Nat) (t:List Int) (r:Int):(qFD (cutAt p d t r)).1.length≤t.length∧∀ x∈(qFD (cutAt p d t r)).1,x.length≤t.length:=by
 cases h:cutAt p d t r with
 | none=>exact ⟨Nat.zero_le _,fun x hx=>by cases hx⟩
 | some l=>exact qqu hp d t r l h
theorem qqv (cs code:Int) (t:List Int) (rm:Int):(z28 cs code t rm).1.length≤t.length∧∀ x∈(z28 cs code t rm).1,x.length≤t.length:=by
 unfold z28
 cases (z66 cs code t).2 != 0 with
 | true=>exact ⟨Nat.zero_le _,fun x hx=>by cases hx⟩
 | false=>exact qwW (qqr cs code) _ _ _
theorem qaH (f:List Int→List UInt8×Int) (p:List Int) (l:List (List Int)):qM f (p :: l)=bif (f p).2 != 0 then ([],(f p).2) else bif (qM f l).2 != 0 then ([],(qM f l).2) else ((f p).1 :: (qM f l).1,0):=rfl
theorem qlU (cs code:Int) (m:Nat) (l:List (List Int)) (hl:l.length≤65536) (hx:∀ x∈l,x.length≤65536):∀ (d i n:Nat) (out:List (List UInt8)),i+d=l.length→d < n→out.length=i →
 qov qbV (qhF m) n cs code out l ((l.length:Nat):Int) (i:Int) =
  bif (qM (z75 cs code) (l.drop i)).2 != 0 then qbV [] (qM (z75 cs code) (l.drop i)).2 else qbV (out++(qM (z75 cs code) (l.drop i)).1) 0
 | d,i,0,out,hi,hn,_=>by omega
 | 0,i,n+1,out,hi,hn,ho=>by
  obtain rfl:i=l.length:=by omega
  show qeZ _ _ _ n _ _ _ _ _ _=_
  unfold qeZ
  rw [dF (by omega),List.drop_eq_nil_of_le (Nat.le_refl _)]
  show qbV out 0=qbV (out++[]) 0
  rw [List.append_nil]
 | d+1,i,n+1,out,hi,hn,ho=>by
  have hlt:i < l.length:=by omega
  show qeZ _ _ _ n _ _ _ _ _ _=_
  unfold qeZ
  have hgm:l.getD i []∈l:=by
   rw [List.getD_eq_getElem?_getD,List.getElem?_eq_getElem hlt]
   exact List.getElem_mem hlt
  have hok:qBn cs code (l.getD i [])=true:=dT (hx _ hgm)
  have hr:∀ z:List UInt8,out.length+[z].length≤room:=fun z=>by unfold room; simp; omega
  rw [qV (d:=([]:List Int)) hlt]
  simp (disch:=omega) only [dT,cond_true,Bool.and_true,tn,qk,hok]
  rw [qaH]
  cases hb:(z75 cs code (l.getD i [])).2 != 0 with
  | true=>simp only [cond_true,hb]
  | false =>
   simp only [cond_false]
   rw [dT (hr _),cond_true,qlU cs code m l hl hx d (i+1) n _ (by omega) (by omega) (by rw [List.length_append,ho]; rfl)]
   cases hz:(qM (z75 cs code) (l.drop (i+1))).2 != 0 with
   | true=>simp only [cond_true,hz]
   | false =>
    simp only [cond_false]
    rw [List.append_assoc]
    rfl
theorem qtb (f:List Int→List UInt8×Int):∀ l:List (List Int),((qM f l).2 != 0)=true→qM f l=([],(qM f l).2)
 | [],h=>by cases h
 | p :: l,h=>by
  rw [qaH] at h ⊢
  cases hb:(f p).2 != 0 with
  | true=>rfl
  | false =>
   rw [hb] at h
   simp only [cond_false] at h ⊢
   cases hz:(qM f l).2 != 0 with
   | true=>rfl
   | false=>rw [hz] at h; cases h
theorem qwX (f:List Int→List UInt8×Int) (l:List (List Int)) (h:((qM f l).2 != 0)=false):(qM f l).2=0:=by simpa using h
theorem qFO:∀ (t0:List Int) (first1:Int),(qku t0 first1=true)→∃ n,qBS n t0 first1=qbV (z32 t0 first1).1 (z32 t0 first1).2:=fun t rm h=>⟨65537,by
 have hl:t.length≤65536:=of_decide_eq_true h
 have hk:lenOk t=true:=qr (by omega)
 unfold qBS z32
 rw [show qBm t=true from hk,show qBl (z30 t).1 (z30 t).2.1 t rm=true from hk]
 cases (z30 t).2.2 != 0 with
 | true=>rfl
 | false =>
  simp only [cond_false,Bool.and_true,cond_true]
  cases hc:(z28 (z30 t).1 (z30 t).2.1 t rm).2 != 0 with
  | true=>rfl
  | false =>
   obtain ⟨h1,h2⟩:=qqv (z30 t).1 (z30 t).2.1 t rm
   simp only [cond_false]
   have:=qlU (z30 t).1 (z30 t).2.1 65537 (z28 (z30 t).1 (z30 t).2.1 t rm).1 (by omega) (fun x hx=>Nat.le_trans (h2 x hx) hl) _ 0 65537 [] (Nat.zero_add _) (by omega) rfl
   refine this.trans ?_
   rw [List.drop_zero,List.nil_append]
   cases hz:(qM (z75 (z30 t).1 (z30 t).2.1) (z28 (z30 t).1 (z30 t).2.1 t rm).1).2 != 0 with
   | true =>
    rw [qtb _ _ hz]
    simp only [cond_true]
   | false=>rw [qwX _ _ hz]; rfl⟩
end Go.Av
