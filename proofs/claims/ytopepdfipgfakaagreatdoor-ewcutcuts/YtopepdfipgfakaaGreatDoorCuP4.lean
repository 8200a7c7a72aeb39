import Derived.Test.YtopepdfipgfakaaGreatDoorCuP3
namespace Go.Av
set_option linter.unusedVariables false
set_option linter.unusedSimpArgs false
theorem qoz {f:Int→List UInt8} (h:∀ c,(f c).length≤4):∀ t:List Int,(t.flatMap f).length≤4*t.length
 | []=>by simp
 | c :: t=>by
  have h1:=qoz h t
  have h2:=h c
  rw [List.flatMap_cons,List.length_append,List.length_cons]
  omega
theorem qur (cs:Int) (t:List Int):(z120 cs t).1.length≤4*t.length:=by
 have h1:(z163 t).1.length≤4*t.length:=by
  unfold z163
  have:=qoz qpl t
  cases !(z203 t) with
  | true=>exact Nat.zero_le _
  | false=>exact this
 have h2:(z164 t).1.length≤4*t.length:=by
  unfold z164
  cases t.all z197 <;> simp <;> omega
 have h3:(z165 t).1.length≤4*t.length:=by
  unfold z165
  cases decide (0≤z206 t) <;> simp <;> omega
 have h4:(z166 t).1.length≤4*t.length:=by
  unfold z166
  cases z208 t != -1 <;> simp <;> omega
 unfold z120
 cases (z161 cs==0) <;> cases z162 cs t <;> cases (cs==(5:Int)) <;> cases (cs==(3:Int)) <;> cases (cs==(4:Int)) <;> first | exact Nat.zero_le _ | assumption
theorem qCm:∀ (t0:List Int),(qqQ t0=true)→∃ n,qCF n t0=qvr (z30 t0).1 (z30 t0).2.1 (z30 t0).2.2:=fun t h=>⟨0,by
 unfold qCF z30
 rw [show qyn t=true from h,show qyk (z71 t).1 t=true from h]
 cases (z71 t).2 != 0 <;> rfl⟩
theorem qCn:∀ (t0:List Int),(qyr t0=true)→∃ n,qCU n t0=qvQ (z31 t0).1 (z31 t0).2.1 (z31 t0).2.2:=fun t h=>⟨0,by
 unfold qCU z31
 rw [show qyo t=true from h,show qyl (z73 t).1 t=true from h]
 cases (z73 t).2 != 0 <;> rfl⟩
theorem qCo:∀ (charset0:Int) (code1:Int) (p2:List Int),(qys charset0 code1 p2=true)→∃ n,qCI n charset0 code1 p2=qvz (z75 charset0 code1 p2).1 (z75 charset0 code1 p2).2:=fun cs code p h=>⟨0,by
 have hl:p.length≤65536:=of_decide_eq_true h
 have hc:=qur cs p
 unfold qCI z75
 rw [show qho cs p=true from qaO (by omega),show qAy cs code (z120 cs p).1=true from dT (by omega)]
 cases (z120 cs p).2 != 0 <;> rfl⟩
theorem qoA {p:List Int→Int→Int} (hp:∀ t r,∃ k:Nat,p t r=k∧k≤t.length):∀ (d:Nat) (t:List Int) (r:Int) (l:List (List Int)),cutAt p d t r=some l→l.length≤t.length∧∀ x∈l,x.length≤t.length
 | 0,_,_,_,h=>by cases h
 | d+1,[],r,l,h=>by
  have h:some []=some l:=h
  cases h
  exact ⟨Nat.le_refl _,fun x hx=>by cases hx⟩
 | d+1,a :: t,r,l,h=>by
  have h:(bif p (a :: t) r==0 then none else (cutAt p d ((a :: t).drop (p (a :: t) r).toNat) 75).map fun l=>(a :: t).take (p (a :: t) r).toNat :: l)=some l:=h
  revert h
  generalize a :: t=u
  intro h
  obtain ⟨k,hk,hkl⟩:=hp u r
  rw [hk,tn] at h
  by_cases hk0:k=0
  ·subst hk0; cases h
  ·rw [show (((k:Nat):Int)==0)=false from beq_eq_false_iff_ne.2 (by omega)] at h
   simp only [cond_false,Option.map_eq_some_iff] at h
   obtain ⟨z,hz,rfl⟩:=h
   obtain ⟨h1,h2⟩:=qoA hp d _ _ z hz
   rw [List.length_drop] at h1
   refine ⟨by rw [List.length_cons]; omega,fun x hx=>?_⟩
   rcases List.mem_cons.1 hx with rfl | hx
   ·rw [List.length_take]; omega
   ·have:=h2 x hx
    rw [List.length_drop] at this
    omega
theorem qus {p:List Int→Int→Int} (hp:∀ t r,∃ k:Nat,p t r=k∧k≤t.length) (d:Nat) (t:List Int) (r:Int):(qyp (cutAt p d t r)).1.length≤t.length∧∀ x∈(qyp (cutAt p d t r)).1,x.length≤t.length:=by
 cases h:cutAt p d t r with
 | none=>exact ⟨Nat.zero_le _,fun x hx=>by cases hx⟩
 | some l=>exact qoA hp d t r l h
theorem qiV (cs code:Int) (t:List Int) (rm:Int):(z28 cs code t rm).1.length≤t.length∧∀ x∈(z28 cs code t rm).1,x.length≤t.length:=by
 unfold z28
 cases (z66 cs code t).2 != 0 with
 | true=>exact ⟨Nat.zero_le _,fun x hx=>by cases hx⟩
 | false=>exact qus (quq cs code) _ _ _
theorem qcv (f:List Int→List UInt8×Int) (p:List Int) (l:List (List Int)):qQ f (p :: l)=bif (f p).2 != 0 then ([],(f p).2) else bif (qQ f l).2 != 0 then ([],(qQ f l).2) else ((f p).1 :: (qQ f l).1,0):=rfl
theorem qky (cs code:Int) (m:Nat) (l:List (List Int)) (hl:l.length≤65536) (hx:∀ x∈l,x.length≤65536):∀ (d i n:Nat) (out:List (List UInt8)),i+d=l.length→d < n→out.length=i →
 qmz qbA (qgr m) n cs code out l ((l.length:Nat):Int) (i:Int) =
  bif (qQ (z75 cs code) (l.drop i)).2 != 0 then qbA [] (qQ (z75 cs code) (l.drop i)).2 else qbA (out++(qQ (z75 cs code) (l.drop i)).1) 0
 | d,i,0,out,hi,hn,_=>by omega
 | 0,i,n+1,out,hi,hn,ho=>by
  obtain rfl:i=l.length:=by omega
  show qed _ _ _ n _ _ _ _ _ _=_
  unfold qed
  rw [dF (by omega),List.drop_eq_nil_of_le (Nat.le_refl _)]
  show qbA out 0=qbA (out++[]) 0
  rw [List.append_nil]
 | d+1,i,n+1,out,hi,hn,ho=>by
  have hlt:i < l.length:=by omega
  show qed _ _ _ n _ _ _ _ _ _=_
  unfold qed
  have hgm:l.getD i []∈l:=by
   rw [List.getD_eq_getElem?_getD,List.getElem?_eq_getElem hlt]
   exact List.getElem_mem hlt
  have hok:qys cs code (l.getD i [])=true:=dT (hx _ hgm)
  have hr:∀ z:List UInt8,out.length+[z].length≤room:=fun z=>by unfold room; simp; omega
  rw [qah (d:=([]:List Int)) hlt]
  simp (disch:=omega) only [dT,cond_true,Bool.and_true,tn,qr,hok]
  rw [qcv]
  cases hb:(z75 cs code (l.getD i [])).2 != 0 with
  | true=>simp only [cond_true,hb]
  | false =>
   simp only [cond_false]
   rw [dT (hr _),cond_true,qky cs code m l hl hx d (i+1) n _ (by omega) (by omega) (by rw [List.length_append,ho]; rfl)]
   cases hz:(qQ (z75 cs code) (l.drop (i+1))).2 != 0 with
   | true=>simp only [cond_true,hz]
   | false =>
    simp only [cond_false]
    rw [List.append_assoc]
    rfl
theorem qqT (f:List Int→List UInt8×Int):∀ l:List (List Int),((qQ f l).2 != 0)=true→qQ f l=([],(qQ f l).2)
 | [],h=>by cases h
 | p :: l,h=>by
  rw [qcv] at h ⊢
  cases hb:(f p).2 != 0 with
  | true=>rfl
  | false =>
   rw [hb] at h
   simp only [cond_false] at h ⊢
   cases hz:(qQ f l).2 != 0 with
   | true=>rfl
   | false=>rw [hz] at h; cases h
theorem qut (f:List Int→List UInt8×Int) (l:List (List Int)) (h:((qQ f l).2 != 0)=false):(qQ f l).2=0:=by simpa using h
theorem qCp:∀ (t0:List Int) (first1:Int),(qmm t0 first1=true)→∃ n,qyM n t0 first1=qbA (z32 t0 first1).1 (z32 t0 first1).2:=fun t rm h=>⟨65537,by
 have hl:t.length≤65536:=of_decide_eq_true h
 have hk:lenOk t=true:=qaO (by omega)
 unfold qyM z32
 rw [show qqQ t=true from hk,show qqP (z30 t).1 (z30 t).2.1 t rm=true from hk]
 cases (z30 t).2.2 != 0 with
 | true=>rfl
 | false =>
  simp only [cond_false,Bool.and_true,cond_true]
  cases hc:(z28 (z30 t).1 (z30 t).2.1 t rm).2 != 0 with
  | true=>rfl
  | false =>
   obtain ⟨h1,h2⟩:=qiV (z30 t).1 (z30 t).2.1 t rm
   simp only [cond_false]
   have:=qky (z30 t).1 (z30 t).2.1 65537 (z28 (z30 t).1 (z30 t).2.1 t rm).1 (by omega) (fun x hx=>Nat.le_trans (h2 x hx) hl) _ 0 65537 [] (Nat.zero_add _) (by omega) rfl
   refine this.trans ?_
   rw [List.drop_zero,List.nil_append]
   cases hz:(qQ (z75 (z30 t).1 (z30 t).2.1) (z28 (z30 t).1 (z30 t).2.1 t rm).1).2 != 0 with
   | true =>
    rw [qqT _ _ hz]
    simp only [cond_true]
   | false=>rw [qut _ _ hz]; rfl⟩
end Go.Av
