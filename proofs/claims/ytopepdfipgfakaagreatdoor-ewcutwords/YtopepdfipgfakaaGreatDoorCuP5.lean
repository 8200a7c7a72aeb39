import Derived.Test.YtopepdfipgfakaaGreatDoorCuP4
namespace Go.Av
set_option linter.unusedVariables false
set_option linter.unusedSimpArgs false
theorem qpi (cs code:Int) (s:List UInt8):(z15 cs code s).1.length≤75:=by
 unfold z15
 generalize z48 cs code++(bif code==1 then z47 s else z46 s)++[63,61]=w
 cases (!(z44 cs)) with
 | true=>exact Nat.zero_le _
 | false =>
  cases ((z45 code==[])||s.isEmpty) with
  | true=>exact Nat.zero_le _
  | false =>
   by_cases h:75 < w.length
   ·rw [dT h]; exact Nat.zero_le _
   ·rw [dF h]; show w.length≤75; omega
theorem qzw (cs code:Int) (p:List Int):(z75 cs code p).1.length≤75:=by
 unfold z75
 cases (z120 cs p).2 != 0 with
 | true=>exact Nat.zero_le _
 | false=>exact qpi _ _ _
theorem qkT (f:List Int→List UInt8×Int) (hf:∀ p,(f p).1.length≤75):∀ l:List (List Int),(qP f l).1.length≤l.length∧∀ x∈(qP f l).1,x.length≤75
 | []=>⟨Nat.le_refl _,fun x hx=>by cases hx⟩
 | p :: l=>by
  obtain ⟨h1,h2⟩:=qkT f hf l
  rw [qbc]
  cases (f p).2 != 0 with
  | true=>exact ⟨Nat.zero_le _,fun x hx=>by cases hx⟩
  | false =>
   cases (qP f l).2 != 0 with
   | true=>exact ⟨Nat.zero_le _,fun x hx=>by cases hx⟩
   | false =>
    refine ⟨Nat.succ_le_succ h1,fun x hx=>?_⟩
    rcases List.mem_cons.1 hx with rfl | hx
    ·exact hf p
    ·exact h2 x hx
theorem qvl (t:List Int) (rm:Int):(z32 t rm).1.length≤t.length∧∀ x∈(z32 t rm).1,x.length≤75:=by
 unfold z32
 cases (z30 t).2.2 != 0 with
 | true=>exact ⟨Nat.zero_le _,fun x hx=>by cases hx⟩
 | false =>
  cases (z28 (z30 t).1 (z30 t).2.1 t rm).2 != 0 with
  | true=>exact ⟨Nat.zero_le _,fun x hx=>by cases hx⟩
  | false =>
   obtain ⟨h1,h2⟩:=qkT _ (qzw (z30 t).1 (z30 t).2.1) (z28 (z30 t).1 (z30 t).2.1 t rm).1
   exact ⟨Nat.le_trans h1 (qpg _ _ _ _).1,h2⟩
theorem qvm (t:List Int) (rm:Int):(z33 t rm).1.length≤t.length∧∀ x∈(z33 t rm).1,x.length≤75:=by
 unfold z33
 cases (z31 t).2.2 != 0 with
 | true=>exact ⟨Nat.zero_le _,fun x hx=>by cases hx⟩
 | false =>
  cases (z29 (z31 t).1 (z31 t).2.1 t rm).2 != 0 with
  | true=>exact ⟨Nat.zero_le _,fun x hx=>by cases hx⟩
  | false =>
   refine ⟨by
    show (List.map _ _).length≤_
    rw [List.length_map]
    exact (qph _ _ _ _).1,fun x hx=>?_⟩
   obtain ⟨p,_,rfl⟩:=List.mem_map.1 (show x∈List.map _ _ from hx)
   exact qpi _ _ _
theorem qhp {α β:Type} (f:α→β):∀ l:List α,l.flatMap (fun p=>[f p])=l.map f
 | []=>rfl
 | a :: l=>by rw [List.flatMap_cons,qhp f l]; rfl
theorem qDj:∀ (t0:List Int) (first1:Int),(qrF t0 first1=true)→∃ n,qzM n t0 first1=qpM (z33 t0 first1).1 (z33 t0 first1).2:=fun t rm h=>⟨65537,by
 have hl:t.length≤65536:=of_decide_eq_true h
 have hk:lenOk t=true:=qam (by omega)
 unfold qzM z33
 rw [show qzm t=true from hk,show qzk (z31 t).1 (z31 t).2.1 t rm=true from hk]
 cases (z31 t).2.2 != 0 with
 | true=>rfl
 | false =>
  simp only [cond_false,Bool.and_true,cond_true]
  cases (z29 (z31 t).1 (z31 t).2.1 t rm).2 != 0 with
  | true=>rfl
  | false =>
   obtain ⟨h1,h2⟩:=qph (z31 t).1 (z31 t).2.1 t rm
   simp only [cond_false]
   generalize (z29 (z31 t).1 (z31 t).2.1 t rm).1=l at h1 h2
   generalize (z31 t).1=cs
   generalize (z31 t).2.1=code
   have:=qcI (t:=l) (dv:=[]) (f:=fun p=>[(z16 cs code (z76 cs p).1).1]) (q:=fun _=>true) (b:=1) (k0:=qeu 65537) (R:=none)
    (L:=fun n out i=>qnc (qeu 65537) n cs code l out i) (fun _=>Nat.le_refl _) (fun n i out hi hb=>by
     show qet _ _ n _ _ _ _ _=_
     unfold qet
     have hgm:l.getD i []∈l:=by
      rw [List.getD_eq_getElem?_getD,List.getElem?_eq_getElem hi]
      exact List.getElem_mem hi
     have hx:=h2 _ hgm
     have h4:=qvj cs (l.getD i [])
     have e1:qrQ cs (l.getD i [])=true:=qam (by omega)
     have e2:qBq cs code (z76 cs (l.getD i [])).1=true:=dT (by omega)
     have e3:decide (out.length+List.length [(z16 cs code (z76 cs (l.getD i [])).1).1]≤room)=true:=dT hb
     simp (disch:=omega) only [dT,cond_true,Bool.and_true,tn,qo,e1,e2,e3]) (fun n out=>by
     show qet _ _ n _ _ _ _ _=_
     unfold qet
     rw [dF (by omega)]
     rfl) l.length 0 65537 [] (by omega) (by omega) (by unfold room; simp; omega)
   refine this.trans ?_
   rw [List.drop_zero,List.all_eq_true.2 (fun _ _=>rfl)]
   simp only [cond_true,List.nil_append]
   rw [qhp (fun p=>(z16 cs code (z76 cs p).1).1) l]
   rfl⟩
theorem qDk:∀ (t0:List Int) (first1:Int),(qvc t0 first1=true)→∃ n,qDE n t0 first1=qwt (z34 t0 first1).1 (z34 t0 first1).2:=fun t rm h=>⟨0,by
 have hl:t.length≤65536:=of_decide_eq_true h
 obtain ⟨h1,h2⟩:=qvl t rm
 unfold qDE z34
 rw [show qjj t rm=true from h]
 cases (z32 t rm).2 != 0 with
 | true=>rfl
 | false =>
  have:qrG (z32 t rm).1 [13,10,32]=true:=by
   unfold qrG
   rw [dT (by omega),show (List.all (z32 t rm).1 fun s=>decide (s.length≤75))=true from List.all_eq_true.2 (fun x hx=>dT (h2 x hx))]
   rfl
  rw [this]
  rfl⟩
theorem qDl:∀ (t0:List Int) (first1:Int),(qvd t0 first1=true)→∃ n,qDF n t0 first1=qBT (z36 t0 first1):=fun t rm h=>⟨0,by
 unfold qDF z36
 rw [show qjj t rm=true from h]
 rfl⟩
theorem qkU (sep:List UInt8):∀ (a:List UInt8) (l:List (List UInt8)),joinB sep (a :: l)=a++l.flatMap fun x=>sep++x
 | a,[]=>by simp [joinB]
 | a,b :: l=>by
  rw [show joinB sep (a :: b :: l)=a++sep++joinB sep (b :: l) from rfl,qkU sep b l]
  simp
theorem qhq (m:Nat) (l:List (List UInt8)) (e:Int) (hl:l.length≤65536) (hx:∀ x∈l,x.length≤75):∀ (d i n:Nat) (out:List UInt8),i+d=l.length→d < n→0 < i→out.length≤78*i →
 qnd (qgO m) n l e out (i:Int)=qld (out++(l.drop i).flatMap fun x=>[13,10,32]++x) e
 | d,i,0,out,hi,hn,h0,ho=>by omega
 | 0,i,n+1,out,hi,hn,h0,ho=>by
  obtain rfl:i=l.length:=by omega
  show qbE _ _ n _ _ _ _=_
  unfold qbE
  rw [dF (by omega),List.drop_eq_nil_of_le (Nat.le_refl _)]
  show qld out e=qld (out++[]) e
  rw [List.append_nil]
 | d+1,i,n+1,out,hi,hn,h0,ho=>by
  have hlt:i < l.length:=by omega
  have hgm:l.getD i []∈l:=by
   rw [List.getD_eq_getElem?_getD,List.getElem?_eq_getElem hlt]
   exact List.getElem_mem hlt
  have h75:=hx _ hgm
  show qbE _ _ n _ _ _ _=_
  unfold qbE
  have e1:decide (out.length+List.length ([13,10,32]:List UInt8)≤room)=true:=dT (by unfold room; simp; omega)
  have e2:decide ((out++[13,10,32]).length+(l.getD i []).length≤room)=true:=dT (by unfold room; rw [List.length_append,show ([13,10,32]:List UInt8).length=3 from rfl]; omega)
  rw [qZ (d:=([]:List UInt8)) hlt]
  simp (disch:=omega) only [dT,cond_true,Bool.and_true,tn,qo,e1,e2]
  rw [qhq m l e hl hx d (i+1) n _ (by omega) (by omega) (by omega) (by rw [List.length_append,List.length_append,show ([13,10,32]:List UInt8).length=3 from rfl]; omega)]
  simp
theorem qDm:∀ (t0:List Int) (first1:Int),(qzo t0 first1=true)→∃ n,qzN n t0 first1=qld (z35 t0 first1).1 (z35 t0 first1).2:=fun t rm h=>⟨65538,by
 have hl:t.length≤65536:=of_decide_eq_true h
 obtain ⟨h1,h2⟩:=qvm t rm
 unfold qzN z35
 rw [show qrF t rm=true from h]
 generalize (z33 t rm).1=l at h1 h2
 generalize (z33 t rm).2=e
 simp only [Bool.and_true,cond_true]
 cases l with
 | nil=>rfl
 | cons a l =>
  have ha:=h2 a (by simp)
  show qbE _ _ 65537 _ _ _ _=_
  unfold qbE
  have e1:decide (([]:List UInt8).length+(List.getD (a :: l) 0 []).length≤room)=true:=dT (by unfold room; simp; omega)
  rw [dT (show (0:Int) < (((a :: l).length:Nat):Int) by simp),dF (show ¬ (0:Int) < 0 by omega)]
  simp only [cond_true,cond_false]
  rw [show ((0:Int)=((0:Nat):Int)) from rfl,tn,dT (show ((0:Nat):Int)≤((0:Nat):Int) by omega),e1,qo (by omega)]
  simp only [cond_true,Bool.and_true]
  have:=qhq 65538 (a :: l) e (by omega) h2 l.length 1 65537 a (by simp; omega) (by simp at h1; omega) (by omega) (by omega)
  refine this.trans ?_
  rw [qkU]
  rfl⟩
end Go.Av
