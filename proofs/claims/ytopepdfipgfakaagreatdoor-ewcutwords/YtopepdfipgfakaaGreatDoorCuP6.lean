import Derived.Test.YtopepdfipgfakaaGreatDoorCuP5
namespace Go.Av
set_option linter.unusedVariables false
set_option linter.unusedSimpArgs false
theorem qpj {t:List Int} (h:i32s t=true) (n:Nat):i32s (t.drop n)=true:=by
 unfold i32s at h ⊢
 rw [List.all_eq_true] at h ⊢
 exact fun c hc=>h c (List.mem_of_mem_drop hc)
theorem qJl {p q:Int→Bool} (h1:p 1=q 1) (h2:p 2=q 2) (h3:p 3=q 3) (h4:p 4=q 4) (h5:p 5=q 5):selF p=selF q:=by
 unfold selF qrE
 rw [h1,h2,h3,h4,h5]
theorem all12 (n:Int) (t:List Int) (h:i32s t=true) (h1:1≤n∧n≤5):z119 n t=t.all (z157 n):=by
 unfold z119 z160
 rw [dT h1.1,dT h1.2]
 have:=qkP (p:=z167 n) t 0
 rw [show decide (qV (z167 n) t 0 < 0)=t.all (z167 n) from this,qwZ (q:=z157 n) (fun c hc=>(qEC n (qcJ h hc)).symm)]
 rfl
theorem qzx (t:List Int) (h:i32s t=true):z71 t=z73 t :=
 qJl (all12 1 t h (by omega)).symm (all12 2 t h (by omega)).symm (all12 3 t h (by omega)).symm (all12 4 t h (by omega)).symm (all12 5 t h (by omega)).symm
theorem qJm {p:Int→Bool} (h:(selF p).2=0):(1≤(selF p).1∧(selF p).1≤5)∧p (selF p).1=true:=by
 unfold selF qrE at h ⊢
 cases h1:p 1 with
 | true=>simp [h1]
 | false =>
  cases h2:p 2 with
  | true=>simp [h1,h2]
  | false =>
   cases h3:p 3 with
   | true=>simp [h1,h2,h3]
   | false =>
    cases h4:p 4 with
    | true=>simp [h1,h2,h3,h4]
    | false =>
     cases h5:p 5 with
     | true=>simp [h1,h2,h3,h4,h5]
     | false =>
      rw [h1,h2,h3,h4,h5] at h
      cases h
theorem qzy {cs:Int} {t:List Int} (h1:1≤cs∧cs≤5) (h:t.all (z167 cs)=true):(z76 cs t).2=0:=by
 have h':cs=1∨cs=2∨cs=3∨cs=4∨cs=5:=by omega
 unfold z76
 rw [dF (show ¬ cs < 1 by omega),dF (show ¬ 5 < cs by omega),qwZ (q:=z167 cs) (fun c _=>qpZ h'),h]
 rfl
theorem qBC {t:List Int} (h:i32s t=true) (h0:(z71 t).2=0):(1≤(z71 t).1∧(z71 t).1≤5)∧(z76 (z71 t).1 t).2=0:=by
 obtain ⟨h1,h2⟩:=qJm h0
 refine ⟨h1,qzy h1 ?_⟩
 rw [qwZ (q:=z157 (z71 t).1) (fun c hc=>(qEC _ (qcJ h hc)).symm)]
 exact h2
theorem qDn {cs code:Int} {t:List Int} (h:(z76 cs t).2=0) (hc:code=1∨code=2):(told cs code t).2=0:=by
 unfold told
 rw [h]
 rcases hc with rfl | rfl <;> rfl
theorem qpk {cs:Int} {t:List Int} (hl:t.length≤1048576) (h:(z76 cs t).2=0):(z74 cs t).2=0∧((z74 cs t).1=1∨(z74 cs t).1=2):=by
 have h1:=qDn (code:=1) h (.inl rfl)
 unfold z74
 rw [qhB cs 1 t hl]
 have:(lenE cs 1 t).2=0:=by unfold lenE; rw [h1]; rfl
 rw [this]
 cases decide ((z69 cs 2 t).1≤(lenE cs 1 t).1)
 ·exact ⟨rfl,.inl rfl⟩
 ·exact ⟨rfl,.inr rfl⟩
theorem qLV (t:List Int) (h:i32s t=true) (hl:t.length≤1048576):z30 t=z31 t:=by
 unfold z30 z31
 rw [← qzx t h]
 by_cases h0:(z71 t).2=0
 ·obtain ⟨_,h2⟩:=qBC h h0
  rw [qqa _ t h hl,(qpk hl h2).1]
 ·rw [bneT h0]; rfl
theorem qLW {t:List Int} (h:i32s t=true) (hl:t.length≤1048576) (h0:(z30 t).2.2=0):(1≤(z30 t).1∧(z30 t).1≤5)∧((z30 t).2.1=1∨(z30 t).2.1=2):=by
 by_cases h1:(z71 t).2=0
 ·obtain ⟨h2,h3⟩:=qBC h h1
  have e:z30 t=((z71 t).1,(z72 (z71 t).1 t).1,(z72 (z71 t).1 t).2):=by
   unfold z30
   rw [h1]; rfl
  rw [e]
  refine ⟨h2,?_⟩
  show (z72 (z71 t).1 t).1=1∨_
  rw [qqa _ t h hl]
  exact (qpk hl h3).2
 ·have e:z30 t=(0,0,(z71 t).2):=by
   unfold z30
   rw [bneT h1]; rfl
  rw [e] at h0
  exact absurd h0 h1
theorem qvn {p q:List Int→Int→Int} (h:∀ t r,i32s t=true→t.length≤1048576→p t r=q t r):∀ (d:Nat) (t:List Int) (r:Int),i32s t=true→t.length≤1048576→cutAt p d t r=cutAt q d t r
 | 0,_,_,_,_=>rfl
 | _+1,[],_,_,_=>rfl
 | d+1,a :: t,r,hi,hl=>by
  show (bif p (a :: t) r==0 then none else (cutAt p d ((a :: t).drop (p (a :: t) r).toNat) 75).map fun l=>(a :: t).take (p (a :: t) r).toNat :: l)=bif q (a :: t) r==0 then none else (cutAt q d ((a :: t).drop (q (a :: t) r).toNat) 75).map fun l=>(a :: t).take (q (a :: t) r).toNat :: l
  rw [h _ r hi hl,qvn h d _ 75 (qpj hi _) (by rw [List.length_drop]; omega)]
theorem qLX (cs code:Int) (t:List Int) (rm:Int) (h:i32s t=true) (hl:t.length≤1048576):z28 cs code t rm=z29 cs code t rm:=by
 unfold z28 z29
 rw [len_E cs code t h hl,qhB cs code t hl,qvn (q:=fun u r=>z70 cs code u r) (fun u r hu hn=>qBf cs code u r hu hn) _ t rm h hl]
theorem qhr {cs code:Int}:∀ (d:Nat) (t:List Int) (r:Int) (l:List (List Int)),i32s t=true→t.length≤1048576→cutAt (fun u r=>z114 cs code u r) d t r=some l →
 l.flatten=t∧(∀ x∈l,i32s x=true∧x.length≤t.length∧∃ r',z156 cs code x r'=true)∧∀ x,l.head? = some x→z156 cs code x r=true
 | 0,_,_,_,_,_,h=>by cases h
 | d+1,[],r,l,_,_,h=>by
  have h:some []=some l:=h
  cases h
  exact ⟨rfl,⟨fun x hx=>(List.not_mem_nil hx).elim,fun x hx=>by simp at hx⟩⟩
 | d+1,a :: t,r,l,hi,hl,h=>by
  have h:(bif z114 cs code (a :: t) r==0 then none else (cutAt (fun u r=>z114 cs code u r) d ((a :: t).drop (z114 cs code (a :: t) r).toNat) 75).map fun l=>(a :: t).take (z114 cs code (a :: t) r).toNat :: l)=some l:=h
  revert h hi hl
  generalize a :: t=u
  intro hi hl h
  obtain ⟨k,hk,hkl⟩:=qpa cs code u r
  have hf:=qat (fun u=>z156 cs code u r) u u.length 0
  have hk':qn (fun u=>z156 cs code u r) u u.length 0=k:=by
   have:((qn (fun u=>z156 cs code u r) u u.length 0:Nat):Int)=k:=hk
   omega
  rw [hk'] at hf
  rw [hk,tn] at h
  by_cases hk0:k=0
  ·subst hk0; cases h
  ·rw [show (((k:Nat):Int)==0)=false from beq_eq_false_iff_ne.2 (by omega)] at h
   simp only [cond_false,Option.map_eq_some_iff] at h
   obtain ⟨z,hz,rfl⟩:=h
   have hfit:=hf.2.2.1 (by omega)
   obtain ⟨h1,h2,_⟩:=qhr d _ _ z (qpj hi k) (by rw [List.length_drop]; omega) hz
   refine ⟨by rw [List.flatten_cons,h1,List.take_append_drop],fun x hx=>?_,fun x hx=>?_⟩
   ·rcases List.mem_cons.1 hx with rfl | hx
    ·exact ⟨qqb hi k,by rw [List.length_take]; omega,r,hfit⟩
    ·obtain ⟨j1,j2,j3⟩:=h2 x hx
     rw [List.length_drop] at j2
     exact ⟨j1,by omega,j3⟩
   ·simp only [List.head?_cons,Option.some.injEq] at hx
    subst hx
    exact hfit
theorem qJn {cs code:Int} {s:List UInt8} (h1:1≤cs∧cs≤5) (h2:code=1∨code=2) (h3:0 < s.length) (h4:((qco code s:Nat):Int)+z17 cs≤75) :
 (z15 cs code s).2=0∧(((z15 cs code s).1.length:Nat):Int)=(qco code s:Nat)+z17 cs:=by
 have hi:z44 cs=true:=by unfold z44; rw [dT h1.1,dT h1.2]; rfl
 have ho:z17 cs=(((z89 cs).length+7:Nat):Int):=by
  unfold z17
  rw [hi]; rfl
 have he:s.isEmpty=false:=by
  cases s with
  | nil=>cases h3
  | cons=>rfl
 have hlen:(z48 cs code++(bif code==1 then z47 s else z46 s)++[63,61]).length=qco code s+((z89 cs).length+7):=by
  unfold z48 qco z47 z46
  have a1:=qpY s
  have a2:=qjw s
  rcases h2 with rfl | rfl
  ·simp [z45,a1]; omega
  ·simp [z45,a2]; omega
 unfold z15
 rw [hi,he,show ((z45 code==[])||false)=false from by rcases h2 with rfl | rfl <;> rfl]
 have hd:decide (75 < (z48 cs code++(bif code==1 then z47 s else z46 s)++[63,61]).length)=false:=dF (by rw [hlen]; omega)
 rw [hd]
 refine ⟨rfl,?_⟩
 show (((z48 cs code++(bif code==1 then z47 s else z46 s)++[63,61]).length:Nat):Int)=_
 rw [hlen,ho]
 omega
theorem qDo {cs code:Int} {p:List Int} {r:Int} (h:i32s p=true) (hl:p.length≤1048576) (hf:z156 cs code p r=true) (h1:1≤cs∧cs≤5) (h2:code=1∨code=2) :
 z75 cs code p=((z15 cs code (z76 cs p).1).1,0)∧(((z75 cs code p).1.length:Nat):Int)≤75∧(((z75 cs code p).1.length:Nat):Int)≤r:=by
 obtain ⟨j1,j2,j3,j4⟩:=qJB cs code p r h hl hf
 obtain ⟨k1,_,k3⟩:=qCb j1
 rw [k3] at j3 j4
 have k4:=qBg k1 j2
 obtain ⟨e1,e2⟩:=qJn h1 h2 k4 j3
 have e:z75 cs code p=((z15 cs code (z76 cs p).1).1,0):=by
  unfold z75
  rw [qJA cs p h,k1]
  show z15 cs code (z76 cs p).1=_
  rw [← e1]
 rw [e]
 exact ⟨rfl,by show (((z15 cs code (z76 cs p).1).1.length:Nat):Int)≤75; omega,by show (((z15 cs code (z76 cs p).1).1.length:Nat):Int)≤r; omega⟩
theorem qhs {f:List Int→List UInt8×Int}:∀ {l:List (List Int)},(∀ x∈l,(f x).2=0)→qP f l=(l.map fun x=>(f x).1,0)
 | [],_=>rfl
 | p :: l,h=>by
  rw [qbc,h p (by simp),qhs (fun x hx=>h x (by simp [hx]))]
  rfl
theorem qLY {cs code:Int} {t:List Int} {rm:Int} (h:i32s t=true) (hl:t.length≤1048576) (h0:(z28 cs code t rm).2=0) :
 (z28 cs code t rm).1.flatten=t∧(∀ x∈(z28 cs code t rm).1,i32s x=true∧x.length≤t.length∧∃ r',z156 cs code x r'=true)∧∀ x,(z28 cs code t rm).1.head? = some x→z156 cs code x rm=true:=by
 unfold z28 at h0 ⊢
 by_cases h1:(z66 cs code t).2=0
 ·rw [bneF h1] at h0 ⊢
  simp only [cond_false] at h0 ⊢
  cases hc:cutAt (fun u r=>z114 cs code u r) (t.length+1) t rm with
  | none=>rw [hc] at h0; cases h0
  | some l=>exact qhr _ t rm l h hl hc
 ·rw [bneT h1] at h0
  exact absurd h0 h1
theorem qvo (t:List Int) (rm:Int) (h:i32s t=true) (hl:t.length≤1048576):z32 t rm=z33 t rm:=by
 unfold z32 z33
 rw [← qLV t h hl,← qLX _ _ t rm h hl]
 by_cases h0:(z30 t).2.2=0
 ·rw [bneF h0]
  simp only [cond_false]
  by_cases h1:(z28 (z30 t).1 (z30 t).2.1 t rm).2=0
  ·rw [bneF h1]
   simp only [cond_false]
   obtain ⟨k1,k2⟩:=qLW h hl h0
   obtain ⟨_,hx,_⟩:=qLY h hl h1
   have hw:∀ x∈(z28 (z30 t).1 (z30 t).2.1 t rm).1,z75 (z30 t).1 (z30 t).2.1 x=((z15 (z30 t).1 (z30 t).2.1 (z76 (z30 t).1 x).1).1,0):=fun x hm=>by
    obtain ⟨j1,j2,r',j3⟩:=hx x hm
    exact (qDo j1 (by omega) j3 k1 k2).1
   rw [qhs (fun x hm=>by rw [hw x hm])]
   congr 1
   exact List.map_congr_left (fun x hm=>by rw [hw x hm]; rfl)
  ·rw [bneT h1]; rfl
 ·rw [bneT h0]; rfl
theorem qJo (t:List Int) (rm:Int) (h:i32s t=true) (hl:t.length≤1048576):z34 t rm=z35 t rm:=by
 unfold z34 z35
 rw [← qvo t rm h hl]
 by_cases h0:(z32 t rm).2=0
 ·rw [bneF h0,h0]; rfl
 ·rw [bneT h0]
  have:(z32 t rm).1=[]:=by
   unfold z32 at h0 ⊢
   cases h1:(z30 t).2.2 != 0 with
   | true=>rfl
   | false =>
    rw [h1] at h0
    cases h2:(z28 (z30 t).1 (z30 t).2.1 t rm).2 != 0 with
    | true=>rfl
    | false =>
     rw [h2] at h0
     simp only [cond_false] at h0 ⊢
     rw [qho _ _ (bneT h0)]
  rw [this]; rfl
end Go.Av
