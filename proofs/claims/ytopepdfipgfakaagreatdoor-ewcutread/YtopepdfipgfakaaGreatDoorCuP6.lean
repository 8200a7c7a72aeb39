import Derived.Test.YtopepdfipgfakaaGreatDoorCuP5
namespace Go.Av
set_option linter.unusedVariables false
set_option linter.unusedSimpArgs false
theorem qBx {t:List Int} (h:i32s t=true) (n:Nat):i32s (t.drop n)=true:=by
 unfold i32s at h ⊢
 rw [List.all_eq_true] at h ⊢
 exact fun c hc=>h c (List.mem_of_mem_drop hc)
theorem qMe {p:Int→Bool} (h:(selF p).2=0):(1≤(selF p).1∧(selF p).1≤5)∧p (selF p).1=true:=by
 unfold selF qBj at h ⊢
 cases h1:p 1 with
 | true=>simp [h1]
 | false =>
  cases h2:p 2 with
  | true=>simp [h1,h2]
  | false =>
   cases h3:p 3 with
   | true=>simp [h1,h2,h3]
   | false =>
    cases h4:p 4 with
    | true=>simp [h1,h2,h3,h4]
    | false =>
     cases h5:p 5 with
     | true=>simp [h1,h2,h3,h4,h5]
     | false =>
      rw [h1,h2,h3,h4,h5] at h
      cases h
theorem qBy {cs:Int} {t:List Int} (h1:1≤cs∧cs≤5) (h:t.all (z167 cs)=true):(z76 cs t).2=0:=by
 have h':cs=1∨cs=2∨cs=3∨cs=4∨cs=5:=by omega
 unfold z76
 rw [dF (show ¬ cs < 1 by omega),dF (show ¬ 5 < cs by omega),qDw (q:=z167 cs) (fun c _=>qro h'),h]
 rfl
theorem qMf {t:List Int} (h:i32s t=true) (h0:(z71 t).2=0):(1≤(z71 t).1∧(z71 t).1≤5)∧(z76 (z71 t).1 t).2=0:=by
 obtain ⟨h1,h2⟩:=qMe h0
 refine ⟨h1,qBy h1 ?_⟩
 rw [qDw (q:=z157 (z71 t).1) (fun c hc=>(qMv _ (qfd h hc)).symm)]
 exact h2
theorem qFR {cs code:Int} {t:List Int} (h:(z76 cs t).2=0) (hc:code=1∨code=2):(told cs code t).2=0:=by
 unfold told
 rw [h]
 rcases hc with rfl | rfl <;> rfl
theorem qBz {cs:Int} {t:List Int} (hl:t.length≤1048576) (h:(z76 cs t).2=0):(z74 cs t).2=0∧((z74 cs t).1=1∨(z74 cs t).1=2):=by
 have h1:=qFR (code:=1) h (.inl rfl)
 unfold z74
 rw [qmr cs 1 t hl]
 have:(lenE cs 1 t).2=0:=by unfold lenE; rw [h1]; rfl
 rw [this]
 cases decide ((z69 cs 2 t).1≤(lenE cs 1 t).1)
 ·exact ⟨rfl,.inl rfl⟩
 ·exact ⟨rfl,.inr rfl⟩
theorem qOO {t:List Int} (h:i32s t=true) (hl:t.length≤1048576) (h0:(z30 t).2.2=0):(1≤(z30 t).1∧(z30 t).1≤5)∧((z30 t).2.1=1∨(z30 t).2.1=2):=by
 by_cases h1:(z71 t).2=0
 ·obtain ⟨h2,h3⟩:=qMf h h1
  have e:z30 t=((z71 t).1,(z72 (z71 t).1 t).1,(z72 (z71 t).1 t).2):=by
   unfold z30
   rw [h1]; rfl
  rw [e]
  refine ⟨h2,?_⟩
  show (z72 (z71 t).1 t).1=1∨_
  rw [qDy _ t h hl]
  exact (qBz hl h3).2
 ·have e:z30 t=(0,0,(z71 t).2):=by
   unfold z30
   rw [bneT h1]; rfl
  rw [e] at h0
  exact absurd h0 h1
theorem qil {cs code:Int}:∀ (d:Nat) (t:List Int) (r:Int) (l:List (List Int)),i32s t=true→t.length≤1048576→cutAt (fun u r=>z114 cs code u r) d t r=some l →
 l.flatten=t∧(∀ x∈l,i32s x=true∧x.length≤t.length∧∃ r',z156 cs code x r'=true)∧∀ x,l.head? = some x→z156 cs code x r=true
 | 0,_,_,_,_,_,h=>by cases h
 | d+1,[],r,l,_,_,h=>by
  have h:some []=some l:=h
  cases h
  exact ⟨rfl,⟨fun x hx=>(List.not_mem_nil hx).elim,fun x hx=>by simp at hx⟩⟩
 | d+1,a :: t,r,l,hi,hl,h=>by
  have h:(bif z114 cs code (a :: t) r==0 then none else (cutAt (fun u r=>z114 cs code u r) d ((a :: t).drop (z114 cs code (a :: t) r).toNat) 75).map fun l=>(a :: t).take (z114 cs code (a :: t) r).toNat :: l)=some l:=h
  revert h hi hl
  generalize a :: t=u
  intro hi hl h
  obtain ⟨k,hk,hkl⟩:=qqr cs code u r
  have hf:=qby (fun u=>z156 cs code u r) u u.length 0
  have hk':qy (fun u=>z156 cs code u r) u u.length 0=k:=by
   have:((qy (fun u=>z156 cs code u r) u u.length 0:Nat):Int)=k:=hk
   omega
  rw [hk'] at hf
  rw [hk,tn] at h
  by_cases hk0:k=0
  ·subst hk0; cases h
  ·rw [show (((k:Nat):Int)==0)=false from beq_eq_false_iff_ne.2 (by omega)] at h
   simp only [cond_false,Option.map_eq_some_iff] at h
   obtain ⟨z,hz,rfl⟩:=h
   have hfit:=hf.2.2.1 (by omega)
   obtain ⟨h1,h2,_⟩:=qil d _ _ z (qBx hi k) (by rw [List.length_drop]; omega) hz
   refine ⟨by rw [List.flatten_cons,h1,List.take_append_drop],fun x hx=>?_,fun x hx=>?_⟩
   ·rcases List.mem_cons.1 hx with rfl | hx
    ·exact ⟨qDz hi k,by rw [List.length_take]; omega,r,hfit⟩
    ·obtain ⟨j1,j2,j3⟩:=h2 x hx
     rw [List.length_drop] at j2
     exact ⟨j1,by omega,j3⟩
   ·simp only [List.head?_cons,Option.some.injEq] at hx
    subst hx
    exact hfit
theorem qEh {cs code:Int} {s:List UInt8} (h1:1≤cs∧cs≤5) (h2:code=1∨code=2) (h3:0 < s.length) (h4:((qcV code s:Nat):Int)+z17 cs≤75) :
 (z15 cs code s).2=0∧(((z15 cs code s).1.length:Nat):Int)=(qcV code s:Nat)+z17 cs:=by
 have hi:z44 cs=true:=by unfold z44; rw [dT h1.1,dT h1.2]; rfl
 have ho:z17 cs=(((z89 cs).length+7:Nat):Int):=by
  unfold z17
  rw [hi]; rfl
 have he:s.isEmpty=false:=by
  cases s with
  | nil=>cases h3
  | cons=>rfl
 have hlen:(z48 cs code++(bif code==1 then z47 s else z46 s)++[63,61]).length=qcV code s+((z89 cs).length+7):=by
  unfold z48 qcV z47 z46
  have a1:=qrn s
  have a2:=qkF s
  rcases h2 with rfl | rfl
  ·simp [z45,a1]; omega
  ·simp [z45,a2]; omega
 unfold z15
 rw [hi,he,show ((z45 code==[])||false)=false from by rcases h2 with rfl | rfl <;> rfl]
 have hd:decide (75 < (z48 cs code++(bif code==1 then z47 s else z46 s)++[63,61]).length)=false:=dF (by rw [hlen]; omega)
 rw [hd]
 refine ⟨rfl,?_⟩
 show (((z48 cs code++(bif code==1 then z47 s else z46 s)++[63,61]).length:Nat):Int)=_
 rw [hlen,ho]
 omega
theorem qob {cs code:Int} {p:List Int} {r:Int} (h:i32s p=true) (hl:p.length≤1048576) (hf:z156 cs code p r=true) (h1:1≤cs∧cs≤5) (h2:code=1∨code=2) :
 z75 cs code p=((z15 cs code (z76 cs p).1).1,0)∧(((z75 cs code p).1.length:Nat):Int)≤75∧(((z75 cs code p).1.length:Nat):Int)≤r:=by
 obtain ⟨j1,j2,j3,j4⟩:=qEG cs code p r h hl hf
 obtain ⟨k1,_,k3⟩:=qyX j1
 rw [k3] at j3 j4
 have k4:=qrp k1 j2
 obtain ⟨e1,e2⟩:=qEh h1 h2 k4 j3
 have e:z75 cs code p=((z15 cs code (z76 cs p).1).1,0):=by
  unfold z75
  rw [qMz cs p h,k1]
  show z15 cs code (z76 cs p).1=_
  rw [← e1]
 rw [e]
 exact ⟨rfl,by show (((z15 cs code (z76 cs p).1).1.length:Nat):Int)≤75; omega,by show (((z15 cs code (z76 cs p).1).1.length:Nat):Int)≤r; omega⟩
theorem qim {f:List Int→List UInt8×Int}:∀ {l:List (List Int)},(∀ x∈l,(f x).2=0)→qM f l=(l.map fun x=>(f x).1,0)
 | [],_=>rfl
 | p :: l,h=>by
  rw [qaH,h p (by simp),qim (fun x hx=>h x (by simp [hx]))]
  rfl
theorem qOP {cs code:Int} {t:List Int} {rm:Int} (h:i32s t=true) (hl:t.length≤1048576) (h0:(z28 cs code t rm).2=0) :
 (z28 cs code t rm).1.flatten=t∧(∀ x∈(z28 cs code t rm).1,i32s x=true∧x.length≤t.length∧∃ r',z156 cs code x r'=true)∧∀ x,(z28 cs code t rm).1.head? = some x→z156 cs code x rm=true:=by
 unfold z28 at h0 ⊢
 by_cases h1:(z66 cs code t).2=0
 ·rw [bneF h1] at h0 ⊢
  simp only [cond_false] at h0 ⊢
  cases hc:cutAt (fun u r=>z114 cs code u r) (t.length+1) t rm with
  | none=>rw [hc] at h0; cases h0
  | some l=>exact qil _ t rm l h hl hc
 ·rw [bneT h1] at h0
  exact absurd h0 h1
end Go.Av
