import Derived.Test.YtopepdfipgfakaaDoorCuP5
namespace Go.Av
set_option linter.unusedVariables false
set_option linter.unusedSimpArgs false
theorem qrm {t:List Int} (h:i32s t=true) (n:Nat):i32s (t.drop n)=true:=by
 unfold i32s at h ⊢
 rw [List.all_eq_true] at h ⊢
 exact fun c hc=>h c (List.mem_of_mem_drop hc)
theorem qfp {cs code:Int}:∀ (d:Nat) (t:List Int) (r:Int) (l:List (List Int)),i32s t=true→t.length≤1048576→cutAt (fun u r=>z19 cs code u r) d t r=some l →
 l.flatten=t∧(∀ x∈l,i32s x=true∧x.length≤t.length∧∃ r',z29 cs code x r'=true)∧∀ x,l.head? = some x→z29 cs code x r=true
 | 0,_,_,_,_,_,h=>by cases h
 | d+1,[],r,l,_,_,h=>by
  have h:some []=some l:=h
  cases h
  exact ⟨rfl,⟨fun x hx=>(List.not_mem_nil hx).elim,fun x hx=>by simp at hx⟩⟩
 | d+1,a :: t,r,l,hi,hl,h=>by
  have h:(bif z19 cs code (a :: t) r==0 then none else (cutAt (fun u r=>z19 cs code u r) d ((a :: t).drop (z19 cs code (a :: t) r).toNat) 75).map fun l=>(a :: t).take (z19 cs code (a :: t) r).toNat :: l)=some l:=h
  revert h hi hl
  generalize a :: t=u
  intro hi hl h
  obtain ⟨k,hk,hkl⟩:=qkg cs code u r
  have hf:=qbg (fun u=>z29 cs code u r) u u.length 0
  have hk':qy (fun u=>z29 cs code u r) u u.length 0=k:=by
   have:((qy (fun u=>z29 cs code u r) u u.length 0:Nat):Int)=k:=hk
   omega
  rw [hk'] at hf
  rw [hk,tn] at h
  by_cases hk0:k=0
  ·subst hk0; cases h
  ·rw [show (((k:Nat):Int)==0)=false from beq_eq_false_iff_ne.2 (by omega)] at h
   simp only [cond_false,Option.map_eq_some_iff] at h
   obtain ⟨z,hz,rfl⟩:=h
   have hfit:=hf.2.2.1 (by omega)
   obtain ⟨h1,h2,_⟩:=qfp d _ _ z (qrm hi k) (by rw [List.length_drop]; omega) hz
   refine ⟨by rw [List.flatten_cons,h1,List.take_append_drop],fun x hx=>?_,fun x hx=>?_⟩
   ·rcases List.mem_cons.1 hx with rfl | hx
    ·exact ⟨qrM hi k,by rw [List.length_take]; omega,r,hfit⟩
    ·obtain ⟨j1,j2,j3⟩:=h2 x hx
     rw [List.length_drop] at j2
     exact ⟨j1,by omega,j3⟩
   ·simp only [List.head?_cons,Option.some.injEq] at hx
    subst hx
    exact hfit
theorem qzG {cs code:Int} {t:List Int} {rm:Int} (h:i32s t=true) (hl:t.length≤1048576) (h0:(z5 cs code t rm).2=0) :
 (z5 cs code t rm).1.flatten=t∧(∀ x∈(z5 cs code t rm).1,i32s x=true∧x.length≤t.length∧∃ r',z29 cs code x r'=true)∧∀ x,(z5 cs code t rm).1.head? = some x→z29 cs code x rm=true:=by
 unfold z5 at h0 ⊢
 by_cases h1:(z10 cs code t).2=0
 ·rw [bneF h1] at h0 ⊢
  simp only [cond_false] at h0 ⊢
  cases hc:cutAt (fun u r=>z19 cs code u r) (t.length+1) t rm with
  | none=>rw [hc] at h0; cases h0
  | some l=>exact qfp _ t rm l h hl hc
 ·rw [bneT h1] at h0
  exact absurd h0 h1
end Go.Av
