import Derived.Test.YtopepdfipgfakaaGreatDoorEfB2
namespace Go.Av
set_option linter.unusedVariables false
set_option linter.unusedSimpArgs false
def isBit (b:Int):Bool:=b==0||b==1
theorem qDL {b:Int} (h:isBit b=true):b=0∨b=1:=by
 simp only [isBit,Bool.or_eq_true,beq_iff_eq] at h; exact h
def b01:List Int:=[0,1]
theorem in01 {b:Int} (h:isBit b=true):b∈b01:=by rcases qDL h with rfl | rfl <;> decide
def sixOk (l:List Int):Bool:=qcn (z150 (z135 (z136 l))).1==l&&(isB64 (z135 (z136 l))&&z135 (z136 l) != 61)
theorem qLf:(b01.all fun a=>b01.all fun b=>b01.all fun c=>b01.all fun d=>b01.all fun e=>b01.all fun f=>sixOk [a,b,c,d,e,f])=true:=by kernel_rfl
theorem qLg (a b c d e f:Int) (h:([a,b,c,d,e,f].all isBit)=true):sixOk [a,b,c,d,e,f]=true:=by
 simp only [List.all_cons,List.all_nil,Bool.and_true,Bool.and_eq_true] at h
 have k:=qLf
 have k1:=List.all_eq_true.1 k a (in01 h.1)
 have k2:=List.all_eq_true.1 k1 b (in01 h.2.1)
 have k3:=List.all_eq_true.1 k2 c (in01 h.2.2.1)
 have k4:=List.all_eq_true.1 k3 d (in01 h.2.2.2.1)
 have k5:=List.all_eq_true.1 k4 e (in01 h.2.2.2.2.1)
 exact List.all_eq_true.1 k5 f (in01 h.2.2.2.2.2)
theorem qkQ:∀ (n:Nat) (l:List Int),l.length=6*n→l.all isBit=true→bitsB (sixes n l)=l∧(sixes n l).all isB64=true∧(sixes n l).all (fun c=>c != 61)=true∧(sixes n l).length=n
 | 0,l,h,_=>by
  have:l=[]:=List.length_eq_zero_iff.1 (by omega)
  subst this; exact ⟨rfl,rfl,rfl,rfl⟩
 | n+1,l,h,hb=>by
  match l,h with
  | a :: b :: c :: d :: e :: f :: r,h =>
   have h0:([a,b,c,d,e,f].all isBit)=true:=by
    simp only [List.all_cons,Bool.and_eq_true] at hb ⊢
    simp [hb]
   have hr:r.all isBit=true:=by
    simp only [List.all_cons,Bool.and_eq_true] at hb
    exact hb.2.2.2.2.2.2
   have k:=qLg a b c d e f h0
   simp only [sixOk,Bool.and_eq_true,beq_iff_eq] at k
   have ih:=qkQ n r (by simp only [List.length_cons] at h; omega) hr
   have e0:sixes (n+1) (a :: b :: c :: d :: e :: f :: r)=z135 (z136 [a,b,c,d,e,f]) :: sixes n r:=rfl
   rw [e0]
   refine ⟨?_,?_,?_,?_⟩
   ·show qcn _++bitsB _=_
    rw [k.1,ih.1]; rfl
   ·rw [List.all_cons,k.2.1,ih.2.1]; rfl
   ·rw [List.all_cons,k.2.2,ih.2.2.1]; rfl
   ·rw [List.length_cons,ih.2.2.2]
def qDM (x:UInt8):Bool:=oct8 (z136 (qbC x))==x&&(qbC x).all isBit
theorem qIH:((List.range 256).all fun n=>qDM (UInt8.ofNat n))=true:=by kernel_rfl
theorem qII (x:UInt8):qDM x=true:=by
 have:=qag qIH x.toNat x.toNat_lt
 simpa using this
theorem qwl:∀ s:List UInt8,(z134 s).all isBit=true
 | []=>rfl
 | x :: r=>by
  have k:=qII x
  simp only [qDM,Bool.and_eq_true] at k
  show (qbC x++z134 r).all isBit=true
  rw [List.all_append,k.2,qwl r]; rfl
theorem qpo:∀ s:List UInt8,(z134 s).length=8*s.length
 | []=>rfl
 | x :: r=>by
  show (qbC x++z134 r).length=_
  rw [List.length_append,qpo r]; simp [qbC]; omega
theorem qjk (s:List UInt8):bitsB (z90 s)=padTo 6 0 (z134 s)∧(z90 s).all isB64=true∧(z90 s).all (fun c=>c != 61)=true∧6*(z90 s).length=8*s.length+qL (8*s.length) 6:=by
 have hl:(padTo 6 (0:Int) (z134 s)).length=8*s.length+qL (8*s.length) 6:=by
  unfold padTo; rw [List.length_append,List.length_replicate,qpo]
 have hm:(8*s.length+qL (8*s.length) 6) % 6=0:=by unfold qL; omega
 have hb:(padTo 6 (0:Int) (z134 s)).all isBit=true:=by
  unfold padTo
  rw [List.all_append,qwl s]
  simp [isBit]
 have k:=qkQ ((padTo 6 (0:Int) (z134 s)).length / 6) _ (by rw [hl]; omega) hb
 refine ⟨k.1,k.2.1,k.2.2.1,?_⟩
 show 6*(sixes _ _).length=_
 rw [k.2.2.2,hl]; omega
theorem qAt (s:List UInt8):∃ k,k≤2∧z49 s=z90 s++List.replicate k 61∧(z49 s).length % 4=0:=by
 have h6:=(qjk s).2.2.2
 have hk:qL (z90 s).length 4≤2:=by unfold qL at h6 ⊢; omega
 refine ⟨qL (z90 s).length 4,hk,rfl,?_⟩
 show (z90 s++List.replicate _ _).length % 4=0
 rw [List.length_append,List.length_replicate]; unfold qL; omega
end Go.Av
