import Derived.Test.YtopepdfipgfakaaGreatDoorEfB2
namespace Go.Av
set_option linter.unusedVariables false
set_option linter.unusedSimpArgs false
def isBit (b:Int):Bool:=b==0||b==1
theorem qHG {b:Int} (h:isBit b=true):b=0∨b=1:=by
 simp only [isBit,Bool.or_eq_true,beq_iff_eq] at h; exact h
def b01:List Int:=[0,1]
theorem in01 {b:Int} (h:isBit b=true):b∈b01:=by rcases qHG h with rfl | rfl <;> decide
def sixOk (l:List Int):Bool:=qar (z150 (z135 (z136 l))).1==l&&(isB64 (z135 (z136 l))&&z135 (z136 l) != 61)
theorem qOU:(b01.all fun a=>b01.all fun b=>b01.all fun c=>b01.all fun d=>b01.all fun e=>b01.all fun f=>sixOk [a,b,c,d,e,f])=true:=by kernel_rfl
theorem qOV (a b c d e f:Int) (h:([a,b,c,d,e,f].all isBit)=true):sixOk [a,b,c,d,e,f]=true:=by
 simp only [List.all_cons,List.all_nil,Bool.and_true,Bool.and_eq_true] at h
 have k:=qOU
 have k1:=List.all_eq_true.1 k a (in01 h.1)
 have k2:=List.all_eq_true.1 k1 b (in01 h.2.1)
 have k3:=List.all_eq_true.1 k2 c (in01 h.2.2.1)
 have k4:=List.all_eq_true.1 k3 d (in01 h.2.2.2.1)
 have k5:=List.all_eq_true.1 k4 e (in01 h.2.2.2.2.1)
 exact List.all_eq_true.1 k5 f (in01 h.2.2.2.2.2)
theorem qms:∀ (n:Nat) (l:List Int),l.length=6*n→l.all isBit=true→bitsB (sixes n l)=l∧(sixes n l).all isB64=true∧(sixes n l).all (fun c=>c != 61)=true∧(sixes n l).length=n
 | 0,l,h,_=>by
  have:l=[]:=List.length_eq_zero_iff.1 (by omega)
  subst this; exact ⟨rfl,rfl,rfl,rfl⟩
 | n+1,l,h,hb=>by
  match l,h with
  | a :: b :: c :: d :: e :: f :: r,h =>
   have h0:([a,b,c,d,e,f].all isBit)=true:=by
    simp only [List.all_cons,Bool.and_eq_true] at hb ⊢
    simp [hb]
   have hr:r.all isBit=true:=by
    simp only [List.all_cons,Bool.and_eq_true] at hb
    exact hb.2.2.2.2.2.2
   have k:=qOV a b c d e f h0
   simp only [sixOk,Bool.and_eq_true,beq_iff_eq] at k
   have ih:=qms n r (by simp only [List.length_cons] at h; omega) hr
   have e0:sixes (n+1) (a :: b :: c :: d :: e :: f :: r)=z135 (z136 [a,b,c,d,e,f]) :: sixes n r:=rfl
   rw [e0]
   refine ⟨?_,?_,?_,?_⟩
   ·show qar _++bitsB _=_
    rw [k.1,ih.1]; rfl
   ·rw [List.all_cons,k.2.1,ih.2.1]; rfl
   ·rw [List.all_cons,k.2.2,ih.2.2.1]; rfl
   ·rw [List.length_cons,ih.2.2.2]
def qDE (x:UInt8):Bool:=oct8 (z136 (qbX x))==x&&(qbX x).all isBit
theorem qMD:((List.range 256).all fun n=>qDE (UInt8.ofNat n))=true:=by kernel_rfl
theorem qEH (x:UInt8):qDE x=true:=by
 have:=qam qMD x.toNat x.toNat_lt
 simpa using this
theorem qza:∀ s:List UInt8,(z134 s).all isBit=true
 | []=>rfl
 | x :: r=>by
  have k:=qEH x
  simp only [qDE,Bool.and_eq_true] at k
  show (qbX x++z134 r).all isBit=true
  rw [List.all_append,k.2,qza r]; rfl
theorem qek:∀ s:List UInt8,(z134 s).length=8*s.length
 | []=>rfl
 | x :: r=>by
  show (qbX x++z134 r).length=_
  rw [List.length_append,qek r]; simp [qbX]; omega
theorem qrq:∀ (s:List UInt8) (z:List Int),octs s.length (z134 s++z)=s
 | [],_=>rfl
 | x :: r,z=>by
  have k:=qEH x
  simp only [qDE,Bool.and_eq_true,beq_iff_eq] at k
  show oct8 (z136 (((qbX x++z134 r)++z).take 8)) :: octs r.length (((qbX x++z134 r)++z).drop 8)=_
  rw [List.append_assoc,show (8:Nat)=(qbX x).length from rfl,List.take_left,List.drop_left,k.1,qrq r z]
theorem qoL:∀ n:Nat,n < 8→z136 (List.replicate n 0)=0:=by decide
theorem qaU (s:List UInt8):bitsB (z90 s)=padTo 6 0 (z134 s)∧(z90 s).all isB64=true∧(z90 s).all (fun c=>c != 61)=true∧6*(z90 s).length=8*s.length+qU (8*s.length) 6:=by
 have hl:(padTo 6 (0:Int) (z134 s)).length=8*s.length+qU (8*s.length) 6:=by
  unfold padTo; rw [List.length_append,List.length_replicate,qek]
 have hm:(8*s.length+qU (8*s.length) 6) % 6=0:=by unfold qU; omega
 have hb:(padTo 6 (0:Int) (z134 s)).all isBit=true:=by
  unfold padTo
  rw [List.all_append,qza s]
  simp [isBit]
 have k:=qms ((padTo 6 (0:Int) (z134 s)).length / 6) _ (by rw [hl]; omega) hb
 refine ⟨k.1,k.2.1,k.2.2.1,?_⟩
 show 6*(sixes _ _).length=_
 rw [k.2.2.2,hl]; omega
theorem qiB (s:List UInt8):z102 (padTo 6 0 (z134 s))=(s,true):=by
 have hl:(padTo 6 (0:Int) (z134 s)).length=8*s.length+qU (8*s.length) 6:=by
  unfold padTo; rw [List.length_append,List.length_replicate,qek]
 have h8:qU (8*s.length) 6 < 8:=by unfold qU; omega
 have hd:(8*s.length+qU (8*s.length) 6) / 8=s.length:=by omega
 unfold z102
 rw [hl,hd]
 have e1:octs s.length (padTo 6 (0:Int) (z134 s))=s:=qrq s _
 have e2:(padTo 6 (0:Int) (z134 s)).drop (s.length*8)=List.replicate (qU (8*s.length) 6) 0:=by
  unfold padTo
  rw [show s.length*8=(z134 s).length by rw [qek]; omega,List.drop_left,qek]
 rw [e1,e2,qoL _ h8]; rfl
theorem qzb (d:List UInt8) (h:d.all (fun c=>c != 61)=true):bodyB d=d:=by
 have hx:∀ x,d.getLast? = some x→x≠61:=by
  intro x hx
  have:=List.mem_of_getLast? hx
  simpa using (List.all_eq_true.1 h) x this
 have:(d.getLast? == some (61:UInt8))=false:=by
  cases hg:d.getLast? with
  | none=>rfl
  | some x=>simpa using hx x hg
 unfold bodyB
 simp only [this,cond_false,bne_self_eq_false,Bool.and_false]
theorem qDF (d:List UInt8) (h:d.all (fun c=>c != 61)=true):bodyB (d++[61])=d:=by
 have hx:∀ x,d.getLast? = some x→x≠61:=by
  intro x hx
  have:=List.mem_of_getLast? hx
  simpa using (List.all_eq_true.1 h) x this
 have:(d.getLast? == some (61:UInt8))=false:=by
  cases hg:d.getLast? with
  | none=>rfl
  | some x=>simpa using hx x hg
 unfold bodyB
 simp [this]
theorem qDG (d:List UInt8):bodyB (d++[61,61])=d:=by
 have e:d++[61,61]=(d++[61])++[(61:UInt8)]:=by simp
 have hne:(d.length != d.length+1)=true:=by simp
 unfold bodyB
 rw [e]
 simp [hne]
theorem qcM (s:List UInt8):∃ k,k≤2∧z49 s=z90 s++List.replicate k 61∧(z49 s).length % 4=0:=by
 have h6:=(qaU s).2.2.2
 have hk:qU (z90 s).length 4≤2:=by unfold qU at h6 ⊢; omega
 refine ⟨qU (z90 s).length 4,hk,rfl,?_⟩
 show (z90 s++List.replicate _ _).length % 4=0
 rw [List.length_append,List.length_replicate]; unfold qU; omega
theorem qHH (s:List UInt8):bodyB (z49 s)=z90 s:=by
 obtain ⟨k,hk,e,_⟩:=qcM s
 have hb:=(qaU s).2.2.1
 rw [e]
 match k,hk with
 | 0,_=>simpa using qzb _ hb
 | 1,_=>exact qDF _ hb
 | 2,_=>exact qDG _
theorem qzc (s:List UInt8):z108 (z47 s)=(s,0):=by
 obtain ⟨k,hk,e,h4⟩:=qcM s
 have hb:=qaU s
 have h4':((z47 s).length % 4 != 0)=false:=by show ((z49 s).length % 4 != 0)=false; rw [h4]; rfl
 have hbody:bodyB (z47 s)=z90 s:=qHH s
 unfold z108
 rw [hbody,hb.2.1,h4',hb.1,qiB s]; rfl
theorem qfz (d:List UInt8) (k:Nat) (h:d.all (fun c=>c != 61)=true):(d++List.replicate k 61).takeWhile (fun c=>c != 61)=d:=by
 induction d with
 | nil=>cases k <;> simp [List.replicate_succ]
 | cons x r ih =>
  simp only [List.all_cons,Bool.and_eq_true] at h
  rw [List.cons_append,List.takeWhile_cons,h.1,if_pos rfl,ih h.2]
theorem qtr (s:List UInt8):z98 (z47 s)=s:=by
 obtain ⟨k,hk,e,h4⟩:=qcM s
 have hb:=qaU s
 have hd:digB (z47 s)=z90 s:=by
  unfold digB
  rw [show z47 s=z90 s++List.replicate k 61 from e,qfz _ _ hb.2.2.1]
  exact List.filter_eq_self.2 (List.all_eq_true.1 hb.2.1)
 show (z102 (bitsB (digB (z47 s)))).1=s
 rw [hd,hb.1,qiB s]
end Go.Av
