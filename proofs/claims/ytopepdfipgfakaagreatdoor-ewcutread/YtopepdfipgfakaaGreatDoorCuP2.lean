import Derived.Test.YtopepdfipgfakaaGreatDoorCuP1
namespace Go.Av
set_option linter.unusedVariables false
set_option linter.unusedSimpArgs false
theorem qqr (cs code:Int) (t:List Int) (rm:Int):∃ k:Nat,z114 cs code t rm=k∧k≤t.length:=by
 refine ⟨_,rfl,?_⟩
 have:=(qby (fun u=>z156 cs code u rm) t t.length 0).2.1
 omega
theorem qgW {σ:Type} (f:σ→List Int→Bool×Bool×σ) (d:Nat) (x:σ) {t:List Int} (ht:t≠[]) (cs code rm:Int):qaq f (d+1) x t cs code rm =
 bif (f x (t.take (z114 cs code t rm).toNat)).1 then
  bif (f x (t.take (z114 cs code t rm).toNat)).2.1&&(z114 cs code t rm != 0) then
   qaq f d (f x (t.take (z114 cs code t rm).toNat)).2.2 (t.drop (z114 cs code t rm).toNat) cs code 75
  else (true,(f x (t.take (z114 cs code t rm).toNat)).2.2,t,cs,code,rm)
 else (false,x,t,cs,code,rm):=by
 cases t with
 | nil=>exact absurd rfl ht
 | cons a t=>rfl
theorem qBr (k:Nat) (t:List Int):List.drop (Int.toNat ((0:Nat):Int)) (List.take (Int.toNat (k:Int)) t)=t.take k:=by simp
theorem qBs (k:Nat) (t:List Int):List.drop (Int.toNat (k:Int)) (List.take (Int.toNat ((t.length:Nat):Int)) t)=t.drop k:=by simp
theorem qik (V:Sigma Inv) (m:Nat):∀ (d n:Nat) (x:Den V.1) (t:List Int) (cs code rm:Int),t.length≤1048576→d≤n→(qaq (fun x a0=>V.2.spec x [⟨(.sl (.int .i32)),a0⟩]) d x t cs code rm).1=true →
 (qhD V) (qeV V) ((qeh V) m) n x t cs code rm=qeV V (qaq (fun x a0=>V.2.spec x [⟨(.sl (.int .i32)),a0⟩]) d x t cs code rm).2.1
  (qaq (fun x a0=>V.2.spec x [⟨(.sl (.int .i32)),a0⟩]) d x t cs code rm).2.2.1 (qaq (fun x a0=>V.2.spec x [⟨(.sl (.int .i32)),a0⟩]) d x t cs code rm).2.2.2.1
  (qaq (fun x a0=>V.2.spec x [⟨(.sl (.int .i32)),a0⟩]) d x t cs code rm).2.2.2.2.1 (qaq (fun x a0=>V.2.spec x [⟨(.sl (.int .i32)),a0⟩]) d x t cs code rm).2.2.2.2.2
 | 0,n,x,t,cs,code,rm,hl,hn,h=>by cases h
 | d+1,0,x,t,cs,code,rm,hl,hn,h=>by omega
 | d+1,n+1,x,[],cs,code,rm,hl,hn,h=>by rfl
 | d+1,n+1,x,a :: t,cs,code,rm,hl,hn,h=>by
  have ht:a :: t≠[]:=by simp
  revert h hl
  generalize a :: t=l at ht
  intro hl h
  have h0:0 < l.length:=List.length_pos_iff.2 ht
  rw [qgW _ _ _ ht] at h ⊢
  obtain ⟨k,hk,hkl⟩:=qqr cs code l rm
  rw [hk] at h ⊢
  show (qfO V) _ _ _ n _ _ _ _ _=_
  unfold qfO
  rw [show qqn cs code l rm=true from qr hl,hk]
  rw [qBr,qBs,tn] at *
  simp (disch:=omega) only [dT,cond_true,Bool.and_true]
  cases hf:(V.2.spec x [⟨(.sl (.int .i32)),l.take k⟩]).1 with
  | false=>rw [hf] at h; cases h
  | true =>
   rw [hf] at h
   simp only [cond_true] at h ⊢
   cases hg:(V.2.spec x [⟨(.sl (.int .i32)),l.take k⟩]).2.1 with
   | false=>rfl
   | true =>
    rw [hg] at h
    simp only [Bool.true_and,Bool.not_true,cond_false] at h ⊢
    by_cases hk0:k=0
    ·subst hk0
     rfl
    ·rw [show (((k:Nat):Int) != 0)=true from bne_iff_ne.2 (by omega)] at h ⊢
     rw [show (((k:Nat):Int)==0)=false from beq_eq_false_iff_ne.2 (by omega)]
     simp only [cond_true,cond_false] at h ⊢
     exact qik V m d n _ _ cs code 75 (by rw [List.length_drop]; omega) (by omega) h
theorem qBt (V:Sigma Inv):∀ (x0:Den V.1) (x1:List Int) (x2:Int) (x3:Int) (x4:Int),(z113 (fun x a0=>V.2.spec x [⟨(.sl (.int .i32)),a0⟩]) x0 x1 x2 x3 x4).1=true→∃ n,qyh V n x0 x1 x2 x3 x4=qeV V (z113 (fun x a0=>V.2.spec x [⟨(.sl (.int .i32)),a0⟩]) x0 x1 x2 x3 x4).2.1 (z113 (fun x a0=>V.2.spec x [⟨(.sl (.int .i32)),a0⟩]) x0 x1 x2 x3 x4).2.2.1 (z113 (fun x a0=>V.2.spec x [⟨(.sl (.int .i32)),a0⟩]) x0 x1 x2 x3 x4).2.2.2.1 (z113 (fun x a0=>V.2.spec x [⟨(.sl (.int .i32)),a0⟩]) x0 x1 x2 x3 x4).2.2.2.2.1 (z113 (fun x a0=>V.2.spec x [⟨(.sl (.int .i32)),a0⟩]) x0 x1 x2 x3 x4).2.2.2.2.2:=fun x t cs code rm h=>⟨t.length+1,by
 unfold z113 at h ⊢
 cases hl:lenOk t with
 | false=>rw [hl] at h; cases h
 | true =>
  rw [hl] at h
  exact qik V (t.length+1) (t.length+1) (t.length+1) x t cs code rm (qh hl) (Nat.le_refl _) h⟩
end Go.Av
