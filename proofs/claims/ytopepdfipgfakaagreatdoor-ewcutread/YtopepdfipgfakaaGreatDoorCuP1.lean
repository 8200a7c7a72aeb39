import Derived.Test.YtopepdfipgfakaaGreatDoorCuT
namespace Go.Av
set_option linter.unusedVariables false
set_option linter.unusedSimpArgs false
theorem qBo:∀ (x0:Int),(qqo x0=true)→∃ n,qyj n x0=qyi (z158 x0):=fun x h=>⟨0,by
 unfold qyj
 rw [show qwP x=true from h]
 rfl⟩
theorem qBp:∀ (sets0:Int),(qqp sets0=true)→∃ n,qyk n sets0=qor (z117 sets0):=fun s h=>⟨0,by
 have h':=of_decide_eq_true h
 unfold qyk z117
 cases (s==0) with
 | true=>rfl
 | false =>
  have hw:IntKind.wrap .u64 s=s:=by
   exact IntWalk.u64_in s (by omega)
  rw [hw,show qqo s=true from decide_eq_true (by omega)]
  rfl⟩
theorem qFI:∀ a b c d e:Bool,(bif e then bits .or .i64 (bif d then bits .or .i64 (bif c then bits .or .i64 (bif b then bits .or .i64 (bif a then bits .or .i64 0 2 else 0) 4 else (bif a then bits .or .i64 0 2 else 0)) 8 else (bif b then bits .or .i64 (bif a then bits .or .i64 0 2 else 0) 4 else (bif a then bits .or .i64 0 2 else 0))) 16 else (bif c then bits .or .i64 (bif b then bits .or .i64 (bif a then bits .or .i64 0 2 else 0) 4 else (bif a then bits .or .i64 0 2 else 0)) 8 else (bif b then bits .or .i64 (bif a then bits .or .i64 0 2 else 0) 4 else (bif a then bits .or .i64 0 2 else 0)))) 32 else
 (bif d then bits .or .i64 (bif c then bits .or .i64 (bif b then bits .or .i64 (bif a then bits .or .i64 0 2 else 0) 4 else (bif a then bits .or .i64 0 2 else 0)) 8 else (bif b then bits .or .i64 (bif a then bits .or .i64 0 2 else 0) 4 else (bif a then bits .or .i64 0 2 else 0))) 16 else (bif c then bits .or .i64 (bif b then bits .or .i64 (bif a then bits .or .i64 0 2 else 0) 4 else (bif a then bits .or .i64 0 2 else 0)) 8 else (bif b then bits .or .i64 (bif a then bits .or .i64 0 2 else 0) 4 else (bif a then bits .or .i64 0 2 else 0)))))=maskB a b c d e:=by decide +kernel
theorem qMc:∀ a b c d e a' b' c' d' e':Bool,bits .and .i64 (maskB a b c d e) (maskB a' b' c' d' e')=maskB (a&&a') (b&&b') (c&&c') (d&&d') (e&&e'):=by decide +kernel
theorem qMd:∀ a b c d e:Bool,z117 (maskB a b c d e)=bif a then 1 else bif b then 2 else bif c then 3 else bif d then 4 else bif e then 5 else 0:=by decide +kernel
theorem qFJ:∀ a b c d e:Bool,(maskB a b c d e==0) = !(a||b||c||d||e):=by decide +kernel
theorem qON:∀ a b c d e:Bool,0≤maskB a b c d e∧maskB a b c d e < 64:=by decide +kernel
theorem qBq:∀ (c0:Int),∃ n,qqY n c0=qoq (z116 c0):=fun c=>⟨6,by
 have w:∀ i:Nat,i < 10→IntKind.wrap .i64 ((i:Int)+1)=((i+1:Nat):Int):=fun i h=>qk (by omega)
 have step:∀ (k i:Nat) (s:Int),i < 5→qei (qbx 6) (k+1) c s (i:Int)=qei (qbx 6) k c (bif z157 ((i+1:Nat):Int) c then bits .or .i64 s (IntKind.wrap .i64 ((1:Int)*2 ^ (min (i+1) (IntKind.bits .i64)))) else s) ((i+1:Nat):Int):=fun k i s hi=>by
  show qcK _ _ k _ _ _=_
  unfold qcK
  rw [dT (show (i:Int) < 5 by omega),w i (by omega)]
  cases z157 ((i+1:Nat):Int) c with
  | true =>
   rw [dT (show (0:Int)≤((i+1:Nat):Int) by omega),tn]
   rfl
  | false=>rfl
 have last:∀ (k:Nat) (s:Int),qei (qbx 6) (k+1) c s (5:Nat)=qoq s:=fun k s=>by
  show qcK _ _ k _ _ _=_
  unfold qcK
  rw [dF (by omega)]
  rfl
 unfold qqY z116 maskF
 rw [show (0:Int)=((0:Nat):Int) from rfl,step 5 0 _ (by omega),step 4 1 _ (by omega),step 3 2 _ (by omega),step 2 3 _ (by omega),step 1 4 _ (by omega),last 0]
 simp only []
 rw [← qFI (z157 1 c) (z157 2 c) (z157 3 c) (z157 4 c) (z157 5 c)]
 rfl⟩
def qqq (t:List Int) (a b c d e:Bool):Int:=maskB (a&&t.all (z157 1)) (b&&t.all (z157 2)) (c&&t.all (z157 3)) (d&&t.all (z157 4)) (e&&t.all (z157 5))
theorem qij (t:List Int) (hl:t.length≤1048576):∀ (d i n:Nat) (a b c x e:Bool),i+d=t.length→d < n →
 qos (qdm (t.length+1)) n (maskB a b c x e) t ((t.length:Nat):Int) (i:Int)=qdm (t.length+1) (qqq (t.drop i) a b c x e)
 | d,i,0,a,b,c,x,e,hi,hn=>by omega
 | 0,i,n+1,a,b,c,x,e,hi,hn=>by
  obtain rfl:i=t.length:=by omega
  show qeW _ _ n _ _ _ _=_
  unfold qeW
  rw [dF (by omega),List.drop_eq_nil_of_le (Nat.le_refl _)]
  simp [qqq]
 | d+1,i,n+1,a,b,c,x,e,hi,hn=>by
  have hlt:i < t.length:=by omega
  show qeW _ _ n _ _ _ _=_
  unfold qeW
  simp (disch:=omega) only [dT,cond_true,Bool.and_true,tn,qk]
  unfold z116 maskF
  rw [qMc,qij t hl d (i+1) n _ _ _ _ _ (by omega) (by omega),qV (d:=(0:Int)) hlt]
  unfold qqq
  simp only [List.all_cons,Bool.and_assoc]
theorem qFK:∀ (t0:List Int),(qBk t0=true)→∃ n,qBP n t0=qyl (z71 t0).1 (z71 t0).2:=fun t h=>⟨t.length+1,by
 have hl:=qh (l:=t) h
 unfold qBP
 have h0:=qij t hl t.length 0 (t.length+1) true true true true true (by omega) (by omega)
 rw [show maskB true true true true true=62 from rfl] at h0
 refine h0.trans ?_
 unfold qqq qdm z71 selF qBj
 simp only [Bool.true_and,List.drop_zero]
 rw [qFJ,qMd,show ∀ z,0≤z∧z < 64→qqp z=true from fun z hz=>decide_eq_true hz]
 ·cases t.all (z157 1) <;> cases t.all (z157 2) <;> cases t.all (z157 3) <;> cases t.all (z157 4) <;> cases t.all (z157 5) <;> rfl
 ·exact qON _ _ _ _ _⟩
end Go.Av
