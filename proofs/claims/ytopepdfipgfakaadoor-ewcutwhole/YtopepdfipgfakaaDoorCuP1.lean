import Derived.Test.YtopepdfipgfakaaDoorCuT
namespace Go.Av
set_option linter.unusedVariables false
set_option linter.unusedSimpArgs false
theorem qub:∀ (x0:Int),(qrc x0=true)→∃ n,quN n x0=qsJ (z48 x0):=fun x h=>⟨0,by
 unfold quN
 rw [show qtW x=true from h]
 rfl⟩
theorem quc:∀ (sets0:Int),(qrd sets0=true)→∃ n,quO n sets0=qnX (z31 sets0):=fun s h=>⟨0,by
 have h':=of_decide_eq_true h
 unfold quO z31
 cases (s==0) with
 | true=>rfl
 | false =>
  have hw:IntKind.wrap .u64 s=s:=by
   exact IntWalk.u64_in s (by omega)
  rw [hw,show qrc s=true from decide_eq_true (by omega)]
  rfl⟩
theorem qud:∀ a b c d e:Bool,(bif e then bits .or .i64 (bif d then bits .or .i64 (bif c then bits .or .i64 (bif b then bits .or .i64 (bif a then bits .or .i64 0 2 else 0) 4 else (bif a then bits .or .i64 0 2 else 0)) 8 else (bif b then bits .or .i64 (bif a then bits .or .i64 0 2 else 0) 4 else (bif a then bits .or .i64 0 2 else 0))) 16 else (bif c then bits .or .i64 (bif b then bits .or .i64 (bif a then bits .or .i64 0 2 else 0) 4 else (bif a then bits .or .i64 0 2 else 0)) 8 else (bif b then bits .or .i64 (bif a then bits .or .i64 0 2 else 0) 4 else (bif a then bits .or .i64 0 2 else 0)))) 32 else
 (bif d then bits .or .i64 (bif c then bits .or .i64 (bif b then bits .or .i64 (bif a then bits .or .i64 0 2 else 0) 4 else (bif a then bits .or .i64 0 2 else 0)) 8 else (bif b then bits .or .i64 (bif a then bits .or .i64 0 2 else 0) 4 else (bif a then bits .or .i64 0 2 else 0))) 16 else (bif c then bits .or .i64 (bif b then bits .or .i64 (bif a then bits .or .i64 0 2 else 0) 4 else (bif a then bits .or .i64 0 2 else 0)) 8 else (bif b then bits .or .i64 (bif a then bits .or .i64 0 2 else 0) 4 else (bif a then bits .or .i64 0 2 else 0)))))=maskB a b c d e:=by decide +kernel
theorem qxk:∀ a b c d e a' b' c' d' e':Bool,bits .and .i64 (maskB a b c d e) (maskB a' b' c' d' e')=maskB (a&&a') (b&&b') (c&&c') (d&&d') (e&&e'):=by decide +kernel
theorem qxl:∀ a b c d e:Bool,z31 (maskB a b c d e)=bif a then 1 else bif b then 2 else bif c then 3 else bif d then 4 else bif e then 5 else 0:=by decide +kernel
theorem que:∀ a b c d e:Bool,(maskB a b c d e==0) = !(a||b||c||d||e):=by decide +kernel
theorem qzF:∀ a b c d e:Bool,0≤maskB a b c d e∧maskB a b c d e < 64:=by decide +kernel
theorem quf:∀ (c0:Int),∃ n,qrz n c0=qnW (z30 c0):=fun c=>⟨6,by
 have w:∀ i:Nat,i < 10→IntKind.wrap .i64 ((i:Int)+1)=((i+1:Nat):Int):=fun i h=>qL (by omega)
 have step:∀ (k i:Nat) (s:Int),i < 5→qgk (qca 6) (k+1) c s (i:Int)=qgk (qca 6) k c (bif z47 ((i+1:Nat):Int) c then bits .or .i64 s (IntKind.wrap .i64 ((1:Int)*2 ^ (min (i+1) (IntKind.bits .i64)))) else s) ((i+1:Nat):Int):=fun k i s hi=>by
  show qdn _ _ k _ _ _=_
  unfold qdn
  rw [dT (show (i:Int) < 5 by omega),w i (by omega)]
  cases z47 ((i+1:Nat):Int) c with
  | true =>
   rw [dT (show (0:Int)≤((i+1:Nat):Int) by omega),tn]
   rfl
  | false=>rfl
 have last:∀ (k:Nat) (s:Int),qgk (qca 6) (k+1) c s (5:Nat)=qnW s:=fun k s=>by
  show qdn _ _ k _ _ _=_
  unfold qdn
  rw [dF (by omega)]
  rfl
 unfold qrz z30 maskF
 rw [show (0:Int)=((0:Nat):Int) from rfl,step 5 0 _ (by omega),step 4 1 _ (by omega),step 3 2 _ (by omega),step 2 3 _ (by omega),step 1 4 _ (by omega),last 0]
 simp only []
 rw [← qud (z47 1 c) (z47 2 c) (z47 3 c) (z47 4 c) (z47 5 c)]
 rfl⟩
def qkf (t:List Int) (a b c d e:Bool):Int:=maskB (a&&t.all (z47 1)) (b&&t.all (z47 2)) (c&&t.all (z47 3)) (d&&t.all (z47 4)) (e&&t.all (z47 5))
theorem qfn (t:List Int) (hl:t.length≤1048576):∀ (d i n:Nat) (a b c x e:Bool),i+d=t.length→d < n →
 qiD (qcb (t.length+1)) n (maskB a b c x e) t ((t.length:Nat):Int) (i:Int)=qcb (t.length+1) (qkf (t.drop i) a b c x e)
 | d,i,0,a,b,c,x,e,hi,hn=>by omega
 | 0,i,n+1,a,b,c,x,e,hi,hn=>by
  obtain rfl:i=t.length:=by omega
  show qdo _ _ n _ _ _ _=_
  unfold qdo
  rw [dF (by omega),List.drop_eq_nil_of_le (Nat.le_refl _)]
  simp [qkf]
 | d+1,i,n+1,a,b,c,x,e,hi,hn=>by
  have hlt:i < t.length:=by omega
  show qdo _ _ n _ _ _ _=_
  unfold qdo
  simp (disch:=omega) only [dT,cond_true,Bool.and_true,tn,qL]
  unfold z30 maskF
  rw [qxk,qfn t hl d (i+1) n _ _ _ _ _ (by omega) (by omega),qaX (d:=(0:Int)) hlt]
  unfold qkf
  simp only [List.all_cons,Bool.and_assoc]
theorem qug:∀ (t0:List Int),(qre t0=true)→∃ n,qrA n t0=qnY (z21 t0).1 (z21 t0).2:=fun t h=>⟨t.length+1,by
 have hl:=qw (l:=t) h
 unfold qrA
 have h0:=qfn t hl t.length 0 (t.length+1) true true true true true (by omega) (by omega)
 rw [show maskB true true true true true=62 from rfl] at h0
 refine h0.trans ?_
 unfold qkf qcb z21 selF qtX
 simp only [Bool.true_and,List.drop_zero]
 rw [que,qxl,show ∀ z,0≤z∧z < 64→qrd z=true from fun z hz=>decide_eq_true hz]
 ·cases t.all (z47 1) <;> cases t.all (z47 2) <;> cases t.all (z47 3) <;> cases t.all (z47 4) <;> cases t.all (z47 5) <;> rfl
 ·exact qzF _ _ _ _ _⟩
end Go.Av
