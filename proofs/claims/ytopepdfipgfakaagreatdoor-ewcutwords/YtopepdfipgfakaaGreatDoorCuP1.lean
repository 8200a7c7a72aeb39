import Derived.Test.YtopepdfipgfakaaGreatDoorCuT
namespace Go.Av
set_option linter.unusedVariables false
set_option linter.unusedSimpArgs false
theorem qzp:∀ (x0:Int),(qoV x0=true)→∃ n,qwd n x0=qwc (z158 x0):=fun x h=>⟨0,by
 unfold qwd
 rw [show qvb x=true from h]
 rfl⟩
theorem qzq:∀ (sets0:Int),(qoW sets0=true)→∃ n,qwe n sets0=qmO (z117 sets0):=fun s h=>⟨0,by
 have h':=of_decide_eq_true h
 unfold qwe z117
 cases (s==0) with
 | true=>rfl
 | false =>
  have hw:IntKind.wrap .u64 s=s:=by
   exact IntWalk.u64_in s (by omega)
  rw [hw,show qoV s=true from decide_eq_true (by omega)]
  rfl⟩
theorem qzr:∀ (charset0:Int) (t1:List Int),(qoX charset0 t1=true)→∃ n,qpK n charset0 t1=qgM (z160 charset0 t1):=fun cs t h=>⟨t.length+1,by
 have hl:=qp (l:=t) h
 unfold qpK z160
 refine qew (qbg (L:=fun n i=>qgN qgM (qdD (t.length+1)) n cs t i) hl (fun n i hi=>?_) (fun n=>?_) t.length 0 (t.length+1) (by omega) (by omega)) rfl
 ·show qch _ _ _ n _ _ _=_
  unfold qch
  simp (disch:=omega) only [dT,cond_true,Bool.and_true,tn,qo]
  cases z167 cs (t.getD i 0) <;> rfl
 ·show qch _ _ _ n _ _ _=_
  unfold qch
  rw [dF (by omega)]
  rfl⟩
theorem qzs:∀ (charset0:Int) (t1:List Int),(qoY charset0 t1=true)→∃ n,qwI n charset0 t1=qjt (z119 charset0 t1):=fun cs t h=>⟨0,by
 unfold qwI z119
 rw [show qoX cs t=true from h]
 cases decide (1≤cs) <;> cases decide (cs≤5) <;> rfl⟩
theorem qCZ:∀ (t0:List Int),(qzh t0=true)→∃ n,qzL n t0=qdE (z73 t0).1 (z73 t0).2:=fun t h=>⟨6,by
 have ha:∀ n,qoY n t=true:=fun _=>h
 have step:∀ (k:Nat) (i:Int),i≤5→qju qdE (qcH 6) (k+1) t i=bif z119 i t then qdE i 0 else qju qdE (qcH 6) k t (IntKind.wrap .i64 (i+1)):=fun k i hi=>by
  show qes _ _ _ k _ _=_
  unfold qes
  rw [dT hi,ha]
  rfl
 have last:∀ (k:Nat),qju qdE (qcH 6) (k+1) t 6=qdE 0 7:=fun k=>by
  show qes _ _ _ k _ _=_
  unfold qes
  rw [dF (by omega)]
  rfl
 unfold qzL z73 selF qrE
 rw [step 5 1 (by omega),show IntKind.wrap .i64 (1+1)=2 from rfl,step 4 2 (by omega),show IntKind.wrap .i64 (2+1)=3 from rfl,step 3 3 (by omega),show IntKind.wrap .i64 (3+1)=4 from rfl,step 2 4 (by omega),show IntKind.wrap .i64 (4+1)=5 from rfl,
  step 1 5 (by omega),show IntKind.wrap .i64 (5+1)=6 from rfl,last 0]
 simp only []
 cases z119 1 t <;> cases z119 2 t <;> cases z119 3 t <;> cases z119 4 t <;> cases z119 5 t <;> rfl⟩
theorem qDa:∀ a b c d e:Bool,(bif e then bits .or .i64 (bif d then bits .or .i64 (bif c then bits .or .i64 (bif b then bits .or .i64 (bif a then bits .or .i64 0 2 else 0) 4 else (bif a then bits .or .i64 0 2 else 0)) 8 else (bif b then bits .or .i64 (bif a then bits .or .i64 0 2 else 0) 4 else (bif a then bits .or .i64 0 2 else 0))) 16 else (bif c then bits .or .i64 (bif b then bits .or .i64 (bif a then bits .or .i64 0 2 else 0) 4 else (bif a then bits .or .i64 0 2 else 0)) 8 else (bif b then bits .or .i64 (bif a then bits .or .i64 0 2 else 0) 4 else (bif a then bits .or .i64 0 2 else 0)))) 32 else
 (bif d then bits .or .i64 (bif c then bits .or .i64 (bif b then bits .or .i64 (bif a then bits .or .i64 0 2 else 0) 4 else (bif a then bits .or .i64 0 2 else 0)) 8 else (bif b then bits .or .i64 (bif a then bits .or .i64 0 2 else 0) 4 else (bif a then bits .or .i64 0 2 else 0))) 16 else (bif c then bits .or .i64 (bif b then bits .or .i64 (bif a then bits .or .i64 0 2 else 0) 4 else (bif a then bits .or .i64 0 2 else 0)) 8 else (bif b then bits .or .i64 (bif a then bits .or .i64 0 2 else 0) 4 else (bif a then bits .or .i64 0 2 else 0)))))=maskB a b c d e:=by decide +kernel
theorem qJj:∀ a b c d e a' b' c' d' e':Bool,bits .and .i64 (maskB a b c d e) (maskB a' b' c' d' e')=maskB (a&&a') (b&&b') (c&&c') (d&&d') (e&&e'):=by decide +kernel
theorem qJk:∀ a b c d e:Bool,z117 (maskB a b c d e)=bif a then 1 else bif b then 2 else bif c then 3 else bif d then 4 else bif e then 5 else 0:=by decide +kernel
theorem qDb:∀ a b c d e:Bool,(maskB a b c d e==0) = !(a||b||c||d||e):=by decide +kernel
theorem qLU:∀ a b c d e:Bool,0≤maskB a b c d e∧maskB a b c d e < 64:=by decide +kernel
theorem qzt:∀ (c0:Int),∃ n,qpA n c0=qmN (z116 c0):=fun c=>⟨6,by
 have w:∀ i:Nat,i < 10→IntKind.wrap .i64 ((i:Int)+1)=((i+1:Nat):Int):=fun i h=>qo (by omega)
 have step:∀ (k i:Nat) (s:Int),i < 5→qdt (qbd 6) (k+1) c s (i:Int)=qdt (qbd 6) k c (bif z157 ((i+1:Nat):Int) c then bits .or .i64 s (IntKind.wrap .i64 ((1:Int)*2 ^ (min (i+1) (IntKind.bits .i64)))) else s) ((i+1:Nat):Int):=fun k i s hi=>by
  show qcd _ _ k _ _ _=_
  unfold qcd
  rw [dT (show (i:Int) < 5 by omega),w i (by omega)]
  cases z157 ((i+1:Nat):Int) c with
  | true =>
   rw [dT (show (0:Int)≤((i+1:Nat):Int) by omega),tn]
   rfl
  | false=>rfl
 have last:∀ (k:Nat) (s:Int),qdt (qbd 6) (k+1) c s (5:Nat)=qmN s:=fun k s=>by
  show qcd _ _ k _ _ _=_
  unfold qcd
  rw [dF (by omega)]
  rfl
 unfold qpA z116 maskF
 rw [show (0:Int)=((0:Nat):Int) from rfl,step 5 0 _ (by omega),step 4 1 _ (by omega),step 3 2 _ (by omega),step 2 3 _ (by omega),step 1 4 _ (by omega),last 0]
 simp only []
 rw [← qDa (z157 1 c) (z157 2 c) (z157 3 c) (z157 4 c) (z157 5 c)]
 rfl⟩
def qoZ (t:List Int) (a b c d e:Bool):Int:=maskB (a&&t.all (z157 1)) (b&&t.all (z157 2)) (c&&t.all (z157 3)) (d&&t.all (z157 4)) (e&&t.all (z157 5))
theorem qhm (t:List Int) (hl:t.length≤1048576):∀ (d i n:Nat) (a b c x e:Bool),i+d=t.length→d < n →
 qmP (qcC (t.length+1)) n (maskB a b c x e) t ((t.length:Nat):Int) (i:Int)=qcC (t.length+1) (qoZ (t.drop i) a b c x e)
 | d,i,0,a,b,c,x,e,hi,hn=>by omega
 | 0,i,n+1,a,b,c,x,e,hi,hn=>by
  obtain rfl:i=t.length:=by omega
  show qef _ _ n _ _ _ _=_
  unfold qef
  rw [dF (by omega),List.drop_eq_nil_of_le (Nat.le_refl _)]
  simp [qoZ]
 | d+1,i,n+1,a,b,c,x,e,hi,hn=>by
  have hlt:i < t.length:=by omega
  show qef _ _ n _ _ _ _=_
  unfold qef
  simp (disch:=omega) only [dT,cond_true,Bool.and_true,tn,qo]
  unfold z116 maskF
  rw [qJj,qhm t hl d (i+1) n _ _ _ _ _ (by omega) (by omega),qZ (d:=(0:Int)) hlt]
  unfold qoZ
  simp only [List.all_cons,Bool.and_assoc]
theorem qDc:∀ (t0:List Int),(qzg t0=true)→∃ n,qzB n t0=qwf (z71 t0).1 (z71 t0).2:=fun t h=>⟨t.length+1,by
 have hl:=qp (l:=t) h
 unfold qzB
 have h0:=qhm t hl t.length 0 (t.length+1) true true true true true (by omega) (by omega)
 rw [show maskB true true true true true=62 from rfl] at h0
 refine h0.trans ?_
 unfold qoZ qcC z71 selF qrE
 simp only [Bool.true_and,List.drop_zero]
 rw [qDb,qJk,show ∀ z,0≤z∧z < 64→qoW z=true from fun z hz=>decide_eq_true hz]
 ·cases t.all (z157 1) <;> cases t.all (z157 2) <;> cases t.all (z157 3) <;> cases t.all (z157 4) <;> cases t.all (z157 5) <;> rfl
 ·exact qLU _ _ _ _ _⟩
theorem qkP {p:Int→Bool}:∀ (t:List Int) (i:Nat),decide (qV p t i < 0)=t.all p
 | [],i=>rfl
 | c :: r,i=>by
  rw [show qV p (c :: r) (i:Int)=bif p c then qV p r ((i+1:Nat):Int) else (i:Int) from rfl,List.all_cons]
  cases p c with
  | true=>exact qkP r (i+1)
  | false=>exact dF (by show ¬ (i:Int) < 0; omega)
end Go.Av
