import Derived.Test.YtopepdfipgfakaaGreatDoorCuT
namespace Go.Av
set_option linter.unusedVariables false
set_option linter.unusedSimpArgs false
theorem qyt:∀ (x0:Int),(qor x0=true)→∃ n,qvk n x0=qvj (z158 x0):=fun x h=>⟨0,by
 unfold qvk
 rw [show quk x=true from h]
 rfl⟩
theorem qyu:∀ (sets0:Int),(qos sets0=true)→∃ n,qvl n sets0=qmv (z117 sets0):=fun s h=>⟨0,by
 have h':=of_decide_eq_true h
 unfold qvl z117
 cases (s==0) with
 | true=>rfl
 | false =>
  have hw:IntKind.wrap .u64 s=s:=by
   exact IntWalk.u64_in s (by omega)
  rw [hw,show qor s=true from decide_eq_true (by omega)]
  rfl⟩
theorem qyv:∀ (charset0:Int) (t1:List Int),(qot charset0 t1=true)→∃ n,qpa n charset0 t1=qgD (z160 charset0 t1):=fun cs t h=>⟨t.length+1,by
 have hl:=qn (l:=t) h
 unfold qpa z160
 refine qeq (qbd (L:=fun n i=>qgE qgD (qdz (t.length+1)) n cs t i) hl (fun n i hi=>?_) (fun n=>?_) t.length 0 (t.length+1) (by omega) (by omega)) rfl
 ·show qce _ _ _ n _ _ _=_
  unfold qce
  simp (disch:=omega) only [dT,cond_true,Bool.and_true,tn,qr]
  cases z167 cs (t.getD i 0) <;> rfl
 ·show qce _ _ _ n _ _ _=_
  unfold qce
  rw [dF (by omega)]
  rfl⟩
theorem qyw:∀ (charset0:Int) (t1:List Int),(qou charset0 t1=true)→∃ n,qvP n charset0 t1=qje (z119 charset0 t1):=fun cs t h=>⟨0,by
 unfold qvP z119
 rw [show qot cs t=true from h]
 cases decide (1≤cs) <;> cases decide (cs≤5) <;> rfl⟩
theorem qCg:∀ (t0:List Int),(qyo t0=true)→∃ n,qyT n t0=qdA (z73 t0).1 (z73 t0).2:=fun t h=>⟨6,by
 have ha:∀ n,qou n t=true:=fun _=>h
 have step:∀ (k:Nat) (i:Int),i≤5→qjf qdA (qcE 6) (k+1) t i=bif z119 i t then qdA i 0 else qjf qdA (qcE 6) k t (IntKind.wrap .i64 (i+1)):=fun k i hi=>by
  show qen _ _ _ k _ _=_
  unfold qen
  rw [dT hi,ha]
  rfl
 have last:∀ (k:Nat),qjf qdA (qcE 6) (k+1) t 6=qdA 0 7:=fun k=>by
  show qen _ _ _ k _ _=_
  unfold qen
  rw [dF (by omega)]
  rfl
 unfold qyT z73 selF qqO
 rw [step 5 1 (by omega),show IntKind.wrap .i64 (1+1)=2 from rfl,step 4 2 (by omega),show IntKind.wrap .i64 (2+1)=3 from rfl,step 3 3 (by omega),show IntKind.wrap .i64 (3+1)=4 from rfl,step 2 4 (by omega),show IntKind.wrap .i64 (4+1)=5 from rfl,
  step 1 5 (by omega),show IntKind.wrap .i64 (5+1)=6 from rfl,last 0]
 simp only []
 cases z119 1 t <;> cases z119 2 t <;> cases z119 3 t <;> cases z119 4 t <;> cases z119 5 t <;> rfl⟩
theorem qCh:∀ a b c d e:Bool,(bif e then bits .or .i64 (bif d then bits .or .i64 (bif c then bits .or .i64 (bif b then bits .or .i64 (bif a then bits .or .i64 0 2 else 0) 4 else (bif a then bits .or .i64 0 2 else 0)) 8 else (bif b then bits .or .i64 (bif a then bits .or .i64 0 2 else 0) 4 else (bif a then bits .or .i64 0 2 else 0))) 16 else (bif c then bits .or .i64 (bif b then bits .or .i64 (bif a then bits .or .i64 0 2 else 0) 4 else (bif a then bits .or .i64 0 2 else 0)) 8 else (bif b then bits .or .i64 (bif a then bits .or .i64 0 2 else 0) 4 else (bif a then bits .or .i64 0 2 else 0)))) 32 else
 (bif d then bits .or .i64 (bif c then bits .or .i64 (bif b then bits .or .i64 (bif a then bits .or .i64 0 2 else 0) 4 else (bif a then bits .or .i64 0 2 else 0)) 8 else (bif b then bits .or .i64 (bif a then bits .or .i64 0 2 else 0) 4 else (bif a then bits .or .i64 0 2 else 0))) 16 else (bif c then bits .or .i64 (bif b then bits .or .i64 (bif a then bits .or .i64 0 2 else 0) 4 else (bif a then bits .or .i64 0 2 else 0)) 8 else (bif b then bits .or .i64 (bif a then bits .or .i64 0 2 else 0) 4 else (bif a then bits .or .i64 0 2 else 0)))))=maskB a b c d e:=by decide +kernel
theorem qIn:∀ a b c d e a' b' c' d' e':Bool,bits .and .i64 (maskB a b c d e) (maskB a' b' c' d' e')=maskB (a&&a') (b&&b') (c&&c') (d&&d') (e&&e'):=by decide +kernel
theorem qIo:∀ a b c d e:Bool,z117 (maskB a b c d e)=bif a then 1 else bif b then 2 else bif c then 3 else bif d then 4 else bif e then 5 else 0:=by decide +kernel
theorem qCi:∀ a b c d e:Bool,(maskB a b c d e==0) = !(a||b||c||d||e):=by decide +kernel
theorem qKU:∀ a b c d e:Bool,0≤maskB a b c d e∧maskB a b c d e < 64:=by decide +kernel
theorem qyx:∀ (c0:Int),∃ n,qoQ n c0=qmu (z116 c0):=fun c=>⟨6,by
 have w:∀ i:Nat,i < 10→IntKind.wrap .i64 ((i:Int)+1)=((i+1:Nat):Int):=fun i h=>qr (by omega)
 have step:∀ (k i:Nat) (s:Int),i < 5→qdp (qba 6) (k+1) c s (i:Int)=qdp (qba 6) k c (bif z157 ((i+1:Nat):Int) c then bits .or .i64 s (IntKind.wrap .i64 ((1:Int)*2 ^ (min (i+1) (IntKind.bits .i64)))) else s) ((i+1:Nat):Int):=fun k i s hi=>by
  show qca _ _ k _ _ _=_
  unfold qca
  rw [dT (show (i:Int) < 5 by omega),w i (by omega)]
  cases z157 ((i+1:Nat):Int) c with
  | true =>
   rw [dT (show (0:Int)≤((i+1:Nat):Int) by omega),tn]
   rfl
  | false=>rfl
 have last:∀ (k:Nat) (s:Int),qdp (qba 6) (k+1) c s (5:Nat)=qmu s:=fun k s=>by
  show qca _ _ k _ _ _=_
  unfold qca
  rw [dF (by omega)]
  rfl
 unfold qoQ z116 maskF
 rw [show (0:Int)=((0:Nat):Int) from rfl,step 5 0 _ (by omega),step 4 1 _ (by omega),step 3 2 _ (by omega),step 2 3 _ (by omega),step 1 4 _ (by omega),last 0]
 simp only []
 rw [← qCh (z157 1 c) (z157 2 c) (z157 3 c) (z157 4 c) (z157 5 c)]
 rfl⟩
def qov (t:List Int) (a b c d e:Bool):Int:=maskB (a&&t.all (z157 1)) (b&&t.all (z157 2)) (c&&t.all (z157 3)) (d&&t.all (z157 4)) (e&&t.all (z157 5))
theorem qhd (t:List Int) (hl:t.length≤1048576):∀ (d i n:Nat) (a b c x e:Bool),i+d=t.length→d < n →
 qmw (qcz (t.length+1)) n (maskB a b c x e) t ((t.length:Nat):Int) (i:Int)=qcz (t.length+1) (qov (t.drop i) a b c x e)
 | d,i,0,a,b,c,x,e,hi,hn=>by omega
 | 0,i,n+1,a,b,c,x,e,hi,hn=>by
  obtain rfl:i=t.length:=by omega
  show qea _ _ n _ _ _ _=_
  unfold qea
  rw [dF (by omega),List.drop_eq_nil_of_le (Nat.le_refl _)]
  simp [qov]
 | d+1,i,n+1,a,b,c,x,e,hi,hn=>by
  have hlt:i < t.length:=by omega
  show qea _ _ n _ _ _ _=_
  unfold qea
  simp (disch:=omega) only [dT,cond_true,Bool.and_true,tn,qr]
  unfold z116 maskF
  rw [qIn,qhd t hl d (i+1) n _ _ _ _ _ (by omega) (by omega),qah (d:=(0:Int)) hlt]
  unfold qov
  simp only [List.all_cons,Bool.and_assoc]
theorem qCj:∀ (t0:List Int),(qyn t0=true)→∃ n,qyJ n t0=qvm (z71 t0).1 (z71 t0).2:=fun t h=>⟨t.length+1,by
 have hl:=qn (l:=t) h
 unfold qyJ
 have h0:=qhd t hl t.length 0 (t.length+1) true true true true true (by omega) (by omega)
 rw [show maskB true true true true true=62 from rfl] at h0
 refine h0.trans ?_
 unfold qov qcz z71 selF qqO
 simp only [Bool.true_and,List.drop_zero]
 rw [qCi,qIo,show ∀ z,0≤z∧z < 64→qos z=true from fun z hz=>decide_eq_true hz]
 ·cases t.all (z157 1) <;> cases t.all (z157 2) <;> cases t.all (z157 3) <;> cases t.all (z157 4) <;> cases t.all (z157 5) <;> rfl
 ·exact qKU _ _ _ _ _⟩
theorem qkw {p:Int→Bool}:∀ (t:List Int) (i:Nat),decide (qV p t i < 0)=t.all p
 | [],i=>rfl
 | c :: r,i=>by
  rw [show qV p (c :: r) (i:Int)=bif p c then qV p r ((i+1:Nat):Int) else (i:Int) from rfl,List.all_cons]
  cases p c with
  | true=>exact qkw r (i+1)
  | false=>exact dF (by show ¬ (i:Int) < 0; omega)
end Go.Av
