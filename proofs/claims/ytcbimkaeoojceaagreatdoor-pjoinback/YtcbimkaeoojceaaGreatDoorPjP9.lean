import Derived.Test.YtcbimkaeoojceaaGreatDoorPjP8
namespace Go.Av
set_option linter.unusedSimpArgs false
set_option linter.unusedVariables false
theorem qJn:∀ i:Fin 256,(z130 ((qZ (UInt8.ofNat i.val)).getD 0 0) ((qZ (UInt8.ofNat i.val)).getD 1 0)==(UInt8.ofNat i.val,true))=true:=by decide +kernel
theorem qRI:z77 37 256=false:=by decide +kernel
theorem qOx (c:UInt8) (r:LU):pctS 0 (oneC c++r)=c :: pctS 0 r:=by
 unfold oneC
 by_cases h:z77 c 256=true
 ·rw [h,yc];have hc:(c==37)=false:=by
   rw [yB];intro e;rw [e,qRI] at h;cases h
  show pctS 0 (c :: r)=_;rw [qhs];have:z113 (c :: r) 0 37=(0,false):=by
   unfold z113 qwQ;rw [show List.getD (c :: r) (Int.toNat 0) 0=c from rfl,hc];cases decide ((0:Int)≤0)&&decide ((0:Int)≤(((c :: r).length:Nat):Int) - 3) <;> rfl
  rw [this];rfl
 ·have h':z77 c 256=false:=by cases e:z77 c 256 with | true=>exact absurd e h | false=>rfl
  rw [h',yd];show pctS 0 (37 :: (qZ c++r))=_;have hb:qZ c=[(qZ c).getD 0 0,(qZ c).getD 1 0]:=rfl;have hp:=qlU (P:=fun c=>(z130 ((qZ c).getD 0 0) ((qZ c).getD 1 0)==(c,true))=true) qJn c;have ht:z113 (37 :: (qZ c++r)) 0 37=(c,true):=by
   unfold z113 qwQ;rw [hb];have hl:(0:Int)≤(((37 :: ([(qZ c).getD 0 0,(qZ c).getD 1 0]++r):LU).length:Nat):Int) - 3:=by simp; omega
   rw [dT hl,dT (Int.le_refl 0)];exact eq_of_beq hp
  rw [qhs,ht,qhr 2];rfl
theorem qzf:∀ (s r:LU),pctS 0 (s.flatMap oneC++r)=s++pctS 0 r
 | [],r=>rfl
 | c :: s,r=>by rw [List.flatMap_cons,yl,qOx,qzf s r]; rfl
theorem qpt (s:LU):z68 (s.flatMap oneC)=s:=by
 have:=qzf s [];rw [yG,show pctS 0 []=[] from rfl,yG] at this;exact this
theorem qOy (n:Int):chN 39 (qe n)=none:=by
 unfold qe z90;cases (n==(1:Int)) <;> cases (n==(2:Int)) <;> cases (n==(3:Int)) <;> cases (n==(4:Int)) <;> cases (n==(5:Int)) <;> decide +kernel
theorem qOz {x:UInt8}:∀ {a:LU} (r:LU),chN x a=none→chN x (a++x :: r)=some a.length
 | [],r,_=>by unfold chN; rw [List.nil_append]; simp [chN]
 | c :: a,r,h=>by
  unfold chN at h;cases e:c==x with
  | true=>rw [e] at h; cases h
  | false =>
   rw [e,yd] at h;have h':chN x a=none:=Option.map_eq_none_iff.1 h;show (bif c==x then some 0 else (chN x (a++x :: r)).map (· + 1))=_;rw [e,qOz r h'];rfl
theorem qGw (n:Int) (u:LU):z46 ((qe n++[39,39])++u)=(qe n,(u,true)):=by
 have e:(qe n++[39,39])++u=qe n++39 :: (39 :: u):=by rw [yl]; rfl
 have hd:(qe n++39 :: (39 :: u)).drop ((qe n).length+1)=39 :: u:=by rw [← List.drop_drop,List.drop_left' rfl]; rfl
 unfold z46;rw [e,qOz _ (qOy n)];simp only [hd,show chN 39 (39 :: u)=some 0 from rfl];rw [List.take_left' rfl];rfl
theorem qiD (n:Int) (h:1≤n∧n≤5):z47 (qe n)=(n,0):=by
 obtain rfl | rfl | rfl | rfl | rfl:n=1∨n=2∨n=3∨n=4∨n=5:=by omega
 all_goals decide +kernel
theorem qGx {p:Int→Bool} (h:(selF p).2=0):(1≤(selF p).1∧(selF p).1≤5)∧p (selF p).1=true:=by
 unfold selF qtX at h ⊢;cases h1:p 1 with
 | true=>simp [h1]
 | false =>
  cases h2:p 2 with
  | true=>simp [h1,h2]
  | false =>
   cases h3:p 3 with
   | true=>simp [h1,h2,h3]
   | false =>
    cases h4:p 4 with
    | true=>simp [h1,h2,h3,h4]
    | false =>
     cases h5:p 5 with
     | true=>simp [h1,h2,h3,h4,h5]
     | false =>
      rw [h1,h2,h3,h4,h5] at h;cases h
theorem qpu {cs:Int} {t:LI} (h1:1≤cs∧cs≤5) (h:t.all (z83 cs)=true):z39 cs t=(t.flatMap (z62 cs),0):=by
 have h':cs=1∨cs=2∨cs=3∨cs=4∨cs=5:=by omega
 unfold z39;rw [dF (show ¬ cs < 1 by omega),dF (show ¬ 5 < cs by omega),qvp (q:=z83 cs) (fun c _=>qlW h'),h];rfl
structure TextG (cs:Int) (t:LI):Prop where
 range:1≤cs∧cs≤5
 back:z50 cs (t.flatMap (z62 cs))=t
 units:qH cs t=t.map fun c=>(z62 cs c).flatMap oneC
 ne:∀ c∈t,z62 cs c≠[]
theorem qJo {t:LI} (h:i32s t=true) (h0:(qc t).2=0):TextG (qc t).1 t:=by
 have h1:1≤(qc t).1∧(qc t).1≤5:=(qGx h0).1;have h2:t.all (qap (qc t).1)=true:=(qGx h0).2;have h3:t.all (z83 (qc t).1)=true:=by
  rw [qvp (q:=qap (qc t).1) (fun c hc=>(qKP _ (qch h hc)).symm)];exact h2
 have hl:=qpu h1 h3;refine ⟨h1,?_,?_,fun c hc e=>?_⟩
 ·have:=qnF (cs:=(qc t).1) t h1 (by rw [hl]);rw [hl] at this;exact this
 ·unfold qH;refine List.map_congr_left fun c hc=>?_;unfold unitL qtv;have hi:i32s [c]=true:=by
   have:=qch h hc;unfold i32s;rw [List.all_cons,dT this]; rfl
  rw [qOU _ _ hi,qpu h1 (by rw [List.all_cons,List.all_eq_true.1 h3 c hc]; rfl)];simp
 ·have h4:=List.all_eq_true.1 h3 c hc;rw [← qlW (by omega),e] at h4;cases h4
theorem qnC (cs:Int):∀ t:LI,(t.map fun c=>(z62 cs c).flatMap oneC).flatten=(t.flatMap (z62 cs)).flatMap oneC
 | []=>rfl
 | c :: t=>by rw [yI,List.flatten_cons,List.flatMap_cons,List.flatMap_append,qnC cs t]
theorem qOA:∀ i:Fin 128,UInt8.ofNat i.val=UInt8.ofNat (IntKind.wrap .u8 ((i.val:Nat):Int)).toNat:=by decide +kernel
theorem qRJ (s:LU):z50 5 s=z51 s:=rfl
theorem has5 (c:Int):z83 5 c=z21 c:=rfl
theorem octs5 {c:Int} (h:z21 c=true):z62 5 c=z87 c:=by
 unfold z62;rw [has5,h];rfl
theorem qJp {c:Int} (h:32≤c∧c≤126):z21 c=true:=by
 unfold z21 z34;rw [dT (by omega:(0:Int)≤c),dT (by omega:c≤1114111),dF (by omega:¬ (55296:Int)≤c),Bool.false_and];rfl
theorem qOB {c:Int} (h:32≤c∧c≤126):z62 5 c=[UInt8.ofNat (IntKind.wrap .u8 c).toNat]:=by
 obtain ⟨k,rfl⟩:∃ k:Nat,c=(k:Int):=⟨c.toNat,by omega⟩;rw [octs5 (qJp h),qzk (qJp h) (by omega),qOA ⟨k,by omega⟩]
theorem qvd {t:LI} (h:qai t=true):z51 (qA t).1=t:=by
 have hp:=qtr h;have h3:t.all (z83 5)=true:=by
  rw [List.all_eq_true];intro c hc;rw [has5];exact qJp (hp c hc)
 have hl:=qpu (cs:=5) (by omega) h3;have:=qnF (cs:=5) t (by omega) (by rw [hl]);rw [hl,qRJ] at this;rw [qkd h];have e:t.flatMap (z62 5)=t.map fun c=>UInt8.ofNat (IntKind.wrap .u8 c).toNat:=by
  rw [← qgt];exact qbm fun c hc=>qOB (hp c hc)
 rw [e] at this;exact this
theorem qsK (F:LU):z19 F F=true:=by rw [qEv]; exact beq_self_eq_true _
def qOC (F:LU) (l:List qi):Prop:=∀ p∈l,p.1=F
theorem qzg {F:LU} (hF:z28 F=F) {l:List qi} (hn:qOC F l) (hl:l≠[]) (hu:usedP l F≠[]):z14 l=[(F,(z30 (pickP l (usedP l F)),()))]:=by
 have hmet:∀ r:List qi,(∀ p∈r,p.1=F)→joinF l r [F]=[]:=fun r=>by
  induction r with
  | nil=>intro _; rfl
  | cons q r ih =>
   intro h;unfold joinF;rw [h q List.mem_cons_self,hF,show ([F]:List LU).contains F=true from by simp];exact ih fun p hp=>h p (List.mem_cons_of_mem _ hp)
 cases l with
 | nil=>exact absurd rfl hl
 | cons p r =>
  show joinF (p :: r) (p :: r) []=_;unfold joinF;rw [hn p List.mem_cons_self,hF,hmet r fun q hq=>hn q (List.mem_cons_of_mem _ hq)];have:(usedP (p :: r) F).isEmpty=false:=by
   cases e:usedP (p :: r) F with
   | nil=>exact absurd e hu
   | cons _ _=>rfl
  rw [this];rfl
theorem qnD {F:LU} {f:qi→Bool}:∀ {l:List qi},(∀ p∈l,f p=false)→qu F f l=none
 | [],_=>rfl
 | p :: l,h=>by
  unfold qu;rw [h p List.mem_cons_self,Bool.and_false,qnD fun q hq=>h q (List.mem_cons_of_mem _ hq)];rfl
def qan (F:LU) (vs:List LU):List qi:=(List.range vs.length).map fun k:Nat=>(F,((k:Int),(true,(vs.getD k [],()))))
theorem qjL (F:LU) (vs:List LU) {k:Nat} (h:k < vs.length):(qan F vs)[k]? = some (F,((k:Int),(true,(vs.getD k [],())))):=by
 unfold qan;rw [List.getElem?_map,List.getElem?_range h];rfl
theorem qbc (F:LU) (vs:List LU):(qan F vs).length=vs.length:=by unfold qan; rw [yP,List.length_range]
theorem qjM {F:LU}:∀ (m n a:Nat) (g:Nat→LU),qu F (numP (n:Int)) ((List.range' a m).map fun k:Nat=>(F,((k:Int),(true,(g k,())))))=bif decide (a≤n)&&decide (n < a+m) then some (n - a) else none
 | 0,n,a,g=>by
  have:(decide (a≤n)&&decide (n < a+0))=false:=by
   by_cases h:a≤n
   ·rw [dF (by omega:¬ n < a+0),Bool.and_false]
   ·rw [dF h,Bool.false_and]
  rw [this]; rfl
 | m+1,n,a,g=>by
  rw [List.range'_succ,yI];unfold qu;rw [qsK,y6,qjM m n (a+1) g];unfold numP
  by_cases h:a=n
  ·subst h;rw [beq_self_eq_true,dT (yv a),dT (by omega:a < a+(m+1)),Nat.sub_self]; rfl
  ·rw [beq_eq_false_iff_ne.2 (by omega:((a:Nat):Int)≠(n:Int)),yd]
   by_cases h1:a≤n∧n < a+(m+1)
   ·rw [dT (by omega:a+1≤n),dT (by omega:n < a+1+m),dT h1.1,dT h1.2];simp only [yi,yc,yU];congr 1; omega
   ·have e1:(decide (a+1≤n)&&decide (n < a+1+m))=false:=by
     by_cases h2:a+1≤n
     ·rw [dF (by omega:¬ n < a+1+m),Bool.and_false]
     ·rw [dF h2,Bool.false_and]
    have e2:(decide (a≤n)&&decide (n < a+(m+1)))=false:=by
     by_cases h2:a≤n
     ·rw [dF (by omega:¬ n < a+(m+1)),Bool.and_false]
     ·rw [dF h2,Bool.false_and]
    rw [e1,e2]; rfl
theorem qgF (F:LU) (vs:List LU):∀ (k n:Nat),vs.length < n+k→n≤vs.length→numsP (qan F vs) F k (n:Int)=(List.range' n (vs.length - n)).map fun i:Nat=>(i:Int)
 | 0,n,h,h2=>by omega
 | k+1,n,h,h2=>by
  have hp:=qjM (F:=F) vs.length n 0 fun k=>vs.getD k [];rw [← List.range_eq_range'] at hp;unfold numsP;rw [show qu F (numP (n:Int)) (qan F vs)=_ from hp]
  by_cases hn:n < vs.length
  ·rw [dT (by omega:0≤n),dT (by omega:n < 0+vs.length)];simp only [yi,yc,Nat.sub_zero];rw [show (n:Int)+1=((n+1:Nat):Int) from rfl,qgF F vs k (n+1) (by omega) (by omega)];rw [show vs.length - n=(vs.length - (n+1))+1 by omega,List.range'_succ,yI]
  ·have hn':n=vs.length:=by omega
   subst hn';rw [dF (by omega:¬ vs.length < 0+vs.length),Bool.and_false,Nat.sub_self];rfl
theorem qJq (l:List qi):pickP l ((List.range l.length).map fun i=>((i:Nat):Int))=l:=by
 unfold pickP;rw [List.map_map];apply List.ext_getElem?
 intro i;rw [List.getElem?_map]
 by_cases h:i < l.length
 ·rw [List.getElem?_range h,yO h];simp only [yU,Function.comp_apply,tn];rw [show (([]:LU),((0:Int),(false,(([]:LU),()))))=par0 from rfl,qeU h]
 ·rw [yW (by rw [List.length_range]; omega),yW (by omega)];rfl
theorem qnE (F:LU) (vs:List LU) (h0:0 < vs.length) (h1:vs.length≤1000):usedP (qan F vs) F=(List.range (qan F vs).length).map fun i=>((i:Nat):Int):=by
 have he:qu F extP (qan F vs)=none:=qnD fun p hp=>by
  obtain ⟨k,_,rfl⟩:=List.mem_map.1 hp;unfold extP;rw [beq_eq_false_iff_ne.2 (by omega:((k:Nat):Int) ≠ -1)]; rfl
 have hn:=qgF F vs 1001 0 (by omega) (by omega);rw [Nat.sub_zero,← List.range_eq_range'] at hn;unfold usedP;rw [he,qbc];simp only;rw [show numsP (qan F vs) F 1001 0=_ from hn];cases e:(List.range vs.length).map fun i=>((i:Nat):Int) with
 | nil =>
  have:=congrArg List.length e;rw [yP,List.length_range,List.length_nil] at this;omega
 | cons x xs=>cases qu F qaX (qan F vs) <;> rfl
end Go.Av
