import Derived.Test.YtmdadpepccbpcaaGreatDoorPoP
namespace Go.Av
set_option linter.unusedSimpArgs false
set_option linter.unusedVariables false
section
open List (getD)
open UInt8 (ofNat)
variable {x:UInt8} {r cur v out:LU} {b soft:Bool}
variable (m0:Int)
def softB:LU:=[61,13,10]
def occ:LU→Nat
 | []=>0
 | x :: r=>(bif softB.isPrefixOf (x :: r) then 1 else 0)+occ r
theorem qsE (r:LU) (h:x≠13∧x≠10):brk (x :: r)=0:=by
 show (bif x==13 then _ else bif x==10 then 1 else 0)=0;rw[show (x==13)=false by simpa using h.1,show (x==10)=false by simpa using h.2];rfl
theorem qDS (h:brk (x :: r)=0):brksS 0 (x :: r)=x :: brksS 0 r:=by
 rw[show brksS 0 (x :: r)=(match brk (x :: r) with | 0=>x :: brksS 0 r | k+1=>13 :: 10 :: brksS k r) from rfl,h]
theorem qkv {k:Nat} (h:brk (x :: r)=k+1):brksS 0 (x :: r)=13 :: 10 :: brksS k r:=by
 rw[show brksS 0 (x :: r)=(match brk (x :: r) with | 0=>x :: brksS 0 r | k+1=>13 :: 10 :: brksS k r) from rfl,h]
def qgm (a:LU):Bool:=match a.getLast? with | none=>true | some c=>(c != 61)&&(c != 13)
theorem qyw:∀ i:Fin 256,∀ e:Bool,(occ (unitQ (ofNat i.val) e)=0∧(unitQ (ofNat i.val) e).count 10=0)∧qgm (unitQ (ofNat i.val) e)=true:=by decide +kernel
theorem qmH (c:UInt8) (e:Bool):(occ (unitQ c e)=0∧(unitQ c e).count 10=0)∧qgm (unitQ c e)=true:=qic (P:=fun c=>∀ e:Bool,(occ (unitQ c e)=0∧(unitQ c e).count 10=0)∧qgm (unitQ c e)=true) qyw c e
theorem qeU (a:LU) {b:LU} (hb:b≠[]) (h:qgm b=true):qgm (a++b)=true:=by
 unfold qgm at h ⊢;have e:(a++b).getLast? = b.getLast? := by
  rw[List.getLast?_append];cases hl:b.getLast? with
  | none=>exact absurd (List.getLast?_eq_none_iff.1 hl) hb
  | some c=>rfl
 rw[e];exact h
theorem qrh (h:(x :: r).getLast? ≠ some 13):r.getLast? ≠ some 13:=by
 cases r with
 | nil=>simp
 | cons y r=>rwa[List.getLast?_cons_cons] at h
theorem qdE:∀ (a c:LU) (Ls:List LU) (cur b:LU),qM c a=Ls++[cur]→a.getLast? ≠ some 13→qM c (a++b)=Ls++qM cur b
 | [],c,Ls,cur,b,h,_=>by
  rw[qeR] at h;cases Ls with
  | nil=>simp only[List.nil_append,List.cons.injEq,and_true] at h;rw[h];rfl
  | cons y Ls=>simp at h
 | [x],c,Ls,cur,b,h,hl=>by
  have hx:x≠13:=fun e=>hl (by rw[e];rfl);rw[qag,if_neg (fun hh=>hx hh.1)] at h;show qM c (x :: b)=_;rw[qag,if_neg (fun hh=>hx hh.1)];exact qdE [] (c++[x]) Ls cur b h (by simp)
 | x :: y :: r,c,Ls,cur,b,h,hl=>by
  have hl':=qrh hl;rw[qag] at h;show qM c (x :: (y :: r++b))=_;rw[qag]
  by_cases hc:x=13∧(y :: r).head? = some 10
  ·rw[if_pos hc] at h;rw[if_pos (show x=13∧(y :: r++b).head? = some 10 from hc)];have hne:=qgH r [];cases Ls with
   | nil =>
    have h':c :: qM [] r=[cur]:=h;simp only[List.cons.injEq] at h';exact absurd h'.2 hne
   | cons z Ls =>
    have h':c :: qM [] r=z :: (Ls++[cur]):=h;simp only[List.cons.injEq] at h';show c :: qM [] (r++b)=z :: (Ls++qM cur b);rw[qdE r [] Ls cur b h'.2 (qrh hl'),h'.1]
  ·rw[if_neg hc] at h;rw[if_neg (show ¬ (x=13∧(y :: r++b).head? = some 10) from hc)];exact qdE (y :: r) (c++[x]) Ls cur b h hl'
theorem qjd:∀ (u c:LU),(∀ x∈u,x≠13)→qM c u=[c++u]
 | [],c,_=>by rw[qeR,yG]
 | x :: r,c,h=>by
  rw[qag,if_neg (fun hh=>h x (by simp) hh.1),qjd r (c++[x]) (fun y hy=>h y (by simp[hy])),yl];rfl
theorem qmI (c:LU):qM c [13,10]=[c,[]]:=by
 rw[qag,if_pos ⟨rfl,rfl⟩];rfl
theorem qyx (c:LU):qM c [61,13,10]=[c++[61],[]]:=by
 rw[qag,if_neg (fun h=>absurd h.1 (by decide)),qmI]
theorem qyy:∀ i:Fin 256,(z199 (getD hexD ((ofNat i.val).toNat / 16) 0) (getD hexD ((ofNat i.val).toNat % 16) 0)).2=true∧z146 (z219 (ofNat i.val))=true ∧
 (z144 (getD hexD ((ofNat i.val).toNat / 16) 0) 6=true∧z144 (getD hexD ((ofNat i.val).toNat % 16) 0) 6=true)∧(getD hexD ((ofNat i.val).toNat / 16) 0==61)=false∧(getD hexD ((ofNat i.val).toNat % 16) 0==61)=false:=by decide +kernel
theorem qMD (c:UInt8):(z199 (getD hexD (c.toNat / 16) 0) (getD hexD (c.toNat % 16) 0)).2=true∧z146 (z219 c)=true ∧
 (z144 (getD hexD (c.toNat / 16) 0) 6=true∧z144 (getD hexD (c.toNat % 16) 0) 6=true)∧(getD hexD (c.toNat / 16) 0==61)=false∧(getD hexD (c.toNat % 16) 0==61)=false :=
 qic (P:=fun c=>(z199 (getD hexD (c.toNat / 16) 0) (getD hexD (c.toNat % 16) 0)).2=true∧z146 (z219 c)=true ∧
  (z144 (getD hexD (c.toNat / 16) 0) 6=true∧z144 (getD hexD (c.toNat % 16) 0) 6=true)∧(getD hexD (c.toNat / 16) 0==61)=false∧(getD hexD (c.toNat % 16) 0==61)=false) qyy c
theorem qkw (h6:z144 x 6=true) (h61:(x==61)=false) (b:LU):qdY (x :: b)=qdY b:=by
 rw[qfM,h6,h61];rfl
theorem qje:∀ i:Fin 256,∀ e:Bool,(((ofNat i.val != 61)&&z144 (ofNat i.val) 4)||(!e&&z144 (ofNat i.val) 2))=true→z144 (ofNat i.val) 6=true∧(ofNat i.val==61)=false:=by decide +kernel
theorem qyz (c:UInt8) (e:Bool) (b:LU):qdY (unitQ c e++b)=qdY b:=by
 unfold unitQ;cases hc:(((c != 61)&&z144 c 4)||(!e&&z144 c 2)) with
 | true =>
  obtain⟨h1,h2⟩:=qic (P:=fun c=>∀ e:Bool,(((c != 61)&&z144 c 4)||(!e&&z144 c 2))=true→z144 c 6=true∧(c==61)=false) qje c e hc;exact qkw h1 h2 b
 | false =>
  obtain⟨h1,h2,⟨h3,h4⟩,h5,h6⟩:=qMD c;show qdY (61 :: (getD hexD (c.toNat / 16) 0 :: getD hexD (c.toNat % 16) 0 :: b))=_;rw[qfM,qkw h3 h5,qkw h4 h6];have hT:z145 (61 :: (getD hexD (c.toNat / 16) 0 :: getD hexD (c.toNat % 16) 0 :: b)) 0 61=z199 (getD hexD (c.toNat / 16) 0) (getD hexD (c.toNat % 16) 0):=by
   unfold z145;rw[dT (show (0:Int)≤0 by omega),dT (by simp only[yg];omega)];rfl
  rw[hT,h1,show (getD hexD (c.toNat / 16) 0 :: getD hexD (c.toNat % 16) 0 :: b).take 2=z219 c from rfl,h2];rfl
theorem qsF:∀ i:Fin 256,qaf (unitQ (ofNat i.val) true)=false∧(∀ e:Bool,∀ x∈unitQ (ofNat i.val) e,x≠13):=by decide +kernel
theorem qpb (c:UInt8):qaf (unitQ c true)=false∧(∀ e:Bool,∀ x∈unitQ c e,x≠13):=qic (P:=fun c=>qaf (unitQ c true)=false∧(∀ e:Bool,∀ x∈unitQ c e,x≠13)) qsF c
theorem qdg (a:LU) {b:LU} (hb:b≠[]):qaf (a++b)=qaf b:=by
 unfold qaf;rw[List.getLast?_append];cases hl:b.getLast? with
 | none=>exact absurd (List.getLast?_eq_none_iff.1 hl) hb
 | some c=>rfl
theorem qkx {a:LU} (h:qgm a=true):a.getLast? ≠ some 13:=fun e=>by
 unfold qgm at h;rw[e] at h;exact absurd h (by decide)
def Inv18 (p:Page) (b:Bool):Prop:=∃ Ls cur,qM [] p.1=Ls++[cur]∧(∀ x∈Ls,x.length≤76∧z83 x=true)∧(cur.length:Int)=p.2.1∧p.2.1≤75∧(∀ t,qdY (cur++t)=qdY t)∧qgm p.1=true∧(b=true→qaf cur=false)
theorem qyA {p:Page} (h:Inv18 p b) (hb:soft=true∨b=true):Inv18 (pEnd p soft) true:=by
 obtain⟨Ls,cur,h1,h2,h3,h4,h5,h6,h7⟩:=h;have hr:∀ t,qdY (([]:LU)++t)=qdY t:=fun _=>rfl;cases soft with
 | true =>
  refine⟨Ls++[cur++[61]],[],?_,?_,rfl,by show (0:Int)≤75;omega,hr,qeU _ (by simp) (by decide),fun _=>rfl⟩
  ·show qM [] (p.1++[61,13,10])=_;rw[qdE p.1 [] Ls cur _ h1 (qkx h6),qyx,yl];rfl
  ·intro x hx;rw[List.mem_append,List.mem_singleton] at hx;rcases hx with hx | rfl
   ·exact h2 x hx
   ·refine⟨by rw[yn,List.length_singleton];omega,?_⟩;unfold z83;rw[h5,qdg cur (by simp)];decide
 | false =>
  have hb':b=true:=hb.resolve_left (by decide);refine⟨Ls++[cur],[],?_,?_,rfl,by show (0:Int)≤75;omega,hr,qeU _ (by simp) (by decide),fun _=>rfl⟩
  ·show qM [] (p.1++[13,10])=_;rw[qdE p.1 [] Ls cur _ h1 (qkx h6),qmI,yl];rfl
  ·intro x hx;rw[List.mem_append,List.mem_singleton] at hx;rcases hx with hx | rfl
   ·exact h2 x hx
   ·refine⟨by omega,?_⟩;unfold z83;have:=h5 [];rw[yG] at this;rw[this,h7 hb'];rfl
theorem qME {p:Page} (h:Inv18 p b) (c:UInt8) (e:Bool):Inv18 (pPut p (unitQ c e)) e:=by
 have key:∀ (q:Page) (b:Bool),Inv18 q b→q.2.1+((unitQ c e).length:Nat)≤75→Inv18 (q.1++unitQ c e,(q.2.1+((unitQ c e).length:Nat),())) e:=fun q b ⟨Ls,cur,h1,h2,h3,h4,h5,h6,_⟩ hle=>by
  have hne:unitQ c e≠[]:=by have:=(qkr c e).2;intro hh;rw[hh] at this;cases this
  refine⟨Ls,cur++unitQ c e,?_,h2,?_,hle,fun t=>?_,qeU _ hne (qmH c e).2,fun he=>?_⟩
  ·show qM [] (q.1++unitQ c e)=_;rw[qdE q.1 [] Ls cur _ h1 (qkx h6),qjd _ _ ((qpb c).2 e)]
  ·show (((cur++unitQ c e).length:Nat):Int)=q.2.1+_;rw[yn];omega
  ·rw[yl,h5,qyz]
  ·subst he;rw[qdg cur hne];exact(qpb c).1
 unfold pPut
 by_cases h75:75 < p.2.1+(((unitQ c e).length:Nat):Int)
 ·rw[dT h75];have hu:=(qkr c e).1;exact key (pEnd p true) true (qyA h (.inl rfl)) (by show (0:Int)+_≤75;omega)
 ·rw[dF h75];exact key p b h (by omega)
theorem qyB {p:Page} (h:Inv18 p true):Inv18 p b:=by
 obtain⟨Ls,cur,h1,h2,h3,h4,h5,h6,h7⟩:=h;exact⟨Ls,cur,h1,h2,h3,h4,h5,h6,fun _=>h7 rfl⟩
theorem qri:∀ (s:LU) (k:Nat) (p:Page),Inv18 p (decide (0 < brk (s.drop k)))→∃ b,Inv18 (layS k s p) b
 | [],0,p,h=>⟨_,h⟩
 | [],k+1,p,h=>⟨_,h⟩
 | x :: r,k+1,p,h=>qri r k p h
 | x :: r,0,p,h=>by
  have h':Inv18 p (decide (0 < brk (x :: r))):=h;cases hb:brk (x :: r) with
  | zero =>
   rw[show layS 0 (x :: r) p=(match brk (x :: r) with | 0=>layS 0 r (pPut p (unitQ x (decide (0 < brk r)))) | k+1=>layS k r (pEnd p false)) from rfl,hb];exact qri r 0 _ (qME h' x _)
  | succ k =>
   rw[show layS 0 (x :: r) p=(match brk (x :: r) with | 0=>layS 0 r (pPut p (unitQ x (decide (0 < brk r)))) | k+1=>layS k r (pEnd p false)) from rfl,hb];rw[hb,dT (by omega)] at h';exact qri r k _ (qyB (qyA h' (.inr rfl)))
theorem qrj:∀ l:List LU,(∀ x∈l,x.length≤76∧z83 x=true)→qoo l true=0
 | [],_=>rfl
 | x :: l,h=>by
  rw[qiY x l true (fun _=>rfl),dF (by have:=(h x (by simp)).1;omega),(h x (by simp)).2];exact qrj l fun y hy=>h y (by simp[hy])
theorem qmJ {q:Page} (h:Inv18 q b) (h0:q.2.1=0):z38 q.1=0:=by
 obtain⟨Ls,cur,h1,h2,h3,_⟩:=h;have hc:cur=[]:=yF (by omega);subst hc;unfold z38 z102;rw[h1,qgb,if_pos rfl];exact qrj Ls h2
theorem qDT:Inv18 ([],(0,())) true:=⟨[],[],rfl,(fun x hx=>by cases hx),rfl,by show (0:Int)≤75;omega,fun _=>rfl,rfl,fun _=>rfl⟩
theorem qDU (s:LU):z38 (z62 s)=0:=by
 obtain⟨b,h⟩:=qri s 0 ([],(0,())) (qyB qDT);unfold z62 pDone
 by_cases hp:0 < (layS 0 s ([],(0,()))).2.1
 ·rw[dT hp];exact qmJ (qyA h (.inl rfl)) rfl
 ·rw[dF hp];refine qmJ h ?_;obtain⟨_,cur,_,_,h3,_⟩:=h;omega
def qky (s:LU):Nat:=qea (qat false [] s)
theorem qDV (h:(x==61)=false):(z145 (x :: r) 0 61).2=false:=by
 unfold z145;cases decide ((0:Int)≤0)&&decide ((0:Int)≤((x :: r).length:Int) - 3)
 ·rfl
 ·show (qlp (x :: r) 0 61).2=false;unfold qlp;rw[show ((x :: r).getD 0 0==61)=false from h];rfl
theorem qyC {p:UInt8→Bool} {l:LU} (h:∀ c,l.getLast? = some c→p c=false):dropR p l=l:=by
 rcases List.eq_nil_or_concat l with rfl | ⟨t,x,rfl⟩
 ·rfl
 ·rw[List.concat_eq_append] at h ⊢;rw[qib,h x (by simp)];rfl
theorem qpc:∀ i:Fin 256,z199 (getD hexD ((ofNat i.val).toNat / 16) 0) (getD hexD ((ofNat i.val).toNat % 16) 0)=(ofNat i.val,true):=by decide +kernel
theorem qDW (c:UInt8):z199 (getD hexD (c.toNat / 16) 0) (getD hexD (c.toNat % 16) 0)=(c,true):=qic (P:=fun c=>z199 (getD hexD (c.toNat / 16) 0) (getD hexD (c.toNat % 16) 0)=(c,true)) qpc c
theorem qyD (c:UInt8) (e:Bool) (t:LU):qz 0 (unitQ c e++t)=(c :: (qz 0 t).1,(qz 0 t).2):=by
 unfold unitQ;cases hc:(((c != 61)&&z144 c 4)||(!e&&z144 c 2)) with
 | true =>
  obtain⟨_,h2⟩:=qic (P:=fun c=>∀ e:Bool,(((c != 61)&&z144 c 4)||(!e&&z144 c 2))=true→z144 c 6=true∧(c==61)=false) qje c e hc;show (bif (z145 (c :: t) 0 61).2 then _ else (c :: (qz 0 t).1,(qz 0 t).2+(bif c==61 then 1 else 0)):LU×Nat)=_;rw[qDV h2,yd,h2];rfl
 | false =>
  have hT:z145 (61 :: (getD hexD (c.toNat / 16) 0 :: getD hexD (c.toNat % 16) 0 :: t)) 0 61=z199 (getD hexD (c.toNat / 16) 0) (getD hexD (c.toNat % 16) 0):=by
   unfold z145;rw[dT (show (0:Int)≤0 by omega),dT (by simp only[yg];omega)];rfl
  show qz 0 (61 :: (getD hexD (c.toNat / 16) 0 :: getD hexD (c.toNat % 16) 0 :: t))=_;have e1:qz 0 (61 :: (getD hexD (c.toNat / 16) 0 :: getD hexD (c.toNat % 16) 0 :: t))=(bif (z145 (61 :: (getD hexD (c.toNat / 16) 0 :: getD hexD (c.toNat % 16) 0 :: t)) 0 61).2 then
   ((z145 (61 :: (getD hexD (c.toNat / 16) 0 :: getD hexD (c.toNat % 16) 0 :: t)) 0 61).1 :: (qz 2 (getD hexD (c.toNat / 16) 0 :: getD hexD (c.toNat % 16) 0 :: t)).1,(qz 2 (getD hexD (c.toNat / 16) 0 :: getD hexD (c.toNat % 16) 0 :: t)).2)
   else (61 :: (qz 0 (getD hexD (c.toNat / 16) 0 :: getD hexD (c.toNat % 16) 0 :: t)).1,(qz 0 (getD hexD (c.toNat / 16) 0 :: getD hexD (c.toNat % 16) 0 :: t)).2+(bif (61:UInt8)==61 then 1 else 0))):=rfl
  rw[e1,hT,qDW];rfl
theorem qkz:∀ i:Fin 256,∀ e:Bool,(unitQ (ofNat i.val) e).all (fun c => !(isBrk c))=true:=by decide +kernel
theorem qyE (c:UInt8) (e:Bool):(unitQ c e).all (fun c => !(isBrk c))=true:=qic (P:=fun c=>∀ e:Bool,(unitQ c e).all (fun c => !(isBrk c))=true) qkz c e
theorem qfN:∀ (u cur t:LU),u.all (fun c => !(isBrk c))=true→qat false cur (u++t)=qat false (cur++u) t
 | [],cur,t,_=>by rw[yG];rfl
 | x :: r,cur,t,h=>by
  rw[List.all_cons,yf,Bool.not_eq_true'] at h;show (bif isBrk x then _ else qat false (cur++[x]) (r++t))=_;rw[h.1,yd,qfN r _ t h.2,yl];rfl
theorem qmK (cur t:LU):qat false cur ([13,10]++t)=(cur,[13,10]) :: qat false [] t:=rfl
theorem qmL (cur t:LU):qat false cur ([61,13,10]++t)=(cur++[61],[13,10]) :: qat false [] t:=rfl
def Inv19 (p:Page) (b:Bool) (out:LU):Prop:=∃ pre cur v,out=pre++v∧(∀ t,(qat false [] (p.1++t)).flatMap qck=pre++(qat false cur t).flatMap qck) ∧
 (∀ t,qea (qat false [] (p.1++t))=qea (qat false cur t))∧(∀ t,qz 0 (cur++t)=(v++(qz 0 t).1,(qz 0 t).2))∧(cur.length:Int)=p.2.1∧qgm cur=true∧(b=true→qaf cur=false)
theorem qsG (h:∀ t,qz 0 (cur++t)=(v++(qz 0 t).1,(qz 0 t).2)):qz 0 cur=(v,0):=by
 have:=h [];rw[yG] at this;rw[this];show (v++[],0)=_;rw[yG]
theorem qDX (h:qz 0 cur=(v,0)):z53 (cur++[61])=(v,true)∧qdZ (cur++[61])=0:=by
 have e1:dropR blank (cur++[61])=cur++[61]:=by rw[qib];rfl
 have e2:qcO (cur++[61])=true:=by unfold qcO;rw[List.getLast?_append];rfl
 have e3:bareL (cur++[61])=cur:=by unfold bareL;rw[e1,e2,yc,List.dropLast_concat]
 unfold z53 qdZ;rw[e3,e1,e2,h];exact⟨rfl,rfl⟩
theorem qIV:∀ i:Fin 256,z144 (ofNat i.val) 2=blank (ofNat i.val):=by decide +kernel
theorem qDY (h:qz 0 cur=(v,0)) (h1:qgm cur=true) (h2:qaf cur=false):z53 cur=(v,false)∧qdZ cur=0:=by
 have e1:dropR blank cur=cur:=qyC fun c hc=>by
  unfold qaf at h2;rw[hc] at h2
  rw[← qic (P:=fun c=>z144 c 2=blank c) qIV c];exact h2
 have e2:qcO cur=false:=by
  unfold qcO;unfold qgm at h1;cases hc:cur.getLast? with
  | none=>rfl
  | some c =>
   rw[hc] at h1;have h1':((c != 61)&&(c != 13))=true:=h1;rw[yf] at h1';show (some c==some 61)=false;simpa [bne] using h1'.1
 have e3:bareL cur=cur:=by unfold bareL;rw[e1,e2];rfl
 unfold z53 qdZ;rw[e3,e1,e2,h];exact⟨rfl,rfl⟩
theorem qkA {p:Page} (h:Inv19 p b out) (hb:soft=true∨b=true):Inv19 (pEnd p soft) true (bif soft then out else out++[13,10]):=by
 obtain⟨pre,cur,v,h1,h2,h3,h4,h5,h6,h7⟩:=h;have hw:=qsG h4;have h4':∀ t,qz 0 ([]++t)=(([]:LU)++(qz 0 t).1,(qz 0 t).2):=fun t=>rfl;cases soft with
 | true =>
  obtain⟨g1,g2⟩:=qDX hw;refine⟨out,[],[],(yG _).symm,fun t=>?_,fun t=>?_,h4',rfl,rfl,fun _=>rfl⟩
  ·show (qat false [] ((p.1++[61,13,10])++t)).flatMap qck=_;rw[yl,h2,qmL,List.flatMap_cons];have e:qck (cur++[61],[13,10])=v:=by unfold qck;rw[g1];exact yG _
   rw[e,h1];simp only[yl]
  ·show qea (qat false [] ((p.1++[61,13,10])++t))=_;rw[yl,h3,qmL];show qdZ (cur++[61])+_=_;rw[g2,yE];rfl
 | false =>
  obtain⟨g1,g2⟩:=qDY hw h6 (h7 (hb.resolve_left (by decide)));refine⟨out++[13,10],[],[],(yG _).symm,fun t=>?_,fun t=>?_,h4',rfl,rfl,fun _=>rfl⟩
  ·show (qat false [] ((p.1++[13,10])++t)).flatMap qck=_;rw[yl,h2,qmK,List.flatMap_cons];have e:qck (cur,[13,10])=v++[13,10]:=by unfold qck;rw[g1];rfl
   rw[e,h1];simp only[yl]
  ·show qea (qat false [] ((p.1++[13,10])++t))=_;rw[yl,h3,qmK];show qdZ cur+_=_;rw[g2,yE];rfl
theorem qDZ {p:Page} (h:Inv19 p b out) (c:UInt8) (e:Bool):Inv19 (pPut p (unitQ c e)) e (out++[c]):=by
 have key:∀ (q:Page) (b:Bool),Inv19 q b out→Inv19 (q.1++unitQ c e,(q.2.1+((unitQ c e).length:Nat),())) e (out++[c]):=fun q b ⟨pre,cur,v,h1,h2,h3,h4,h5,h6,_⟩=>by
  have hne:unitQ c e≠[]:=by have:=(qkr c e).2;intro hh;rw[hh] at this;cases this
  refine⟨pre,cur++unitQ c e,v++[c],by rw[h1,yl],fun t=>?_,fun t=>?_,fun t=>?_,?_,qeU _ hne (qmH c e).2,fun he=>?_⟩
  ·show (qat false [] ((q.1++unitQ c e)++t)).flatMap qck=_;rw[yl,h2,qfN _ _ _ (qyE c e)]
  ·show qea (qat false [] ((q.1++unitQ c e)++t))=_;rw[yl,h3,qfN _ _ _ (qyE c e)]
  ·rw[yl,h4,qyD,yl];rfl
  ·show (((cur++unitQ c e).length:Nat):Int)=q.2.1+_;rw[yn];omega
  ·subst he;rw[qdg cur hne];exact(qpb c).1
 unfold pPut;cases decide (75 < p.2.1+(((unitQ c e).length:Nat):Int))
 ·exact key p b h
 ·exact key (pEnd p true) true (qkA h (.inl rfl))
theorem qmM {p:Page} (h:Inv19 p true out):Inv19 p b out:=by
 obtain⟨pre,cur,v,h1,h2,h3,h4,h5,h6,h7⟩:=h;exact⟨pre,cur,v,h1,h2,h3,h4,h5,h6,fun _=>h7 rfl⟩
theorem qgK:∀ (s:LU) (k:Nat) (p:Page) (out:LU),Inv19 p (decide (0 < brk (s.drop k))) out→∃ b,Inv19 (layS k s p) b (out++brksS k s)
 | [],0,p,out,h=>⟨_,by rw[show brksS 0 []=[] from rfl,yG];exact h⟩
 | [],k+1,p,out,h=>⟨_,by rw[show brksS (k+1) []=[] from rfl,yG];exact h⟩
 | x :: r,k+1,p,out,h=>qgK r k p out h
 | x :: r,0,p,out,h=>by
  have h':Inv19 p (decide (0 < brk (x :: r))) out:=h;cases hb:brk (x :: r) with
  | zero =>
   rw[show layS 0 (x :: r) p=(match brk (x :: r) with | 0=>layS 0 r (pPut p (unitQ x (decide (0 < brk r)))) | k+1=>layS k r (pEnd p false)) from rfl,
    show brksS 0 (x :: r)=(match brk (x :: r) with | 0=>x :: brksS 0 r | k+1=>13 :: 10 :: brksS k r) from rfl,hb]
   obtain⟨b,hb⟩:=qgK r 0 _ _ (qDZ h' x (decide (0 < brk r)));rw[yl] at hb;exact⟨b,hb⟩
  | succ k =>
   rw[show layS 0 (x :: r) p=(match brk (x :: r) with | 0=>layS 0 r (pPut p (unitQ x (decide (0 < brk r)))) | k+1=>layS k r (pEnd p false)) from rfl,
    show brksS 0 (x :: r)=(match brk (x :: r) with | 0=>x :: brksS 0 r | k+1=>13 :: 10 :: brksS k r) from rfl,hb]
   rw[hb,dT (by omega)] at h';obtain⟨b,hb⟩:=qgK r k _ _ (qmM (qkA h' (.inr rfl)));have e:(bif false then out else out++[13,10])++brksS k r=out++(13 :: 10 :: brksS k r):=by
    show (out++[13,10])++_=_;rw[yl];rfl
   rw[e] at hb;exact⟨b,hb⟩
theorem qsH:Inv19 ([],(0,())) true []:=⟨[],[],[],rfl,fun _=>rfl,fun _=>rfl,fun _=>rfl,rfl,rfl,fun _=>rfl⟩
theorem qmN {q:Page} (h:Inv19 q b out) (h0:q.2.1=0):readG q.1=out∧qky q.1=0:=by
 obtain⟨pre,cur,v,h1,h2,h3,h4,h5,h6,h7⟩:=h;have hc:cur=[]:=yF (by omega);subst hc;have hv:v=[]:=by
  have:=congrArg Prod.fst (h4 []);simpa [qz] using this.symm
 subst hv;have g2:=h2 [];have g3:=h3 [];rw[yG] at g2 g3;exact⟨by unfold readG;rw[g2,h1];rfl,by unfold qky;rw[g3];rfl⟩
theorem qIW (s:LU):z27 (z62 s)=brksS 0 s∧qma (z62 s)=0:=by
 obtain⟨b,h⟩:=qgK s 0 ([],(0,())) [] (qmM qsH);rw[List.nil_append] at h;have key:readG (z62 s)=brksS 0 s∧qky (z62 s)=0:=by
  unfold z62 pDone
  by_cases hp:0 < (layS 0 s ([],(0,()))).2.1
  ·rw[dT hp];exact qmN (qkA (soft:=true) h (.inl rfl)) rfl
  ·rw[dF hp];refine qmN h ?_;obtain⟨_,cur,_,_,_,_,_,h5,_⟩:=h;omega
 exact⟨key.1,by show ((qky (z62 s):Nat):Int)=0;rw[key.2];rfl⟩
theorem low6E:∀ i:Fin 256,((ofNat i.val) &&& 63).toNat < 64∧(z237 (ofNat i.val)=true→(decide ((ofNat i.val) < 160)=true→((ofNat i.val) &&& 63).toNat < 32)∧(decide ((ofNat i.val) < 144)=true→((ofNat i.val) &&& 63).toNat < 16)):=by decide +kernel
theorem qMF:∀ i:Fin 256,qb (ofNat i.val)=1→((ofNat i.val) &&& (255 ^^^ z185 ((1:Nat):Int))).toNat < 128:=by decide +kernel
theorem qMG:∀ i:Fin 256,qb (ofNat i.val)=2→((ofNat i.val) &&& (255 ^^^ z185 ((2:Nat):Int))).toNat < 32:=by decide +kernel
theorem qMH:∀ i:Fin 256,qb (ofNat i.val)=3→((ofNat i.val) &&& (255 ^^^ z185 ((3:Nat):Int))).toNat < 16∧(((ofNat i.val) &&& (255 ^^^ z185 ((3:Nat):Int))).toNat=13→ofNat i.val=237):=by decide +kernel
theorem qMI:∀ i:Fin 256,qb (ofNat i.val)=4→((ofNat i.val) &&& (255 ^^^ z185 ((4:Nat):Int))).toNat≤4∧(((ofNat i.val) &&& (255 ^^^ z185 ((4:Nat):Int))).toNat=4→ofNat i.val=244):=by decide +kernel
theorem qyF:∀ i:Fin 256,qb (ofNat i.val)≤4:=by decide +kernel
theorem fin8E {P:UInt8→Prop} (h:∀ i:Fin 256,P (ofNat i.val)) (c:UInt8):P c:=by
 have:=h ⟨c.toNat,c.toNat_lt⟩;simpa using this
theorem qEa {n:Nat} (h:n≤1114111) (h2:¬ (55296≤n∧n≤57343)):z36 (n:Int)=true:=by
 unfold z36 z77;rw[yo (show (0:Int)≤(n:Int) by omega),yo (show (n:Int)≤1114111 by omega)];have:(decide ((55296:Int)≤(n:Int))&&decide ((n:Int)≤57343))=false:=by
  rw[← Bool.not_eq_true,yf,ym,ym];omega
 rw[this];rfl
theorem qyG (f:UInt8):∀ (n:Nat) (o:Bool) (s:LU),runB f n o s≤n
 | 0,_,_=>yv _
 | n+1,_,[]=>Nat.zero_le _
 | n+1,o,x :: r=>by
  show (bif z237 x&&(!o||z238 f x) then runB f n false r+1 else 0)≤n+1;have:=qyG f n false r;cases (z237 x&&(!o||z238 f x)) with
  | true=>show runB f n false r+1≤n+1;omega
  | false=>exact Nat.zero_le _
theorem qce (f:UInt8) (n:Nat) (o:Bool) (s:LU) (h:runB f (n+1) o s=n+1):∃ x r,s=x :: r∧z237 x=true∧(o=true→z238 f x=true)∧runB f n false r=n:=by
 cases s with
 | nil=>exact absurd (show (0:Nat)=n+1 from h) (by omega)
 | cons x r =>
  have h:(bif z237 x&&(!o||z238 f x) then runB f n false r+1 else 0)=n+1:=h;cases hc:(z237 x&&(!o||z238 f x)) with
  | false=>rw[hc] at h;exact absurd (show (0:Nat)=n+1 from h) (by omega)
  | true =>
   rw[hc] at h;have h:runB f n false r+1=n+1:=h;rw[yf] at hc;exact⟨x,r,rfl,hc.1,fun ho=>by subst ho;simpa using hc.2,by omega⟩
theorem qIX (x:UInt8) (r:LU) (h:farN (x :: r)=qb x) (h0:qb x≠0):z36 (signN (qb x) (x :: r))=true:=by
 have hle:=fin8E (P:=fun x=>qb x≤4) qyF x;have hf:farN (x :: r)=bif qb x==0 then 0 else 1+runB x (qb x - 1) true r:=rfl
 rw[hf,beq_eq_false_iff_ne.2 h0] at h;have h:1+runB x (qb x - 1) true r=qb x:=h;obtain e | e | e | e:qb x=1∨qb x=2∨qb x=3∨qb x=4:=by omega
 ·have a:=fin8E (P:=fun x=>qb x=1→(x &&& (255 ^^^ z185 ((1:Nat):Int))).toNat < 128) qMF x e;rw[e];exact qEa (n:=(x &&& (255 ^^^ z185 ((1:Nat):Int))).toNat) (by omega) (by omega)
 ·have a:=fin8E (P:=fun x=>qb x=2→(x &&& (255 ^^^ z185 ((2:Nat):Int))).toNat < 32) qMG x e;rw[e] at h;obtain⟨y,r1,rfl,b1,b2,_⟩:=qce x 0 true r (show runB x (2 - 1) true r=1 by omega);have c:=fin8E (P:=fun y=>(y &&& 63).toNat < 64∧(z237 y=true→(decide (y < 160)=true→(y &&& 63).toNat < 32)∧(decide (y < 144)=true→(y &&& 63).toNat < 16))) low6E y;rw[e];show z36 ((((x &&& (255 ^^^ z185 ((2:Nat):Int))).toNat:Nat):Int)*64+((y &&& 63).toNat:Int))=true;have:=qEa (n:=(x &&& (255 ^^^ z185 ((2:Nat):Int))).toNat*64+(y &&& 63).toNat) (by omega) (by omega);rw[Int.natCast_add,Int.natCast_mul] at this;exact this
 ·have a:=fin8E (P:=fun x=>qb x=3→(x &&& (255 ^^^ z185 ((3:Nat):Int))).toNat < 16∧((x &&& (255 ^^^ z185 ((3:Nat):Int))).toNat=13→x=237)) qMH x e;rw[e] at h;obtain⟨y,r1,rfl,b1,b2,b3⟩:=qce x 1 true r (show runB x (3 - 1) true r=2 by omega);obtain⟨z,r2,rfl,d1,d2,_⟩:=qce x 0 false r1 b3;have c:=fin8E (P:=fun y=>(y &&& 63).toNat < 64∧(z237 y=true→(decide (y < 160)=true→(y &&& 63).toNat < 32)∧(decide (y < 144)=true→(y &&& 63).toNat < 16))) low6E y;have c':=fin8E (P:=fun y=>(y &&& 63).toNat < 64∧(z237 y=true→(decide (y < 160)=true→(y &&& 63).toNat < 32)∧(decide (y < 144)=true→(y &&& 63).toNat < 16))) low6E z;have hs:(x &&& (255 ^^^ z185 ((3:Nat):Int))).toNat=13→(y &&& 63).toNat < 32:=fun h13=>by
   obtain rfl:=a.2 h13;have:(decide (y < 160)&&z237 y)=true:=b2 rfl;rw[yf] at this;exact(c.2 b1).1 this.1
  rw[e];show z36 (((((x &&& (255 ^^^ z185 ((3:Nat):Int))).toNat:Nat):Int)*64+((y &&& 63).toNat:Int))*64+((z &&& 63).toNat:Int))=true;generalize (x &&& (255 ^^^ z185 ((3:Nat):Int))).toNat=p at a hs;generalize (y &&& 63).toNat=q at c hs;generalize (z &&& 63).toNat=o at c';have hns:¬ (55296≤(p*64+q)*64+o∧(p*64+q)*64+o≤57343):=fun ⟨k1,k2⟩=>by
   by_cases h13:p=13
   ·have:=hs h13;omega
   ·omega
  have:=qEa (n:=(p*64+q)*64+o) (by omega) hns;simpa using this
 ·have a:=fin8E (P:=fun x=>qb x=4→(x &&& (255 ^^^ z185 ((4:Nat):Int))).toNat≤4∧((x &&& (255 ^^^ z185 ((4:Nat):Int))).toNat=4→x=244)) qMI x e;rw[e] at h;obtain⟨y,r1,rfl,b1,b2,b3⟩:=qce x 2 true r (show runB x (4 - 1) true r=3 by omega);obtain⟨z,r2,rfl,d1,d2,b4⟩:=qce x 1 false r1 b3;obtain⟨u,r3,rfl,g1,g2,_⟩:=qce x 0 false r2 b4;have c:=fin8E (P:=fun y=>(y &&& 63).toNat < 64∧(z237 y=true→(decide (y < 160)=true→(y &&& 63).toNat < 32)∧(decide (y < 144)=true→(y &&& 63).toNat < 16))) low6E y;have c':=(fin8E (P:=fun y=>(y &&& 63).toNat < 64∧(z237 y=true→(decide (y < 160)=true→(y &&& 63).toNat < 32)∧(decide (y < 144)=true→(y &&& 63).toNat < 16))) low6E z).1;have c2:=(fin8E (P:=fun y=>(y &&& 63).toNat < 64∧(z237 y=true→(decide (y < 160)=true→(y &&& 63).toNat < 32)∧(decide (y < 144)=true→(y &&& 63).toNat < 16))) low6E u).1;have hs:(x &&& (255 ^^^ z185 ((4:Nat):Int))).toNat=4→(y &&& 63).toNat < 16:=fun h13=>by
   obtain rfl:=a.2 h13;have:(decide (y < 144)&&z237 y)=true:=b2 rfl;rw[yf] at this;exact(c.2 b1).2 this.1
  have h0:x=240→16≤(y &&& 63).toNat:=fun hx=>by
   subst hx;have:(decide (144≤y)&&z237 y)=true:=b2 rfl;rw[yf] at this;have k:=fin8E (P:=fun y=>decide (144≤y)=true→z237 y=true→16≤(y &&& 63).toNat) (by decide +kernel) y;exact k this.1 this.2
  have ha0:=fin8E (P:=fun x=>qb x=4→(x &&& (255 ^^^ z185 ((4:Nat):Int))).toNat=0→x=240) (by decide +kernel) x e;rw[e];show z36 ((((((x &&& (255 ^^^ z185 ((4:Nat):Int))).toNat:Nat):Int)*64+((y &&& 63).toNat:Int))*64+((z &&& 63).toNat:Int))*64+((u &&& 63).toNat:Int))=true;generalize (x &&& (255 ^^^ z185 ((4:Nat):Int))).toNat=p at a hs ha0;generalize (y &&& 63).toNat=q at c hs h0;generalize (z &&& 63).toNat=o at c';generalize (u &&& 63).toNat=v at c2;have hlo:p=0→16≤q:=fun hp=>h0 (ha0 hp);have hup:((p*64+q)*64+o)*64+v≤1114111:=by
   by_cases h4:p=4
   ·have:=hs h4;omega
   ·omega
  have hns:¬ (55296≤((p*64+q)*64+o)*64+v∧((p*64+q)*64+o)*64+v≤57343):=fun ⟨k1,k2⟩=>by
   by_cases hp:p=0
   ·have:=hlo hp;omega
   ·omega
  have:=qEa (n:=((p*64+q)*64+o)*64+v) hup hns;simpa using this
theorem qIY (x:UInt8) (r:LU) (h:(z178 (x :: r)).2.2=0):z36 (z178 (x :: r)).1=true:=by
 have hle:farN (x :: r)≤qb x:=by
  show (bif qb x==0 then 0 else 1+runB x (qb x - 1) true r)≤qb x
  by_cases h0:qb x=0
  ·rw[h0];exact yv _
  ·rw[beq_eq_false_iff_ne.2 h0];have:=qyG x (qb x - 1) true r;show 1+runB x (qb x - 1) true r≤qb x;omega
 have e:z178 (x :: r)=bif farN (x :: r)==0 then (0,1,3) else bif decide (farN (x :: r) < qb x)&&(farN (x :: r)==(x :: r).length) then (0,((farN (x :: r):Nat):Int),4)
  else bif decide (farN (x :: r) < qb x) then (0,((farN (x :: r):Nat):Int),3) else (signN (farN (x :: r)) (x :: r),((farN (x :: r):Nat):Int),0):=rfl
 rw[e] at h ⊢
 by_cases h1:farN (x :: r)=0
 ·rw[h1] at h;exact absurd (show (3:Int)=0 from h) (by decide)
 ·rw[beq_eq_false_iff_ne.2 h1] at h ⊢
  by_cases h2:farN (x :: r) < qb x
  ·rw[yo h2] at h;cases hb:(farN (x :: r)==(x :: r).length) with
   | true=>rw[hb] at h;exact absurd (show (4:Int)=0 from h) (by decide)
   | false=>rw[hb] at h;exact absurd (show (3:Int)=0 from h) (by decide)
  ·rw[yx h2];show z36 (signN (farN (x :: r)) (x :: r))=true;have he:farN (x :: r)=qb x:=by omega
   rw[he];exact qIX x r he (by omega)
theorem qyH:∀ (n:Nat) (s:LU),(utfR n s).all z36=true
 | 0,_=>rfl
 | _+1,[]=>rfl
 | n+1,x :: r=>by
  show (((bif (z178 (x :: r)).2.2 != 0 then 65533 else (z178 (x :: r)).1) :: utfR n ((x :: r).drop (z178 (x :: r)).2.1.toNat)).all z36)=true;rw[List.all_cons,qyH n,yi]
  by_cases h:(z178 (x :: r)).2.2=0
  ·rw[show ((z178 (x :: r)).2.2 != 0)=false by simp[h]];exact qIY x r h
  ·rw[show ((z178 (x :: r)).2.2 != 0)=true by simp[h]];exact(show z36 65533=true by decide)
theorem qrk {g:UInt8→Int} (h:∀ i:Fin 256,z36 (g (ofNat i.val))=true) (s:LU):(s.map g).all z36=true:=by
 rw[List.all_map,List.all_eq_true];intro c _;exact fin8E (P:=fun c=>z36 (g c)=true) h c
theorem qIZ (cs:Int) (s:LU):(z29 cs s).all z36=true:=by
 unfold z29;cases cs==1 with
 | true=>exact qrk (g:=fun c=>z114 (c.toNat:Int)) (by decide +kernel) s
 | false =>
  cases cs==3 with
  | true=>exact qrk (g:=z90) (by decide +kernel) s
  | false =>
   cases cs==4 with
   | true=>exact qrk (g:=z91) (by decide +kernel) s
   | false =>
    cases cs==5 with
    | true=>exact qyH _ _
    | false=>exact qrk (g:=fun c=>(c.toNat:Int)) (by decide +kernel) s
end
section
variable {cs c:Int}
theorem qwx (h1:1≤cs∧cs≤5):z71 cs 13=[13]∧z71 cs 10=[10]:=by
 obtain rfl | rfl | rfl | rfl | rfl:cs=1∨cs=2∨cs=3∨cs=4∨cs=5:=by omega
 all_goals decide +kernel
theorem qgy {g:UInt8→Int} (hg:∃ x,z71 cs c=[x]∧g x=c) (h13:g 13=13) (h10:g 10=10) (hc:c≠13∧c≠10):∀ x∈z71 cs c,x≠13∧x≠10:=by
 obtain⟨x,e,hx⟩:=hg;rw[e];intro y hy;obtain rfl:=List.mem_singleton.1 hy;exact⟨fun h=>hc.1 (by rw[← hx,h,h13]),fun h=>hc.2 (by rw[← hx,h,h10])⟩
theorem qiq {n:Nat} (h:n < 256) (h1:n≠13∧n≠10):UInt8.ofNat n≠13∧UInt8.ofNat n≠10:=by
 have e:=qku h;exact⟨fun h2=>h1.1 (by rw[← e,h2];rfl),fun h2=>h1.2 (by rw[← e,h2];rfl)⟩
theorem qlZ (h1:1≤cs∧cs≤5) (hn:(z71 cs c).length≠0) (hc:c≠13∧c≠10):∀ x∈z71 cs c,x≠13∧x≠10:=by
 obtain rfl | rfl | rfl | rfl | rfl:cs=1∨cs=2∨cs=3∨cs=4∨cs=5:=by omega
 ·exact qgy (g:=fun x=>z114 (x.toNat:Int)) (qmE c hn) (by decide) (by decide) hc
 ·exact qgy (g:=fun x=>(x.toNat:Int)) (qmF c hn) (by decide) (by decide) hc
 ·exact qgy (qrg c hn) (by decide +kernel) (by decide +kernel) hc
 ·exact qgy (qyv c hn) (by decide +kernel) (by decide +kernel) hc
 ·have hi:z36 c=true:=by
   cases e:z36 c with
   | true=>rfl
   | false =>
    unfold z71 at hn;rw[show z131 5 c=z36 c from rfl,e] at hn;exact absurd rfl hn
  have e:z71 5 c=z135 c:=by
   unfold z71;rw[show z131 5 c=z36 c from rfl,hi];rfl
  have hr:0≤c∧c≤1114111:=by
   unfold z36 at hi;simp only[yf,ym] at hi;exact⟨hi.1,hi.2.1⟩
  obtain⟨n,rfl⟩:∃ n:Nat,c=n:=⟨c.toNat,by omega⟩;rw[e];intro x hx
  by_cases k1:n < 128
  ·rw[qys hi k1] at hx;obtain rfl:=List.mem_singleton.1 hx;exact qiq (by omega) (by omega)
  by_cases k2:n < 2048
  ·rw[qyt hi k1 k2] at hx;simp only[List.mem_cons,List.not_mem_nil,or_false] at hx;rcases hx with rfl | rfl
   ·exact qiq (by omega) (by omega)
   ·exact qiq (by omega) (by omega)
  by_cases k3:n < 65536
  ·rw[qmD hi k2 k3] at hx;simp only[List.mem_cons,List.not_mem_nil,or_false] at hx;rcases hx with rfl | rfl | rfl
   ·exact qiq (by omega) (by omega)
   ·exact qiq (by omega) (by omega)
   ·exact qiq (by omega) (by omega)
  ·rw[qrf hi k3 (by omega)] at hx;simp only[List.mem_cons,List.not_mem_nil,or_false] at hx;rcases hx with rfl | rfl | rfl | rfl
   ·exact qiq (by omega) (by omega)
   ·exact qiq (by omega) (by omega)
   ·exact qiq (by omega) (by omega)
   ·exact qiq (by omega) (by omega)
theorem qiG:∀ (a b:LU),(∀ x∈a,x≠13∧x≠10)→brksS 0 (a++b)=a++brksS 0 b
 | [],_,_=>rfl
 | x :: a,b,h=>by
  rw[List.cons_append,qDS (qsE _ (h x List.mem_cons_self)),qiG a b (fun y hy=>h y (List.mem_cons_of_mem _ hy)),List.cons_append]
theorem qHH (r:LU):brksS 0 (10 :: r)=13 :: 10 :: brksS 0 r:=qkv (k:=0) rfl
theorem qBD (r:LU):brksS 0 (13 :: 10 :: r)=13 :: 10 :: brksS 0 r:=qkv (k:=1) rfl
theorem qBE (r:LU) (h:r.head? ≠ some 10):brksS 0 (13 :: r)=13 :: 10 :: brksS 0 r:=by
 refine qkv (k:=0) ?_;cases r with
 | nil=>rfl
 | cons y r =>
  have hy:(y==(10:UInt8))=false:=beq_eq_false_iff_ne.2 fun e=>h (by rw[e];rfl);show (bif (13:UInt8)==13 then (bif y==10 then 2 else 1) else bif (13:UInt8)==10 then 1 else 0)=1;rw[hy];rfl
theorem qwy (p:Option Int) (c:Int) (r:LI):z16_l p (c :: r)=(bif (c==10)&&(p==some 13) then [] else bif (c==13)||(c==10) then [13,10] else [c])++z16_l (some c) r:=by
 conv=>lhs;unfold z16_l
theorem qeE {cs:Int} (h1:1≤cs∧cs≤5):∀ (n:Nat) (p:Option Int) (t:LI),t.length≤n→(∀ c∈t,(z71 cs c).length≠0)→¬ (p=some 13∧t.head? = some 10) →
 brksS 0 (t.flatMap (z71 cs))=(z16_l p t).flatMap (z71 cs)
 | _,p,[],_,_,_=>by rw[qwH];rfl
 | 0,_,_ :: _,hl,_,_=>by simp at hl
 | n+1,p,c :: r,hl,ha,hp=>by
  obtain⟨b13,b10⟩:=qwx h1;have hlr:r.length≤n:=by rw[yg] at hl;omega
  have har:∀ c∈r,(z71 cs c).length≠0:=fun x hx=>ha x (List.mem_cons_of_mem _ hx);rw[qwy,List.flatMap_cons,List.flatMap_append]
  by_cases c10:c=10
  ·subst c10;have hpn:(p==some (13:Int))=false:=beq_eq_false_iff_ne.2 fun e=>hp ⟨e,rfl⟩;rw[hpn,b10];show brksS 0 (10 :: r.flatMap (z71 cs))=([13,10]:LI).flatMap (z71 cs)++_;rw[qHH,qeE h1 n (some 10) r hlr har (by simp)];rw[List.flatMap_cons,List.flatMap_cons,b13,b10];rfl
  by_cases c13:c=13
  ·subst c13;show _=([13,10]:LI).flatMap (z71 cs)++_;rw[b13,List.flatMap_cons,List.flatMap_cons,b13,b10];show brksS 0 (13 :: r.flatMap (z71 cs))=13 :: 10 :: _;match r,hlr,har with
   | [],_,_=>rw[qwH];rfl
   | d :: r',hlr,har =>
    have har':∀ c∈r',(z71 cs c).length≠0:=fun x hx=>har x (List.mem_cons_of_mem _ hx)
    by_cases d10:d=10
    ·subst d10;rw[qwy,List.flatMap_cons,b10];show brksS 0 (13 :: 10 :: r'.flatMap (z71 cs))=13 :: 10 :: (z16_l (some 10) r').flatMap (z71 cs);rw[qBD,qeE h1 n (some 10) r' (by rw[yg] at hlr;omega) har' (by simp)]
    ·have hs:((d :: r').flatMap (z71 cs)).head? ≠ some 10:=by
      rw[List.flatMap_cons]
      by_cases d13:d=13
      ·subst d13;rw[b13];simp
      ·have hd:=har d List.mem_cons_self;have ho:=qlZ h1 hd ⟨d13,d10⟩;cases e:z71 cs d with
       | nil=>rw[e] at hd;exact absurd rfl hd
       | cons x xs =>
        rw[List.cons_append,List.head?_cons];intro h;exact(ho x (by rw[e];exact List.mem_cons_self)).2 (yp h)
     rw[qBE _ hs,qeE h1 n (some 13) (d :: r') hlr har (by simp[d10])];rfl
  ·rw[beqF c10,beqF c13];show brksS 0 (z71 cs c++r.flatMap (z71 cs))=([c]:LI).flatMap (z71 cs)++_;rw[qiG _ _ (qlZ h1 (ha c List.mem_cons_self) ⟨c13,c10⟩),qeE h1 n (some c) r hlr har (by simp[c13])];simp
theorem qLI:∀ (t:LI) (p:Option Int) (x:Int),x∈z16_l p t→x=13∨x=10∨x∈t
 | [],p,x,h=>by rw[qwH] at h;cases h
 | c :: r,p,x,h=>by
  rw[qwy] at h;rcases List.mem_append.1 h with h | h
  ·cases e1:(c==10)&&(p==some 13) with
   | true=>rw[e1] at h;cases h
   | false =>
    rw[e1] at h;cases e2:(c==13)||(c==10) with
    | true =>
     rw[e2] at h;simp only[yc,yd,List.mem_cons,List.not_mem_nil,or_false] at h;rcases h with h | h
     ·exact .inl h
     ·exact .inr (.inl h)
    | false =>
     rw[e2] at h;simp only[yd,List.mem_cons,List.not_mem_nil,or_false] at h;exact .inr (.inr (by rw[h];exact List.mem_cons_self))
  ·rcases qLI r (some c) x h with h | h | h
   ·exact .inl h
   ·exact .inr (.inl h)
   ·exact .inr (.inr (List.mem_cons_of_mem _ h))
theorem qHI (t:LI) (h1:1≤cs∧cs≤5) (h0:(z32 cs t).2=0):z29 cs (brksS 0 (z32 cs t).1)=z16 t:=by
 have hb:(decide (cs < 1)||decide (5 < cs))=false:=by
  rw[dF (by omega),dF (by omega)];rfl
 have ha:t.all (fun c=>(z71 cs c).length != 0)=true:=by
  unfold z32 at h0;rw[hb] at h0;cases ha:t.all (fun c=>(z71 cs c).length != 0) with
  | false=>rw[ha] at h0;exact absurd (show (9:Int)=0 from h0) (by decide)
  | true=>rfl
 have hne:∀ c∈t,(z71 cs c).length≠0:=fun c hc=>by
  have:=List.all_eq_true.1 ha c hc;intro e;rw[e] at this;exact absurd this (by decide)
 obtain⟨b13,b10⟩:=qwx h1;have ha':(z16 t).all (fun c=>(z71 cs c).length != 0)=true:=List.all_eq_true.2 fun x hx=>by
  rcases qLI t none x hx with rfl | rfl | h
  ·rw[b13];rfl
  ·rw[b10];rfl
  ·exact List.all_eq_true.1 ha x h
 have e1:z32 cs t=(t.flatMap (z71 cs),0):=by
  unfold z32;rw[hb,ha];rfl
 have e2:z32 cs (z16 t)=((z16 t).flatMap (z71 cs),0):=by
  unfold z32;rw[hb,ha'];rfl
 have e3:=qmG (z16 t) h1 (by rw[e2]);rw[e1];show z29 cs (brksS 0 (t.flatMap (z71 cs)))=_;rw[qeE h1 t.length none t (yv _) hne (by simp)];rw[e2] at e3;exact e3
end
section
theorem qon:∀ (r acc:LU) (j:Nat),j≤75→(j=0∨r≠[])→(∀ x∈r,x≠13)→chkW false acc j (tailW j r)=(acc++r,0)
 | [],acc,j,_,hj,_=>by
  obtain rfl:j=0:=hj.resolve_right (fun h=>h rfl);show chkW false acc 0 []=_;unfold chkW;rw[yG];rfl
 | x :: r,acc,j,h,_,hx=>by
  have hr:∀ y∈r,y≠13:=fun y hy=>hx y (List.mem_cons_of_mem _ hy);have e:tailW j (x :: r)=x :: (bif (j==75)||r.isEmpty then 13 :: 10 :: tailW 0 r else tailW (j+1) r):=rfl;rw[e,qhz,if_neg (fun hc=>hx x List.mem_cons_self hc.1),if_neg (by omega)];cases hb:(j==75)||r.isEmpty with
  | true =>
   show chkW false (acc++[x]) (j+1) (13 :: 10 :: tailW 0 r)=_;rw[qhz,if_pos ⟨rfl,rfl⟩,if_neg (by omega)];show chkW false (acc++[x]) 0 (tailW 0 r)=_;rw[qon r (acc++[x]) 0 (by omega) (.inl rfl) hr,yl];rfl
  | false =>
   simp only[Bool.or_eq_false_iff,yB,List.isEmpty_eq_false_iff] at hb;show chkW false (acc++[x]) (j+1) (tailW (j+1) r)=_;rw[qon r (acc++[x]) (j+1) (by omega) (.inr hb.2) hr,yl];rfl
theorem qwz (s:LU):∀ x∈z123 s,x≠13:=by
 obtain⟨k,_,e,_⟩:=qgx s;intro x hx h;subst h;have hx':(13:UInt8)∈z74 s:=hx;rw[e] at hx';rcases List.mem_append.1 hx' with h | h
 ·have:=List.all_eq_true.1 (qdp s).2.1 13 h;rw[show isB64 13=false by decide +kernel] at this;cases this
 ·have:=List.eq_of_mem_replicate h;exact absurd this (by decide)
theorem qsi (s:LU):z39 (z64 s)=0:=by
 have e:z147 (z64 s)=(z123 s,0):=by
  show codeW ((z64 s).length+1) [] (z64 s)=_;rw[qwG _ _ _ (Nat.lt_succ_self _)];unfold z64;rw[qqj _ _ (yv _),qon _ [] 0 (by omega) (.inl rfl) (qwz s)];rfl
 unfold z39 z84;rw[e,qtY];rfl
end
section
variable {k cs:Int} {t:LI}
theorem like3 (a:LI):z11 a a=true:=dT rfl
theorem qLJ {s:LU} (h:s.length≤300000):qok k cs s=true∧qNL k cs s=true∧qrP (z12 k cs s) (z12 k cs s)=true :=
 ⟨dT h,dT h,qu (yL (qqh k cs s) (by omega))⟩
theorem qBF (k cs:Int) (s:LU):decide ((0:Int)≤z18 (z12 k cs s))=false:=by
 show decide (0≤qI z36 (z12 k cs s) 0)=false;rw[qFs];have:(z12 k cs s).all z36=true:=qIZ cs _;rw[this];rfl
theorem lay38 (hi:i32s t=true) (h0:(z13 k cs t).2=0):z19 k (z13 k cs t).1=0∧z12 k cs (z13 k cs t).1=bif k==2 then z16 t else t:=by
 unfold z13 at h0 ⊢
 by_cases hk:k=1∨k=2∨k=3
 ·have hkb:(!((k==1)||((k==2)||(k==3))))=false:=by rcases hk with rfl | rfl | rfl <;> rfl
  rw[hkb] at h0 ⊢;simp only[yd] at h0 ⊢;cases e:(z31 cs t).2 != 0 with
  | true =>
   rw[e] at h0;simp only[yc] at h0;rw[h0] at e;cases e
  | false =>
   rw[e] at h0;simp only[yd] at h0 ⊢;have hc0:(z31 cs t).2=0:=by simpa using e
   rw[qNT cs t hi] at hc0 h0 ⊢;have hcs:1≤cs∧cs≤5:=by
    unfold z32 at hc0;cases hb:(decide (cs < 1)||decide (5 < cs)) with
    | true=>rw[hb] at hc0;exact absurd (show (10:Int)=0 from hc0) (by decide)
    | false =>
     simp only[Bool.or_eq_false_iff,decide_eq_false_iff_not] at hb;omega
   have hb:=qmG t hcs hc0;have hbb:=qHI t hcs hc0;rcases hk with rfl | rfl | rfl
   ·simp only[show ((1:Int)==2)=false from rfl,show ((1:Int)==3)=false from rfl,yd] at h0 ⊢;cases e7:z37 (z32 cs t).1 76 != 0 with
    | true =>
     rw[e7] at h0;simp only[yc] at h0;rw[h0] at e7;cases e7
    | false =>
     simp only[yd];exact⟨by show z37 _ 76=0;simpa using e7,hb⟩
   ·simp only[show ((2:Int)==2)=true from rfl,yc];refine⟨qDU _,?_⟩;show z29 cs (z27 (z62 _))=_;rw[(qIW _).1,hbb]
   ·simp only[show ((3:Int)==2)=false from rfl,show ((3:Int)==3)=true from rfl,yc,yd];refine⟨qsi _,?_⟩;show z29 cs (z28 (z64 _))=_;rw[qwK,hb]
 ·have hkb:(!((k==1)||((k==2)||(k==3))))=true:=by
   rw[beqF (fun e=>hk (.inl e)),beqF (fun e=>hk (.inr (.inl e))),beqF (fun e=>hk (.inr (.inr e)))];rfl
  rw[hkb] at h0;exact absurd (show (11:Int)=0 from h0) (by decide)
theorem qwA:(z13 k cs t).2≠0→(z13 k cs t).1=[]:=by
 unfold z13;cases (!((k==1)||((k==2)||(k==3)))) with
 | true=>exact fun _=>rfl
 | false =>
  cases (z31 cs t).2 != 0 with
  | true=>exact fun _=>rfl
  | false =>
   cases k==2 with
   | true=>exact fun h=>absurd rfl h
   | false =>
    cases k==3 with
    | true=>exact fun h=>absurd rfl h
    | false =>
     cases z37 (z31 cs t).1 76 != 0 with
     | true=>exact fun _=>rfl
     | false=>exact fun h=>absurd rfl h
theorem qBG (h0:(z13 k cs t).2≠0):(z13 k cs t).1=[]:=qwA h0
theorem qLK:∀ (h0:Int×(Int×Unit)) (t1:LI) (s2:LU),(z5_ok h0 t1 s2=true)→∃ n,z5_sh n h0 t1 s2=qwM (z5 h0 t1 s2):=fun h t s hi=>⟨0,by
 have hi:i32s t=true:=hi;unfold z5_sh
 by_cases h300:(300:Int) < ((t.length:Nat):Int)
 ·rw[dT h300];rfl
 by_cases h600:(600:Int) < ((s.length:Nat):Int)
 ·rw[dF h300,dT h600];rfl
 obtain⟨k1,_,k3⟩:=qLJ (k:=h.1) (cs:=h.2.1) (s:=s) (by omega);have hlen:=qqh h.1 h.2.1 s;have kf:qEb (z12 h.1 h.2.1 s)=true:=k3;rw[dF h300,dF h600,k1,kf,qBF,dF (show ¬ ((s.length:Nat):Int) < (((z12 h.1 h.2.1 s).length:Nat):Int) by omega),layok (show t.length≤4096 by omega)];simp only[yc,yd]
 by_cases h0:(z13 h.1 h.2.1 t).2=0
 ·obtain⟨c1,c2⟩:=lay38 hi h0;have hw:=qHX h.1 h.2.1 t (by omega);obtain⟨j1,_,j3⟩:=qLJ (k:=h.1) (cs:=h.2.1) (s:=(z13 h.1 h.2.1 t).1) hw;have cok:qwu h.1 (z13 h.1 h.2.1 t).1=true:=qu (by omega);have bok:qBt t=true:=qu (by omega);have lok:∀ x,qrP (z12 h.1 h.2.1 (z13 h.1 h.2.1 t).1) x=true:=fun _=>j3;rw[show ((z13 h.1 h.2.1 t).2 != (0:Int))=false by rw[h0];rfl,bok,cok,c1,j1,lok,lok,c2];simp only[yc,yd,yi];cases hk:h.1==2 with
  | true =>
   simp only[yc];rw[like3];rfl
  | false =>
   simp only[yd];rw[like3];rfl
 ·rw[show ((z13 h.1 h.2.1 t).2 != (0:Int))=true by simpa using h0,qBG h0];rfl⟩
end
end Go.Av
