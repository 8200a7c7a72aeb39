import Derived.Test.YtcfhfjjohmdaoaaDoorFwM
namespace Go.Av
set_option linter.unusedVariables false
set_option linter.unusedSimpArgs false
theorem qep (cur:List UInt8) (c:UInt8) (r:List UInt8):qaA cur (c :: r)=if c=13∧r.head? = some 10 then cur :: qaA [] (r.drop 1) else qaA (cur++[c]) r:=by
 have h:lineB true [] r=qaA [] (r.drop 1):=by cases r <;> rfl
 unfold qaA;rw [show lineB false cur (c :: r)=if c=13∧r.head? = some 10 then cur :: lineB true [] r else lineB false (cur++[c]) r from rfl,h];rfl
theorem qho:∀ (x cur r:List UInt8),x.any qaD=false→qaA cur (x++13 :: 10 :: r)=(cur++x) :: qaA [] r
 | [],cur,r,_=>by
  rw [List.nil_append,qep,if_pos ⟨rfl,rfl⟩,yG];rfl
 | c :: x,cur,r,h=>by
  rw [List.any_cons,Bool.or_eq_false_iff] at h;have hc:c≠13:=fun e=>by subst e; exact absurd h.1 (by decide)
  rw [List.cons_append,qep,if_neg (fun hh=>hc hh.1),qho x _ r h.2,yl];rfl
theorem qkc:∀ (l:List (List UInt8)),(∀ x∈l,x.any qaD=false)→qaA [] (l.flatMap fun x=>x++[13,10])=l++[[]]
 | [],_=>rfl
 | x :: l,h=>by
  rw [List.flatMap_cons,yl];show qaA [] (x++13 :: 10 :: (l.flatMap fun x=>x++[13,10]))=_;rw [qho x [] _ (h x (by simp)),qkc l (fun y hy=>h y (by simp [hy]))];rfl
theorem qmR:∀ (pre:List (List UInt8)),qaB (pre++[[]])=(pre,true)
 | []=>rfl
 | [a]=>rfl
 | a :: b :: l=>by
  have ih:=qmR (b :: l);show (a :: (qaB (b :: l++[[]])).1,(qaB (b :: l++[[]])).2)=_;rw [ih]
theorem qog (l:List (List UInt8)) (h:∀ x∈l,x.any qaD=false):z70 (l.flatMap fun x=>x++[13,10])=l:=by
 unfold z70;rw [qkc l h,qmR]
theorem qkd (n:Nat) (r:List UInt8) (h:∀ c,r.head? = some c→c≠62):(List.replicate n (62:UInt8)++r).takeWhile (fun c=>c==62)=List.replicate n 62:=by
 induction n with
 | zero =>
  cases r with
  | nil=>rfl
  | cons c r =>
   have:=h c rfl;show (c :: r).takeWhile _=[];rw [List.takeWhile_cons,beq_eq_false_iff_ne.2 this];rfl
 | succ n ih =>
  rw [List.replicate_succ,List.cons_append,List.takeWhile_cons];simp [ih]
theorem qlo {x:List UInt8} (h:z80 x=false):∀ c,x.head? = some c→c≠62∧c≠32:=fun c hc=>by
 unfold z80 at h;rw [Bool.or_eq_false_iff] at h;cases x with
 | nil=>cases hc
 | cons y r =>
  simp only [List.head?_cons,ya] at hc;subst hc;have:=h.2;simp only [Bool.or_eq_false_iff,yB] at this;exact ⟨this.2,this.1⟩
theorem qke (d:Int) (x:List UInt8):∃ r,qx d x=List.replicate d.toNat 62++r∧(∀ c,r.head? = some c→c≠62)∧(0≤d→unSp r=x):=by
 unfold qx
 by_cases hb:(decide (0 < d)||z80 x)=true
 ·rw [hb];exact ⟨32 :: x,rfl,fun c hc=>by cases hc; decide,fun _=>rfl⟩
 ·rw [Bool.not_eq_true] at hb;rw [hb];rw [Bool.or_eq_false_iff] at hb;have hh:=qlo hb.2;refine ⟨x,rfl,fun c hc=>(hh c hc).1,fun _=>?_⟩;cases x with
  | nil=>rfl
  | cons y r =>
   show (bif y==32 then r else y :: r)=y :: r;rw [beq_eq_false_iff_ne.2 (hh y rfl).2];rfl
theorem qir (d:Int) (x:List UInt8):depN (qx d x)=d.toNat:=by
 obtain ⟨r,h1,h2,_⟩:=qke d x;unfold depN;rw [h1,qkd _ _ h2,yQ]
theorem qkf {d:Int} (x:List UInt8) (hd:0≤d):bareB (qx d x)=x:=by
 obtain ⟨r,h1,h2,h3⟩:=qke d x;unfold bareB;rw [qir,h1,List.drop_left' (by rw [yQ])];exact h3 hd
theorem qsT (d:Int) (x:List UInt8):(qx d x).any qaD=x.any qaD:=by
 unfold qx;rw [List.any_append,List.any_append];have h1:(List.replicate d.toNat (62:UInt8)).any qaD=false:=by
  rw [List.any_eq_false];intro c hc;rw [List.eq_of_mem_replicate hc];decide
 rw [h1];cases (decide (0 < d)||z80 x) <;> rfl
theorem qeq (f:Nat→Bool):∀ (r:List UInt8) (n best:Nat) (t:List UInt8),t.drop n=r→(best=0∨(best < t.length∧t[best - 1]? = some 32))→(scanC f r n best=0∨(scanC f r n best < t.length∧t[scanC f r n best - 1]? = some 32))
 | [],n,best,t,_,hb=>hb
 | x :: r,n,best,t,ht,hb=>by
  have hx:t[n]? = some x:=by
   have:=congrArg (fun l=>l[0]?) ht;simpa using this
  have hr:t.drop (n+1)=r:=by rw [← List.drop_drop,ht]; rfl
  have hstep:scanC f (x :: r) n best=bif (x==32)&&(!r.isEmpty&&((best==0)||f (n+1))) then scanC f r (n+1) (n+1) else scanC f r (n+1) best:=rfl
  rw [hstep];cases hc:((x==32)&&(!r.isEmpty&&((best==0)||f (n+1)))) with
  | false=>exact qeq f r (n+1) best t hr hb
  | true =>
   simp only [yf,Bool.not_eq_true',beq_iff_eq] at hc;refine qeq f r (n+1) (n+1) t hr (.inr ⟨?_,?_⟩)
   ·cases r with
    | nil=>simp at hc
    | cons y r =>
     have:t[n+1]? = some y:=by
      have:=congrArg (fun l=>l[0]?) hr;simpa using this
     exact (List.getElem?_eq_some_iff.1 this).1
   ·rw [Nat.add_sub_cancel,hx,hc.1]
theorem qfw {d:Int} {t:List UInt8} {w:Int} (h:cutN d t w≠0):cutN d t w < t.length∧t[cutN d t w - 1]? = some 32:=by
 have:=qeq (fitB d t w) t 0 0 t rfl (.inl rfl);exact this.resolve_left h
theorem qqD {t:List UInt8} {k:Nat} (h0:k≠0) (h1:k < t.length) (h2:t[k - 1]? = some 32):endSp (t.take k)=true:=by
 unfold endSp;rw [List.getLast?_eq_getElem?,yz,List.getElem?_take];rw [show min k t.length - 1=k - 1 by omega,if_pos (by omega),h2];rfl
theorem qgh {t:List UInt8} {k:Nat} (h1:k < t.length):endSp (t.drop k)=endSp t:=by
 unfold endSp;rw [List.getLast?_eq_getElem?,List.getLast?_eq_getElem?,yK,List.getElem?_drop];rw [show k+(t.length - k - 1)=t.length - 1 by omega]
def noSig (t:List UInt8):Prop:=∀ a b,t≠a++sig++b
theorem quN {t:List UInt8} (h:Lib.index t sig = -1):noSig t:=fun a b e=>by
 subst e;revert h;induction a with
 | nil =>
  intro h;have:Lib.index (sig++b) sig=0:=rfl;rw [List.nil_append] at h;rw [this] at h;cases h
 | cons c a ih =>
  intro h;have e:Lib.index (c :: (a++sig++b)) sig=if sig.isPrefixOf (c :: (a++sig++b)) then 0 else if Lib.index (a++sig++b) sig == -1 then -1 else Lib.index (a++sig++b) sig+1:=rfl
  rw [show (c :: a)++sig++b=c :: (a++sig++b) from rfl,e] at h;have hge:=Lib.index_ge (a++sig++b) sig;split at h
  ·cases h
  ·split at h
   ·rename_i hx;exact ih (by simpa using hx)
   ·omega
theorem qqE {t:List UInt8} (h:noSig t) (k:Nat):noSig (t.take k):=fun a b e=>h a (b++t.drop k) (by rw [← yl,← e,yX])
theorem qqF {t:List UInt8} (h:noSig t) (k:Nat):noSig (t.drop k):=fun a b e=>h (t.take k++a) b (by rw [yl,yl,← yl a,← e,yX])
theorem quO {t:List UInt8} (h:noSig t):(t==sig)=false:=by
 rw [yB];intro e;exact h [] [] (by rw [e]; rfl)
theorem qgi (d w:Int):∀ (n:Nat) (t:List UInt8),endSp t=false→noSig t→∃ ps z,qap d w n t=ps++[z]∧(∀ x∈ps,flowB x=true)∧flowB z=false∧ps.flatten++z=t
 | 0,t,h1,h2=>⟨[],t,rfl,fun _ hx=>(List.not_mem_nil hx).elim,by unfold flowB; rw [h1]; rfl,rfl⟩
 | n+1,t,h1,h2=>by
  unfold qap;cases hc:(decide (w < (((qx d t).length:Nat):Int))&&cutN d t w != 0) with
  | false=>exact ⟨[],t,rfl,fun _ hx=>(List.not_mem_nil hx).elim,by unfold flowB; rw [h1]; rfl,rfl⟩
  | true =>
   rw [yf,bne_iff_ne] at hc;obtain ⟨k1,k2⟩:=qfw hc.2;obtain ⟨ps,z,e1,e2,e3,e4⟩:=qgi d w n (t.drop (cutN d t w)) (by rw [qgh k1]; exact h1) (qqF h2 _);refine ⟨t.take (cutN d t w) :: ps,z,by show t.take (cutN d t w) :: qap d w n (t.drop (cutN d t w))=_; rw [e1]; rfl,fun x hx=>?_,e3,?_⟩
   ·rcases List.mem_cons.1 hx with rfl | hx
    ·unfold flowB;rw [qqD hc.2 k1 k2,bne,quO (qqE h2 _)];rfl
    ·exact e2 x hx
   ·rw [List.flatten_cons,yl,e4,yX]
theorem qkg {d:Int} (hd:0≤d) (acc:List ParaT) (x:List UInt8):takeP (acc,false) (qx d x)=(acc++[(d,(x,()))],flowB x):=by
 unfold takeP z42;rw [qkf x hd,qir,show ((d.toNat:Nat):Int)=d by omega];rfl
theorem qmS {d:Int} (hd:0≤d) (acc:List ParaT) (u x:List UInt8):takeP (acc++[(d,(u,()))],true) (qx d x)=(acc++[(d,(u++x,()))],flowB x):=by
 unfold takeP z42;rw [qkf x hd,qir,show ((d.toNat:Nat):Int)=d by omega];simp
theorem qmT {d:Int} (hd:0≤d) (acc:List ParaT):∀ (ps:List (List UInt8)) (u z:List UInt8),(∀ x∈ps,flowB x=true)→flowB z=false →
 ((ps++[z]).map (qx d)).foldl takeP (acc++[(d,(u,()))],true)=(acc++[(d,(u++(ps.flatten++z),()))],false)
 | [],u,z,_,hz=>by
  show takeP (acc++[(d,(u,()))],true) (qx d z)=_;rw [qmS hd,hz];rfl
 | x :: ps,u,z,hp,hz=>by
  rw [List.cons_append,yI,List.foldl_cons,qmS hd,hp x (by simp),qmT hd acc ps (u++x) z (fun y hy=>hp y (by simp [hy])) hz,List.flatten_cons];simp only [yl]
theorem qsU {d:Int} (hd:0≤d) (acc:List ParaT) (ps:List (List UInt8)) (z:List UInt8) (hp:∀ x∈ps,flowB x=true) (hz:flowB z=false) :
 ((ps++[z]).map (qx d)).foldl takeP (acc,false)=(acc++[(d,(ps.flatten++z,()))],false):=by
 cases ps with
 | nil =>
  show takeP (acc,false) (qx d z)=_;rw [qkg hd,hz];rfl
 | cons x ps =>
  rw [List.cons_append,yI,List.foldl_cons,qkg hd,hp x (by simp),qmT hd acc ps x z (fun y hy=>hp y (by simp [hy])) hz,List.flatten_cons,yl]
def qis (p:ParaT) (w:Int):List (List UInt8):=(qap p.1 w p.2.1.length p.2.1).map (qx p.1)
theorem qsV (p:ParaT) (w:Int):layP p w=(qis p w).flatMap fun x=>x++[13,10]:=by
 unfold layP qis;rw [List.flatMap_map]
theorem qqG {p:ParaT} (h:mayB p=true) (w:Int) (acc:List ParaT):(qis p w).foldl takeP (acc,false)=(acc++[p],false)∧∀ x∈qis p w,x.any qaD=false:=by
 unfold mayB at h;simp only [yf,ym,Bool.not_eq_true',beq_iff_eq] at h;obtain ⟨⟨h1,h2⟩,h3,h4,h5⟩:=h;obtain ⟨d,t,u⟩:=p;simp only at h1 h2 h3 h4 h5;obtain ⟨ps,z,e1,e2,e3,e4⟩:=qgi d w t.length t h4 (quN h5);refine ⟨?_,fun x hx=>?_⟩
 ·unfold qis;show ((qap d w t.length t).map (qx d)).foldl takeP (acc,false)=_;rw [e1,qsU h1 acc ps z e2 e3,e4]
 ·unfold qis at hx;obtain ⟨y,hy,rfl⟩:=List.mem_map.1 hx;rw [qsT];have hy:y∈ps++[z]:=by rw [← e1]; exact hy
  rw [List.any_eq_false];intro c hc;have:c∈t:=by
   rw [← e4];rcases List.mem_append.1 hy with hy | hy
   ·exact List.mem_append_left _ (List.mem_flatten.2 ⟨y,hy,hc⟩)
   ·rw [List.mem_singleton.1 hy] at hc;exact List.mem_append_right _ hc
  exact List.any_eq_false.1 h3 c this
theorem qeV (w:Int):∀ (l:List ParaT) (acc:List ParaT),l.all mayB=true→(l.flatMap fun p=>qis p w).foldl takeP (acc,false)=(acc++l,false)∧∀ x∈l.flatMap (fun p=>qis p w),x.any qaD=false
 | [],acc,_=>⟨by simp,fun x hx=>by simp at hx⟩
 | p :: l,acc,h=>by
  rw [List.all_cons,yf] at h;obtain ⟨h1,h2⟩:=qqG h.1 w acc;obtain ⟨h3,h4⟩:=qeV w l (acc++[p]) h.2;rw [List.flatMap_cons,List.foldl_append,h1,h3,yl];refine ⟨rfl,fun x hx=>?_⟩;rcases List.mem_append.1 hx with hx | hx
  ·exact h2 x hx
  ·exact h4 x hx
theorem qoh (l:List ParaT) (w:Int) (h:l.all mayB=true):z36 (l.flatMap fun p=>layP p w)=l:=by
 obtain ⟨h1,h2⟩:=qeV w l [] h;have e:(l.flatMap fun p=>layP p w)=(l.flatMap fun p=>qis p w).flatMap fun x=>x++[13,10]:=by
  rw [List.flatMap_assoc];congr 1;funext p;exact qsV p w
 unfold z36 readP;rw [e,qog _ h2,h1];rfl
end Go.Av
