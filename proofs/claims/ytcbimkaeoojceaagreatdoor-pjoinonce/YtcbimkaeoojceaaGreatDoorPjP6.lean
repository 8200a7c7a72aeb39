import Derived.Test.YtcbimkaeoojceaaGreatDoorPjP5
import Derived.Test.YtcbimkaeoojceaaGreatDoorPjQ
namespace Go.Av
set_option linter.unusedSimpArgs false
set_option linter.unusedVariables false
theorem qEB {s:List UInt8} (hl:s.length≤3) (hd:s.all (fun c=>z77 c 8)=true):numV s < 1000∧0≤numV s:=by
 have key:∀ (s:List UInt8) (a:Nat),s.all (fun c=>z77 c 8)=true→s.foldl (fun a c=>a*10+(c.toNat - 48)) a < (a+1)*10 ^ s.length:=fun s=>by
  induction s with
  | nil=>intro a _; simp
  | cons c r ih =>
   intro a h;simp only [List.all_cons,yf] at h;have h1:=ih (a*10+(c.toNat - 48)) h.2;have h2:=(qEx c h.1).2;rw [List.foldl_cons,yg,Nat.pow_succ'];refine yH h1 ?_;rw [← Nat.mul_assoc];exact yC _ (by omega)
 have:=key s 0 hd;have h3:10 ^ s.length≤10 ^ 3:=Nat.pow_le_pow_right (by omega) hl;unfold numV;omega
theorem qme (s:List UInt8) : -1≤z81 s∧z81 s < 1000:=by
 unfold z81;cases e:(s.isEmpty||decide (3 < s.length))||(!(z79 s 8)||((s.getD 0 0==48)&&decide (1 < s.length))) with
 | true=>simp
 | false =>
  simp only [Bool.or_eq_false_iff,decide_eq_false_iff_not,Bool.not_eq_false'] at e;have:=qEB (by omega) e.2.1;simp only [yd]; omega
theorem qqo (a:List UInt8):(z58 a).1.length≤a.length∧(-1≤(z58 a).2.1∧(z58 a).2.1 < 1000):=by
 have hf:(z28 a).length=a.length:=by unfold z28; rw [yP]
 unfold z58;cases starN (z28 a) with
 | none=>simp [hf]
 | some k =>
  have hn:=qme (z80 ((z28 a).drop (k+1)) [42]).1;have ht:((z28 a).take k).length≤a.length:=by rw [yz]; omega
  show (attrW (z28 a) k).1.length≤_∧(-1≤(attrW (z28 a) k).2.1∧(attrW (z28 a) k).2.1 < 1000);unfold attrW;cases (k==0) || !(z79 ((z28 a).take k) 256) with
  | true=>simp [hf]
  | false =>
   cases ((z28 a).drop (k+1)).isEmpty with
   | true=>exact ⟨ht,by simp⟩
   | false =>
    cases z81 (z80 ((z28 a).drop (k+1)) [42]).1 == -1 with
    | true=>simp [hf]
    | false=>exact ⟨ht,hn⟩
theorem qmf:∀ (m:Nat) (s:List UInt8),s.length≤m→∀ x,unqG s=some x→x.1.length≤s.length
 | 0,[],_,x,h=>by rw [qgL] at h; cases h
 | m+1,[],_,x,h=>by rw [qgL] at h; cases h
 | m+1,[c],_,x,h=>by
  rw [qkJ] at h;cases e:c==34 with
  | true=>rw [e] at h; cases h; simp
  | false=>rw [e] at h; cases h
 | m+1,c :: d :: r,hm,x,h=>by
  simp only [yg] at hm;rw [qop] at h;cases e:c==34 with
  | true=>rw [e] at h; cases h; simp
  | false =>
   rw [e,yd] at h;cases e2:c==92 with
   | true =>
    rw [e2,yc] at h;obtain ⟨y,hy,rfl⟩:=Option.map_eq_some_iff.1 h;have:=qmf m r (by omega) y hy;simp only [yg]; omega
   | false =>
    rw [e2,yd] at h;obtain ⟨y,hy,rfl⟩:=Option.map_eq_some_iff.1 h;have:=qmf m (d :: r) (by simp only [yg]; omega) y hy;simp only [yg] at this ⊢; omega
theorem qqp (s:List UInt8):(qu s).1.length≤s.length:=by
 cases s with
 | nil=>simp [qu]
 | cons c r =>
  rw [show qu (c :: r)=bif c != 34 then ([],(0,3)) else unqR (unqG r) from rfl];cases c != 34 with
  | true=>simp
  | false =>
   cases e:unqG r with
   | none=>simp [unqR]
   | some x=>have:=qmf r.length r (yv _) x e; simp only [yd,unqR,yg]; omega
theorem qtA (s:List UInt8) (i:Int):(qaF s i).1.length≤s.length:=by
 unfold qaF;have h1:=qiX s i;have h2:=qqp (s.drop (qy s i));rw [yK] at h2;cases (qy s i==s.length)||(s.getD (qy s i) 0 != 34) with
 | true=>exact h1
 | false =>
  cases (qu (s.drop (qy s i))).2.2 != 0 with
  | true=>simp
  | false=>simp only [yd]; omega
theorem qGI (p:List UInt8) (h:((z32 p).2==0)=true):(z32 p).1.1.length≤p.length∧((z32 p).1.2.2.2.1.length≤p.length∧(-1≤(z32 p).1.2.1∧(z32 p).1.2.1 < 1000)):=by
 have h1:=qqo (oneTW p).1;have h2:(oneTW p).1.length≤p.length:=qiX p _;have h3:(oneVW p).1.length≤p.length:=qtA p _;revert h;unfold z32;cases ((oneTW p).2.2 != 0)||(!(oneSW p).2||(((oneVW p).2.2 != 0) || !(z57 (p.drop (oneVW p).2.1.toNat)))) with
 | true=>intro h; cases h
 | false=>intro _; exact ⟨by simp only [yd]; omega,h3,h1.2⟩
def readL (ps:List (List UInt8)):List qd:=ps.flatMap fun p=>bif (z32 p).2==0 then [(z32 p).1] else []
theorem qtB (b:Nat):∀ ps:List (List UInt8),(∀ x∈ps,x.length≤b)→(readL ps).length≤ps.length∧(valL (readL ps)≤totL ps∧∀ p∈readL ps,p.1.length≤b∧(p.2.2.2.1.length≤b∧(-1≤p.2.1∧p.2.1 < 1000)))
 | [],_=>by simp [readL,valL]
 | x :: ps,h=>by
  obtain ⟨h1,h2,h3⟩:=qtB b ps fun y hy=>h y (List.mem_cons_of_mem _ hy);have hx:=h x List.mem_cons_self;rw [show readL (x :: ps)=(bif (z32 x).2==0 then [(z32 x).1] else [])++readL ps from List.flatMap_cons,qiZ];cases e:(z32 x).2==0 with
  | false=>exact ⟨by simp only [yd,List.nil_append,yg]; omega,by simp only [yd,List.nil_append]; omega,h3⟩
  | true =>
   obtain ⟨g1,g2,g3⟩:=qGI x e;refine ⟨by simp only [yc,List.singleton_append,yg]; omega,by simp only [yc,List.singleton_append,qau]; omega,fun p hp=>?_⟩;rcases List.mem_cons.1 hp with rfl | hp
   ·exact ⟨by omega,by omega,g3⟩
   ·exact h3 p hp
theorem qyC (s:List UInt8) (b:Nat) (hb:s.length≤b):(z15 s).length≤s.length+1∧(valL (z15 s)≤s.length∧∀ p∈z15 s,p.1.length≤b∧(p.2.2.2.1.length≤b∧(-1≤p.2.1∧p.2.1 < 1000))):=by
 have h1:=qiY (s.length+1) s [];have h2:=qja (s.length+1) s [];rw [List.length_nil] at h2;obtain ⟨g1,g2,g3⟩:=qtB b (z31 s) fun x hx=>by have:=qtp hx; unfold z31 at this; omega
 unfold z31 at g1 g2;exact ⟨by show (readL _).length≤_; unfold z31; omega,by show valL (readL _)≤_; unfold z31; omega,g3⟩
theorem qEC {s:List UInt8} (h:s.length≤400):z7_ok s=true:=by
 obtain ⟨g1,g2,g3⟩:=qyC s 400 h;unfold z7_ok qlZ psOk;rw [qn (by omega),dT (by omega),dT (by omega),List.all_eq_true.2 fun p hp=>?_,List.all_eq_true.2 fun p hp=>?_]
 ·rfl
 ·exact dT (by have:=(g3 p hp).2.1; omega)
 ·obtain ⟨k1,k2,k3⟩:=g3 p hp;rw [qn (by omega),qn (by omega),dT k3];rfl
def wf (f:qd→Bool) (l:List qd):Nat:=valL (l.filter f)
theorem qox (f:qd→Bool) (p:qd) (l:List qd):wf f (p :: l)=(bif f p then p.2.2.2.1.length else 0)+wf f l:=by
 unfold wf;cases e:f p with
 | true=>rw [List.filter_cons_of_pos e,qau]; rfl
 | false=>rw [List.filter_cons_of_neg (by rw [e]; decide)]; simp
theorem qAS (f g h:qd→Bool) (hfg:∀ p,(f p=true→h p=true)∧(g p=true→h p=true)∧¬ (f p=true∧g p=true)):∀ l:List qd,wf f l+wf g l≤wf h l
 | []=>by simp [wf,valL]
 | p :: l=>by
  have ih:=qAS f g h hfg l;obtain ⟨h1,h2,h3⟩:=hfg p;rw [qox,qox,qox];cases ef:f p <;> cases eg:g p <;> cases eh:h p <;> simp_all <;> omega
theorem qED (f:qd→Bool) {l:List qd} {i:Nat} {p:qd} (hp:l[i]? = some p) (hf:f p=true):p.2.2.2.1.length≤wf f l :=
 qtv (List.mem_filter.2 ⟨List.mem_of_getElem? hp,hf⟩)
theorem qEE (f h:qd→Bool) (hf:∀ p,f p=true→h p=true) (l:List qd):wf f l≤wf h l:=by
 have:=qAS f (fun _=>false) h (fun p=>⟨hf p,(fun h=>by cases h),(fun h=>by cases h.2)⟩) l;omega
theorem qmg {name:List UInt8} {f:qd→Bool}:∀ {l:List qd} {i:Nat},qr name f l=some i→∃ p,l[i]? = some p∧(z19 p.1 name=true∧f p=true)
 | [],i,h=>by cases h
 | p :: l,i,h=>by
  unfold qr at h;cases e:z19 p.1 name&&f p with
  | true=>rw [e] at h; cases h; rw [yf] at e; exact ⟨p,rfl,e⟩
  | false =>
   rw [e,yd] at h;obtain ⟨j,hj,rfl⟩:=Option.map_eq_some_iff.1 h;obtain ⟨q,hq,h2⟩:=qmg hj;exact ⟨q,hq,h2⟩
theorem qoy (l:List qd) (i:Nat) (us:List Int) {p:qd} (hp:l[i]? = some p):valL (pickP l ((i:Int) :: us))=p.2.2.2.1.length+valL (pickP l us):=by
 rw [show pickP l ((i:Int) :: us)=l.getD (Int.toNat (i:Int)) par0 :: pickP l us from rfl,qau,tn];rw [show l.getD i par0=p from by rw [yY,hp]; rfl]
theorem qtC (l:List qd) (name:List UInt8):∀ (k:Nat) (n:Int),valL (pickP l (numsP l name k n))≤wf (fun p=>z19 p.1 name&&decide (n≤p.2.1)) l
 | 0,n=>by simp [numsP,pickP,valL]
 | k+1,n=>by
  unfold numsP;cases e:qr name (numP n) l with
  | none=>simp [pickP,valL]
  | some i =>
   obtain ⟨p,hp,h1,h2⟩:=qmg e;simp only;rw [qoy l i _ hp];have ih:=qtC l name k (n+1);have h3:=qED (fun p=>z19 p.1 name&&numP n p) hp (by rw [h1,h2]; rfl);have h4:=qAS (fun p=>z19 p.1 name&&numP n p) (fun p=>z19 p.1 name&&decide (n+1≤p.2.1)) (fun p=>z19 p.1 name&&decide (n≤p.2.1)) (fun p=>by
    unfold numP;simp only [yf,beq_iff_eq,ym];refine ⟨fun h=>⟨h.1,by omega⟩,fun h=>⟨h.1,by omega⟩,fun h=>by omega⟩) l
   omega
def sameW (l:List qd) (name:List UInt8):Nat:=wf (fun p=>z19 p.1 name) l
theorem qAT (l:List qd) (name:List UInt8):valL (pickP l (usedP l name))≤sameW l name:=by
 have hone:∀ (f:qd→Bool) (i:Nat),qr name f l=some i→valL (pickP l [(i:Int)])≤sameW l name:=fun f i e=>by
  obtain ⟨p,hp,h1,h2⟩:=qmg e;rw [qoy l i _ hp];have:=qED (fun p=>z19 p.1 name) hp h1;unfold sameW;simp only [pickP,List.map_nil,show valL ([]:List qd)=0 from rfl];omega
 have hn:=yL (qtC l name 1001 0) (qEE _ (fun p=>z19 p.1 name) (fun p h=>by rw [yf] at h; exact h.1) l);unfold usedP;cases e1:qr name extP l with
 | some i=>exact hone _ i e1
 | none =>
  simp only;cases e2:numsP l name 1001 0 with
  | cons x xs =>
   rw [e2] at hn;cases qr name qax l <;> exact hn
  | nil =>
   cases e3:qr name qax l with
   | none=>simp [pickP,valL]
   | some i=>exact hone _ i e3
theorem qxv (s:List UInt8):z28 (z28 s)=z28 s:=by
 have h:∀ i:Fin 256,z44 (z44 (UInt8.ofNat i.val))=z44 (UInt8.ofNat i.val):=by decide +kernel
 unfold z28;rw [List.map_map];exact List.map_congr_left fun c _=>qBJ (P:=fun c=>z44 (z44 c)=z44 c) h c
structure PairG (l:List qd) (p:PairT):Prop where
 fold:z28 p.1=p.1
 len:p.1.length≤1000
 text:p.2.1.length≤sameW l p.1
 right:p.2.1.all z21=true
theorem qEF:∀ l:List qd,(octsP l).length≤valL l
 | []=>by simp [octsP,valL]
 | p :: r=>by
  have h1:=qtu p.2.2.2.1;have h2:=qtt (z46 p.2.2.2.1).2.1;have hf:∀ (q:List qd),(q.flatMap qca).length≤valL q:=fun q=>by
   induction q with
   | nil=>simp [valL]
   | cons x q ih=>have:=qjd x; rw [List.flatMap_cons,yn,qau]; omega
  have h3:=hf r;unfold octsP qEs;rw [yn,qau];cases p.2.2.1 with
  | true=>simp only [yc]; omega
  | false=>simp only [yd]; omega
theorem qEG (l:List qd):(z30 l).length≤valL l∧(z30 l).all z21=true:=by
 cases l with
 | nil=>simp [z30]
 | cons p r =>
  have h1:=qEF (p :: r);show (bif p.2.2.1 then z50 (csP p) (octsP (p :: r)) else z51 (octsP (p :: r))).length≤_∧(bif p.2.2.1 then z50 (csP p) (octsP (p :: r)) else z51 (octsP (p :: r))).all z21=true;cases p.2.2.1 with
  | true=>exact ⟨yL (qix _ _) h1,qAW _ _⟩
  | false=>exact ⟨yL (qlB _ _) h1,qmh _ _⟩
theorem qgN (l:List qd) (hl:∀ p∈l,p.1.length≤1000):∀ (r:List qd) (M:List (List UInt8)),(∀ p∈r,p∈l)→(∀ p∈joinF l r M,PairG l p∧M.contains p.1=false)∧((joinF l r M).map (·.1)).Nodup
 | [],M,_=>⟨fun p hp=>by simp [joinF] at hp,by simp [joinF]⟩
 | q :: r,M,hr=>by
  have hq:=hr q List.mem_cons_self;have hr':=fun p hp=>hr p (List.mem_cons_of_mem _ hp);unfold joinF;cases e1:M.contains (z28 q.1)||(usedP l (z28 q.1)).isEmpty with
  | true=>exact qgN l hl r M hr'
  | false =>
   rw [Bool.or_eq_false_iff] at e1;obtain ⟨i1,i2⟩:=qgN l hl r (z28 q.1 :: M) hr';have ht:=qEG (pickP l (usedP l (z28 q.1)));simp only [yd];refine ⟨fun p hp=>?_,?_⟩
   ·rcases List.mem_cons.1 hp with rfl | hp
    ·exact ⟨⟨qxv _,by show (z28 q.1).length≤_; unfold z28; rw [yP]; exact hl q hq,yL ht.1 (qAT l _),ht.2⟩,e1.1⟩
    ·obtain ⟨j1,j2⟩:=i1 p hp;rw [List.contains_cons,Bool.or_eq_false_iff] at j2;exact ⟨j1,j2.2⟩
   ·rw [yI,List.nodup_cons];refine ⟨fun hm=>?_,i2⟩;obtain ⟨p,hp,he⟩:=List.mem_map.1 hm;have:=(i1 p hp).2;rw [List.contains_cons,Bool.or_eq_false_iff] at this;have he':p.1=z28 q.1:=he;rw [he',beq_self_eq_true] at this;cases this.1
theorem qyD (a:List UInt8) (v:Nat):∀ N:List (List UInt8),N.Nodup→(N.map fun nm=>bif a==nm then v else 0).sum≤v
 | [],_=>by simp
 | x :: N,h=>by
  rw [List.nodup_cons] at h;have ih:=qyD a v N h.2;rw [yI,List.sum_cons];cases e:a==x with
  | true =>
   have hz:(N.map fun nm=>bif a==nm then v else 0).sum=0:=by
    have:∀ N':List (List UInt8),x ∉ N'→(N'.map fun nm=>bif a==nm then v else 0).sum=0:=fun N'=>by
     induction N' with
     | nil=>simp
     | cons y N' ih' =>
      intro hx;rw [List.mem_cons,not_or] at hx;rw [yI,List.sum_cons,ih' hx.2,beq_eq_false_iff_ne.2 (fun e2=>hx.1 ((eq_of_beq e).symm.trans e2))];rfl
    exact this N h.1
   rw [hz];simp
  | false=>simp only [yd]; omega
theorem cover:∀ (l:List qd) (N:List (List UInt8)),N.Nodup→(∀ nm∈N,z28 nm=nm)→(N.map (sameW l)).sum≤valL l
 | [],N,_,_=>by
  have:∀ N:List (List UInt8),(N.map (sameW [])).sum=0:=fun N=>by
   induction N with
   | nil=>rfl
   | cons x N ih=>rw [yI,List.sum_cons,ih]; rfl
  rw [this]; exact Nat.zero_le _
 | p :: l,N,h,hf=>by
  have ih:=cover l N h hf;have h1:=qyD (z28 p.1) p.2.2.2.1.length N h;have h2:(N.map (sameW (p :: l))).sum=(N.map fun nm=>bif z28 p.1==nm then p.2.2.2.1.length else 0).sum+(N.map (sameW l)).sum:=by
   clear h1 ih h;induction N with
   | nil=>rfl
   | cons x N ih =>
    have hx:sameW (p :: l) x=(bif z28 p.1==x then p.2.2.2.1.length else 0)+sameW l x:=by
     unfold sameW;rw [qox];have:z19 p.1 x=(z28 p.1==x):=by
      have:=hf x List.mem_cons_self;unfold z19;rw [show x.map z44=x from this];rfl
     rw [this]
    rw [yI,yI,yI,List.sum_cons,List.sum_cons,List.sum_cons,ih fun nm hm=>hf nm (List.mem_cons_of_mem _ hm),hx];omega
  rw [h2,qau];omega
def txtL (P:List PairT):Nat:=(P.map fun p=>p.2.1.length).sum
theorem qje (p:PairT) (P:List PairT):txtL (p :: P)=p.2.1.length+txtL P:=by simp [txtL]
theorem qoz (l:List qd):∀ P:List PairT,(∀ p∈P,PairG l p)→txtL P≤((P.map (·.1)).map (sameW l)).sum
 | [],_=>by simp [txtL]
 | p :: P,h=>by
  have ih:=qoz l P fun q hq=>h q (List.mem_cons_of_mem _ hq);have:=(h p List.mem_cons_self).text;rw [qje,yI,yI,List.sum_cons];omega
structure OnceG (s:List UInt8) (P:List PairT):Prop where
 each:∀ p∈P,z28 p.1=p.1∧(p.1.length≤1000∧(p.2.1.length≤400∧p.2.1.all z21=true))
 names:(P.map (·.1)).Nodup
 total:txtL P≤s.length
 count:P.length≤1000
theorem qjf (l:List qd):∀ (r:List qd) (M:List (List UInt8)),(joinF l r M).length≤r.length
 | [],M=>by simp [joinF]
 | q :: r,M=>by
  unfold joinF;have h1:=qjf l r M;have h2:=qjf l r (z28 q.1 :: M);cases M.contains (z28 q.1)||(usedP l (z28 q.1)).isEmpty with
  | true=>simp only [yc,yg]; omega
  | false=>simp only [yd,yg]; omega
theorem qEH (s:List UInt8) (h:s.length≤400):OnceG s (z7 s):=by
 obtain ⟨g1,g2,g3⟩:=qyC s 400 h;obtain ⟨j1,j2⟩:=qgN (z15 s) (fun p hp=>by have:=(g3 p hp).1; omega) (z15 s) [] fun _ hp=>hp;have hc:=cover (z15 s) ((z7 s).map (·.1)) j2 fun nm hm=>by
  obtain ⟨p,hp,rfl⟩:=List.mem_map.1 hm;exact (j1 p hp).1.fold
 have ht:=qoz (z15 s) (z7 s) fun p hp=>(j1 p hp).1;have hlen:=qjf (z15 s) (z15 s) [];refine ⟨fun p hp=>?_,j2,by omega,by show (joinF _ _ _).length≤_; omega⟩;have hg:=(j1 p hp).1;have hs:sameW (z15 s) p.1≤valL (z15 s):=by
  have:=cover (z15 s) [p.1] (by simp) fun nm hm=>by rw [List.mem_singleton.1 hm]; exact hg.fold
  simpa using this
 have:=hg.text;exact ⟨hg.fold,hg.len,by omega,hg.right⟩
end Go.Av
