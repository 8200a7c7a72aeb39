import Derived.Test.YtmdadpepccbpcaaGreatDoorPoT3
namespace Go.Av
set_option linter.unusedSimpArgs false
set_option linter.unusedVariables false
section
open UInt8 (ofNat)
variable {cs c:Int} {t:LI} {n:Nat}
theorem qpH {p:Int→Bool}:∀ (t:LI) (i:Nat),decide (qac p t i < 0)=t.all p
 | [],i=>rfl
 | c :: r,i=>by
  rw[show qac p (c :: r) (i:Int)=bif p c then qac p r ((i+1:Nat):Int) else (i:Int) from rfl,List.all_cons];cases p c with
  | true=>exact qpH r (i+1)
  | false=>exact dF (by show ¬ (i:Int) < 0;omega)
theorem qVH {p q:Int→Bool} (h1:p 1=q 1) (h2:p 2=q 2) (h3:p 3=q 3) (h4:p 4=q 4) (h5:p 5=q 5):selF p=selF q:=by
 unfold selF qqj;rw[h1,h2,h3,h4,h5]
theorem all12 (n:Int) (t:LI) (h:i32s t=true) (h1:1≤n∧n≤5):z51 n t=t.all (z105 n):=by
 unfold z51 z107;rw[dT h1.1,dT h1.2];have:=qpH (p:=z131 n) t 0;rw[show decide (qac (z131 n) t 0 < 0)=t.all (z131 n) from this,qCV (q:=z105 n) (fun c hc=>(qPC n (qfh h hc)).symm)];rfl
theorem qKm (t:LI) (h:i32s t=true):z24 t=z26 t :=
 qVH (all12 1 t h (by omega)).symm (all12 2 t h (by omega)).symm (all12 3 t h (by omega)).symm (all12 4 t h (by omega)).symm (all12 5 t h (by omega)).symm
theorem qVI {p:Int→Bool} (h:(selF p).2=0):(1≤(selF p).1∧(selF p).1≤5)∧p (selF p).1=true:=by
 unfold selF qqj at h ⊢;cases h1:p 1 with
 | true=>simp[h1]
 | false =>
  cases h2:p 2 with
  | true=>simp[h1,h2]
  | false =>
   cases h3:p 3 with
   | true=>simp[h1,h2,h3]
   | false =>
    cases h4:p 4 with
    | true=>simp[h1,h2,h3,h4]
    | false =>
     cases h5:p 5 with
     | true=>simp[h1,h2,h3,h4,h5]
     | false =>
      rw[h1,h2,h3,h4,h5] at h;cases h
theorem qKn (h1:1≤cs∧cs≤5) (h:t.all (z131 cs)=true):(z32 cs t).2=0:=by
 have h':cs=1∨cs=2∨cs=3∨cs=4∨cs=5:=by omega
 unfold z32;rw[dF (show ¬ cs < 1 by omega),dF (show ¬ 5 < cs by omega),qCV (q:=z131 cs) (fun c _=>quL h'),h];rfl
theorem qVJ (h:i32s t=true) (h0:(z24 t).2=0):(1≤(z24 t).1∧(z24 t).1≤5)∧(z32 (z24 t).1 t).2=0:=by
 obtain⟨h1,h2⟩:=qVI h0;refine⟨h1,qKn h1 ?_⟩;rw[qCV (q:=z105 (z24 t).1) (fun c hc=>(qPC _ (qfh h hc)).symm)];exact h2
theorem oct8N {i:Int} (m:Nat) (h:m < 256) (hi:i=m):oct8 i=ofNat m:=by
 subst hi;unfold oct8;rw[IntWalk.u8_in (m:Int) (by omega),Int.toNat_natCast]
theorem follN:∀ b:Fin 64,z237 (ofNat (128+b.val))=true∧((ofNat (128+b.val)) &&& 63).toNat=b.val:=by decide +kernel
theorem qKo:∀ a:Fin 128,qc (ofNat a.val)=1∧((ofNat a.val) &&& (255 ^^^ z185 1)).toNat=a.val:=by decide +kernel
theorem qKp:∀ a:Fin 32,2≤a.val→qc (ofNat (192+a.val))=2∧((ofNat (192+a.val)) &&& (255 ^^^ z185 2)).toNat=a.val:=by decide +kernel
theorem qDC:∀ a:Fin 32,∀ b:Fin 64,z238 (ofNat (192+a.val)) (ofNat (128+b.val))=true:=by decide +kernel
theorem qwO:∀ a:Fin 16,qc (ofNat (224+a.val))=3∧((ofNat (224+a.val)) &&& (255 ^^^ z185 3)).toNat=a.val:=by decide +kernel
theorem qst:∀ a:Fin 16,∀ b:Fin 64,(a.val=0→32≤b.val)→(a.val=13→b.val < 32)→z238 (ofNat (224+a.val)) (ofNat (128+b.val))=true:=by decide +kernel
theorem qDD:∀ a:Fin 5,qc (ofNat (240+a.val))=4∧((ofNat (240+a.val)) &&& (255 ^^^ z185 4)).toNat=a.val:=by decide +kernel
theorem qwP:∀ a:Fin 5,∀ b:Fin 64,(a.val=0→16≤b.val)→(a.val=4→b.val < 16)→z238 (ofNat (240+a.val)) (ofNat (128+b.val))=true:=by decide +kernel
theorem qKq (a:Nat) (ha:a < 128) (r:LU):z178 (ofNat a :: r)=((a:Int),1,0):=by
 obtain⟨h1,h2⟩:=qKo ⟨a,ha⟩;simp only at h1 h2;have hf:farN (ofNat a :: r)=1:=by
  show (bif qc (ofNat a)==0 then 0 else 1+runB (ofNat a) (qc (ofNat a) - 1) true r)=1;rw[h1];rfl
 unfold z178;simp only[hf,h1];show (signN 1 (ofNat a :: r),((1:Nat):Int),(0:Int))=_;show (((ofNat a &&& (255 ^^^ z185 ((1:Nat):Int))).toNat:Int),((1:Nat):Int),(0:Int))=_;rw[show z185 ((1:Nat):Int)=z185 1 from rfl,h2];rfl
theorem qQI (a b:Nat) (ha:a < 32) (ha2:2≤a) (hb:b < 64) (r:LU):z178 (ofNat (192+a) :: ofNat (128+b) :: r)=(((a*64+b:Nat):Int),2,0):=by
 obtain⟨h1,h2⟩:=qKp ⟨a,ha⟩ ha2;obtain⟨h3,h4⟩:=follN ⟨b,hb⟩;have h5:=qDC ⟨a,ha⟩ ⟨b,hb⟩;simp only at h1 h2 h3 h4 h5;have hf:farN (ofNat (192+a) :: ofNat (128+b) :: r)=2:=by
  show (bif qc (ofNat (192+a))==0 then 0 else 1+runB (ofNat (192+a)) (qc (ofNat (192+a)) - 1) true (ofNat (128+b) :: r))=2;rw[h1];show 1+(bif z237 (ofNat (128+b))&&(!true||z238 (ofNat (192+a)) (ofNat (128+b))) then runB (ofNat (192+a)) 0 false r+1 else 0)=2;rw[h3,h5];rfl
 unfold z178;simp only[hf,h1];show ((((ofNat (192+a) &&& (255 ^^^ z185 ((2:Nat):Int))).toNat:Nat):Int)*64+(((ofNat (128+b)) &&& 63).toNat:Int),((2:Nat):Int),(0:Int))=_;rw[show z185 ((2:Nat):Int)=z185 2 from rfl,h2,h4];congr 1
theorem qDE (a b c:Nat) (ha:a < 16) (hb:b < 64) (hc:c < 64) (h0:a=0→32≤b) (h13:a=13→b < 32) (r:LU) :
 z178 (ofNat (224+a) :: ofNat (128+b) :: ofNat (128+c) :: r)=((((a*64+b)*64+c:Nat):Int),3,0):=by
 obtain⟨h1,h2⟩:=qwO ⟨a,ha⟩;obtain⟨h3,h4⟩:=follN ⟨b,hb⟩;obtain⟨h6,h7⟩:=follN ⟨c,hc⟩;have h5:=qst ⟨a,ha⟩ ⟨b,hb⟩ h0 h13;simp only at h1 h2 h3 h4 h5 h6 h7;have hf:farN (ofNat (224+a) :: ofNat (128+b) :: ofNat (128+c) :: r)=3:=by
  show (bif qc (ofNat (224+a))==0 then 0 else 1+runB (ofNat (224+a)) (qc (ofNat (224+a)) - 1) true (ofNat (128+b) :: ofNat (128+c) :: r))=3;rw[h1];show 1+(bif z237 (ofNat (128+b))&&(!true||z238 (ofNat (224+a)) (ofNat (128+b))) then (bif z237 (ofNat (128+c))&&(!false||z238 (ofNat (224+a)) (ofNat (128+c))) then runB (ofNat (224+a)) 0 false r+1 else 0)+1 else 0)=3;rw[h3,h5,h6];rfl
 unfold z178;simp only[hf,h1];show (((((ofNat (224+a) &&& (255 ^^^ z185 ((3:Nat):Int))).toNat:Nat):Int)*64+(((ofNat (128+b)) &&& 63).toNat:Int))*64+(((ofNat (128+c)) &&& 63).toNat:Int),((3:Nat):Int),(0:Int))=_;rw[show z185 ((3:Nat):Int)=z185 3 from rfl,h2,h4,h7];congr 1
theorem qKr (a b c d:Nat) (ha:a < 5) (hb:b < 64) (hc:c < 64) (hd:d < 64) (h0:a=0→16≤b) (h4':a=4→b < 16) (r:LU) :
 z178 (ofNat (240+a) :: ofNat (128+b) :: ofNat (128+c) :: ofNat (128+d) :: r)=(((((a*64+b)*64+c)*64+d:Nat):Int),4,0):=by
 obtain⟨h1,h2⟩:=qDD ⟨a,ha⟩;obtain⟨h3,h4⟩:=follN ⟨b,hb⟩;obtain⟨h6,h7⟩:=follN ⟨c,hc⟩;obtain⟨h8,h9⟩:=follN ⟨d,hd⟩;have h5:=qwP ⟨a,ha⟩ ⟨b,hb⟩ h0 h4';simp only at h1 h2 h3 h4 h5 h6 h7 h8 h9;have hf:farN (ofNat (240+a) :: ofNat (128+b) :: ofNat (128+c) :: ofNat (128+d) :: r)=4:=by
  show (bif qc (ofNat (240+a))==0 then 0 else 1+runB (ofNat (240+a)) (qc (ofNat (240+a)) - 1) true (ofNat (128+b) :: ofNat (128+c) :: ofNat (128+d) :: r))=4;rw[h1];show 1+(bif z237 (ofNat (128+b))&&(!true||z238 (ofNat (240+a)) (ofNat (128+b))) then (bif z237 (ofNat (128+c))&&(!false||z238 (ofNat (240+a)) (ofNat (128+c))) then (bif z237 (ofNat (128+d))&&(!false||z238 (ofNat (240+a)) (ofNat (128+d))) then runB (ofNat (240+a)) 0 false r+1 else 0)+1 else 0)+1 else 0)=4;rw[h3,h5,h6,h8];rfl
 unfold z178;simp only[hf,h1];show ((((((ofNat (240+a) &&& (255 ^^^ z185 ((4:Nat):Int))).toNat:Nat):Int)*64+(((ofNat (128+b)) &&& 63).toNat:Int))*64+(((ofNat (128+c)) &&& 63).toNat:Int))*64+(((ofNat (128+d)) &&& 63).toNat:Int),((4:Nat):Int),(0:Int))=_;rw[show z185 ((4:Nat):Int)=z185 4 from rfl,h2,h4,h7,h9];congr 1
theorem qQJ (h:z36 (n:Int)=true) (h1:n < 128):z135 (n:Int)=[ofNat n]:=by
 unfold z135;rw[h,dT (by omega),oct8N n (by omega) rfl];rfl
theorem qQK (h:z36 (n:Int)=true) (h1:¬ n < 128) (h2:n < 2048):z135 (n:Int)=[ofNat (192+n / 64),ofNat (128+n % 64)]:=by
 unfold z135;rw[h,dF (by omega),dT (show (n:Int) < 2048 by omega)];simp only[Bool.not_true,yd,yc];rw[oct8N (192+n / 64) (by omega) (by omega),oct8N (128+n % 64) (by omega) (by omega)]
theorem qDF (h:z36 (n:Int)=true) (h2:¬ n < 2048) (h3:n < 65536):z135 (n:Int)=[ofNat (224+n / 4096),ofNat (128+n / 64 % 64),ofNat (128+n % 64)]:=by
 unfold z135;rw[h,dF (show ¬ (n:Int) < 128 by omega),dF (show ¬ (n:Int) < 2048 by omega),dT (show (n:Int) < 65536 by omega)];simp only[Bool.not_true,yd,yc];rw[oct8N (224+n / 4096) (by omega) (by omega),oct8N (128+n / 64 % 64) (by omega) (by omega),oct8N (128+n % 64) (by omega) (by omega)]
theorem qKs (h:z36 (n:Int)=true) (h3:¬ n < 65536) (h4:n≤1114111):z135 (n:Int)=[ofNat (240+n / 262144),ofNat (128+n / 4096 % 64),ofNat (128+n / 64 % 64),ofNat (128+n % 64)]:=by
 unfold z135;rw[h,dF (show ¬ (n:Int) < 128 by omega),dF (show ¬ (n:Int) < 2048 by omega),dF (show ¬ (n:Int) < 65536 by omega)];simp only[Bool.not_true,yd];rw[oct8N (240+n / 262144) (by omega) (by omega),oct8N (128+n / 4096 % 64) (by omega) (by omega),oct8N (128+n / 64 % 64) (by omega) (by omega),oct8N (128+n % 64) (by omega) (by omega)]
theorem qwQ (h:z36 c=true) (r:LU):z178 (z135 c++r)=(c,(((z135 c).length:Nat):Int),0)∧0 < (z135 c).length:=by
 have hi:=h;unfold z36 z77 at hi;simp only[yf,ym,Bool.not_eq_true'] at hi;obtain⟨hi1,hi2,hi3⟩:=hi;obtain⟨n,rfl⟩:∃ n:Nat,c=n:=⟨c.toNat,by omega⟩;have hi2:n≤1114111:=by omega
 by_cases h1:n < 128
 ·rw[qQJ h h1];exact⟨qKq n (by omega) r,Nat.succ_pos _⟩
 ·by_cases h2:n < 2048
  ·rw[qQK h h1 h2];have e:=qQI (n / 64) (n % 64) (by omega) (by omega) (by omega) r;rw[show n / 64*64+n % 64=n by omega] at e;exact⟨e,Nat.succ_pos _⟩
  ·by_cases h3:n < 65536
   ·rw[qDF h h2 h3];have hs:¬ (55296≤n∧n≤57343):=fun ⟨a,b⟩=>by
     rw[dT (show (55296:Int)≤(n:Int) by omega),dT (show (n:Int)≤57343 by omega)] at hi3;exact absurd hi3 (by decide)
    have e:=qDE (n / 4096) (n / 64 % 64) (n % 64) (by omega) (by omega) (by omega) (by omega) (fun e=>by omega) r;rw[show (n / 4096*64+n / 64 % 64)*64+n % 64=n by omega] at e;exact⟨e,Nat.succ_pos _⟩
   ·rw[qKs h h3 hi2];have e:=qKr (n / 262144) (n / 4096 % 64) (n / 64 % 64) (n % 64) (by omega) (by omega) (by omega) (by omega) (fun e=>by omega) (fun e=>by omega) r;rw[show ((n / 262144*64+n / 4096 % 64)*64+n / 64 % 64)*64+n % 64=n by omega] at e;exact⟨e,Nat.succ_pos _⟩
theorem qlj:∀ (t:LI) (n:Nat),(∀ c∈t,z36 c=true)→(t.flatMap z135).length < n→utfR n (t.flatMap z135)=t
 | [],0,_,h=>by simp at h
 | [],n+1,_,_=>rfl
 | c :: t,0,_,h=>by simp at h
 | c :: t,n+1,hc,h=>by
  rw[List.flatMap_cons] at h ⊢;obtain⟨h1,h2⟩:=qwQ (hc c (by simp)) (t.flatMap z135);rw[yn] at h;have ih:=qlj t n (fun x hx=>hc x (by simp[hx])) (by omega);have hstep:∀ s:LU,s≠[]→utfR (n+1) s=(bif (z178 s).2.2 != 0 then 65533 else (z178 s).1) :: utfR n (s.drop (z178 s).2.1.toNat):=fun s hs=>by
   cases s with
   | nil=>exact absurd rfl hs
   | cons=>rfl
  rw[hstep _ (by
   intro e;have:=congrArg List.length e;rw[yn,List.length_nil] at this;omega),h1]
  show c :: utfR n ((z135 c++t.flatMap z135).drop (Int.toNat (((z135 c).length:Nat):Int)))=c :: t;rw[Int.toNat_natCast,List.drop_left,ih]
theorem qga {cs:Int} {g:UInt8→Int} (hg:∀ c,(z71 cs c).length≠0→∃ x,z71 cs c=[x]∧g x=c) :
 ∀ t:LI,(t.all fun c=>(z71 cs c).length != 0)=true→(t.flatMap (z71 cs)).map g=t
 | [],_=>rfl
 | c :: t,h=>by
  rw[List.all_cons,yf] at h;obtain⟨x,h1,h2⟩:=hg c (by simpa using h.1);rw[List.flatMap_cons,h1,List.map_append,qga hg t h.2,yI,List.map_nil,h2];rfl
theorem qvh (h:n < 256):(ofNat n).toNat=n:=by simp;omega
theorem qDG (c:Int) (h:(z71 1 c).length≠0):∃ x,z71 1 c=[x]∧z114 (x.toNat:Int)=c:=by
 unfold z71 at h ⊢;rw[show z131 1 c=(decide (0≤c)&&decide (c < 128)) from rfl] at h ⊢
 by_cases hc:0≤c∧c < 128
 ·obtain⟨n,rfl⟩:∃ n:Nat,c=n:=⟨c.toNat,by omega⟩;refine⟨oct8 (n:Int),by rw[dT hc.1,dT hc.2];rfl,?_⟩;rw[oct8N n (by omega) rfl,qvh (by omega)];unfold z114;rw[dF (by omega)];rfl
 ·exfalso;rw[show (decide (0≤c)&&decide (c < 128))=false by
   rw[← Bool.not_eq_true,yf,ym,ym];exact hc] at h
  exact h rfl
theorem qDH (c:Int) (h:(z71 2 c).length≠0):∃ x,z71 2 c=[x]∧((x.toNat:Int))=c:=by
 unfold z71 at h ⊢;rw[show z131 2 c=(z132 c).2 from rfl] at h ⊢;unfold z132 at h ⊢
 by_cases hc:0≤c∧c < 256
 ·obtain⟨n,rfl⟩:∃ n:Nat,c=n:=⟨c.toNat,by omega⟩;refine⟨ofNat n,by rw[dT hc.1,dT hc.2];rfl,?_⟩;rw[qvh (by omega)]
 ·exfalso;rw[show (decide (0≤c)&&decide (c < 256))=false by
   rw[← Bool.not_eq_true,yf,ym,ym];exact hc] at h
  exact h rfl
theorem qDI:∀ i:Fin 256,(z127 ((i.val:Nat):Int)).2=true→z90 (z127 ((i.val:Nat):Int)).1=((i.val:Nat):Int):=by decide +kernel
theorem qwR:∀ c∈([8364,352,353,381,382,338,339,376]:LI),z90 (z127 c).1=c:=by decide +kernel
theorem qKt (h1:c ∉ ([8364,352,353,381,382,338,339,376]:LI)) (h2:c < 0∨256≤c):(z127 c).2=false:=by
 simp only[List.mem_cons,List.not_mem_nil,or_false,not_or] at h1;obtain⟨a1,a2,a3,a4,a5,a6,a7,a8⟩:=h1;have b:∀ k:Int,0≤k→k < 256→(c==k)=false:=fun k _ _=>by
  rw[yB];omega
 unfold z127;rw[beq_eq_false_iff_ne.2 a1,beq_eq_false_iff_ne.2 a2,beq_eq_false_iff_ne.2 a3,beq_eq_false_iff_ne.2 a4,beq_eq_false_iff_ne.2 a5,beq_eq_false_iff_ne.2 a6,beq_eq_false_iff_ne.2 a7,beq_eq_false_iff_ne.2 a8,
  b 164 (by decide) (by decide),b 166 (by decide) (by decide),b 168 (by decide) (by decide),b 180 (by decide) (by decide),b 184 (by decide) (by decide),b 188 (by decide) (by decide),b 189 (by decide) (by decide),b 190 (by decide) (by decide)]
 have:(decide (c < 0)||decide (256≤c))=true:=by
  rw[yR,ym,ym];exact h2
 rw[this];rfl
theorem qKu (c:Int) (h:(z71 3 c).length≠0):∃ x,z71 3 c=[x]∧z90 x=c:=by
 unfold z71 at h ⊢;rw[show z131 3 c=(z127 c).2 from rfl] at h ⊢;cases hp:(z127 c).2 with
 | false=>rw[hp] at h;exact absurd rfl h
 | true =>
  refine⟨(z127 c).1,rfl,?_⟩
  by_cases h1:c∈([8364,352,353,381,382,338,339,376]:LI)
  ·exact qwR c h1
  ·by_cases h2:c < 0∨256≤c
   ·rw[qKt h1 h2] at hp;cases hp
   ·obtain⟨n,rfl⟩:∃ n:Nat,c=n:=⟨c.toNat,by omega⟩;exact qDI ⟨n,by omega⟩ hp
theorem qMh (c:Int):∀ (l:LI) (i:Int),0≤i→0≤qac (fun x => !(c==x)) l i→∃ k:Nat,k < l.length∧qac (fun x => !(c==x)) l i=i+(k:Nat)∧l.getD k 0=c
 | [],_,_,h=>absurd (show (0:Int) ≤ -1 from h) (by decide)
 | x :: r,i,hi,h=>by
  rw[show qac (fun x => !(c==x)) (x :: r) i=bif !(c==x) then qac (fun x => !(c==x)) r (i+1) else i from rfl] at h ⊢
  by_cases e:c=x
  ·subst e;refine⟨0,by simp,?_,rfl⟩;rw[beq_self_eq_true];simp
  ·rw[beq_eq_false_iff_ne.2 e] at h ⊢;obtain⟨k,h1,h2,h3⟩:=qMh c r (i+1) (by omega) h;refine⟨k+1,by rw[yg];omega,?_,by rw[List.getD_cons_succ];exact h3⟩;show qac (fun x => !(c==x)) r (i+1)=_;rw[h2];omega
theorem qKv:∀ i:Fin 32,256≤z177.getD i.val 0→z91 (oct8 (IntKind.wrap .i64 (128+((0:Int)+(i.val:Nat)))))=z177.getD i.val 0:=by decide +kernel
theorem qVK:∀ i:Fin 256,(i.val < 128∨160≤i.val)→z91 (ofNat i.val)=((i.val:Nat):Int):=by decide +kernel
theorem qQL (c:Int) (h:(z71 4 c).length≠0):∃ x,z71 4 c=[x]∧z91 x=c:=by
 unfold z71 at h ⊢;rw[show z131 4 c=(z129 c).2 from rfl] at h ⊢;cases hp:(z129 c).2 with
 | false=>rw[hp] at h;exact absurd rfl h
 | true =>
  refine⟨(z129 c).1,rfl,?_⟩;unfold z129 at hp ⊢
  by_cases h1:(0≤c∧c < 128)∨(160≤c∧c < 256)
  ·have e:((decide (0≤c)&&decide (c < 128))||(decide (160≤c)&&decide (c < 256)))=true:=by
    simp only[yR,yf,ym];exact h1
   rw[e];obtain⟨n,rfl⟩:∃ n:Nat,c=n:=⟨c.toNat,by omega⟩;show z91 (oct8 (n:Int))=_;rw[oct8N n (by omega) rfl];exact qVK ⟨n,by omega⟩ (by simp only;omega)
  ·have e:((decide (0≤c)&&decide (c < 128))||(decide (160≤c)&&decide (c < 256)))=false:=by
    rw[← Bool.not_eq_true];simp only[yR,yf,ym];exact h1
   rw[e] at hp ⊢
   by_cases h2:c < 256
   ·rw[dT h2] at hp;exact absurd (show false=true from hp) (by decide)
   ·rw[dF h2] at hp ⊢
    by_cases h3:z186 z177 c < 0
    ·rw[dT h3] at hp;exact absurd (show false=true from hp) (by decide)
    ·rw[dF h3];obtain⟨k,k1,k2,k3⟩:=qMh c z177 0 (by decide) (by unfold z186 at h3;omega);show z91 (oct8 (IntKind.wrap .i64 (128+z186 z177 c)))=c;unfold z186;rw[k2];have:=qKv ⟨k,k1⟩ (by rw[k3];omega);rw[k3] at this;exact this
theorem qDJ (t:LI) (h1:1≤cs∧cs≤5) (h0:(z32 cs t).2=0):z29 cs (z32 cs t).1=t:=by
 have hb:(decide (cs < 1)||decide (5 < cs))=false:=by
  rw[dF (by omega),dF (by omega)];rfl
 unfold z32 at h0 ⊢;rw[hb] at h0 ⊢;cases ha:t.all (fun c=>(z71 cs c).length != 0) with
 | false=>rw[ha] at h0;exact absurd (show (9:Int)=0 from h0) (by decide)
 | true =>
  show z29 cs (t.flatMap (z71 cs))=t;obtain rfl | rfl | rfl | rfl | rfl:cs=1∨cs=2∨cs=3∨cs=4∨cs=5:=by omega
  ·exact qga (g:=fun x=>z114 (x.toNat:Int)) qDG t ha
  ·exact qga (g:=fun x=>(x.toNat:Int)) qDH t ha
  ·exact qga qKu t ha
  ·exact qga qQL t ha
  ·have hi:∀ c∈t,z36 c=true:=fun c hc=>by
    have:=List.all_eq_true.1 ha c hc;cases e:z36 c with
    | true=>rfl
    | false =>
     unfold z71 at this;rw[show z131 5 c=z36 c from rfl,e] at this;exact absurd (show ((0:Nat) != 0)=true from this) (by decide)
   have e:t.flatMap (z71 5)=t.flatMap z135:=qcd fun c hc=>by
    unfold z71;rw[show z131 5 c=z36 c from rfl,hi c hc];rfl
   rw[e];exact qlj t _ hi (Nat.lt_succ_self _)
end
section
variable {s:LU}
theorem qHx (x:LU) (l:List LU) (h:l≠[]):(qbs (x :: l)).1=x :: (qbs l).1:=by
 cases l with
 | nil=>exact absurd rfl h
 | cons y l=>rfl
theorem qoO (s:LU) {k:Nat} (h:qaL [] s=s.take k :: qaL [] (s.drop (k+2))):z142 s=s.take k :: z142 (s.drop (k+2)):=by
 unfold z142;rw[h,qHx _ _ (qnh _ _)]
theorem qoP (hs:s≠[]) (h:qaL [] s=[s]):z142 s=[s]:=by
 unfold z142;rw[h];show (if s=[] then (([]:List LU),true) else ([s],false)).1=[s];rw[if_neg hs]
theorem cutok (hl:s.length≤1048576):qvO s [13,10]=true:=by unfold qvO lenOk;rw[dT hl];rfl
theorem qjb (k0:List LU→OA):∀ (d:Nat) (s:LU) (out:List LU) (n:Nat),s.length≤d→d < n→s.length≤1048576→out.length+s.length≤1048576→qhw k0 n s out=k0 (out++z142 s)
 | d,s,out,0,_,hn,_,_=>absurd hn (by omega)
 | d,[],out,n+1,_,_,_,_=>by
  rw[show z142 []=[] from rfl,yG];rfl
 | 0,c :: s,out,n+1,h,_,_,_=>absurd h (by simp)
 | d+1,c :: r,out,n+1,h,hn,hl,ho=>by
  obtain⟨s,hs⟩:∃ s,c :: r=s:=⟨_,rfl⟩;rw[hs] at h hl ho ⊢;have hne:s≠[]:=fun e=>by rw[e] at hs;cases hs
  have hpos:0 < s.length:=List.length_pos_iff.2 hne;have hstep:qhw k0 (n+1) s out=qie k0 (qhw k0 n) n s out:=rfl;rw[hstep];unfold qie qbc;rw[cutok hl];rw[dT (show (0:Int) < ((s.length:Nat):Int) by omega)];simp only[yc,yi];rw[dT (show List.length out+List.length ([z153 (z82 s [13,10]).1]:List LU)≤room by unfold room;rw[List.length_singleton];omega)];rcases qDt s with ⟨h1,h2,_⟩ | ⟨k,h0,h1,h2,_⟩
  ·rw[h1,show qeK s=true by unfold qeK lenOk;rw[dT hl],qoP hne h2];simp only[yc];have:=qjb k0 d [] (out++[s]) n (by simp) (by omega) (by simp) (by rw[yn,List.length_singleton];simp;omega);rw[show z142 []=[] from rfl,yG] at this;exact this
  ·rw[h1,show qeK (s.take k)=true by unfold qeK lenOk;rw[yz,dT (by omega)],qoO s h2];simp only[yc];have:=qjb k0 d (s.drop (k+2)) (out++[s.take k]) n (by rw[yK];omega) (by omega) (by rw[yK];omega) (by rw[yn,List.length_singleton,yK];omega);rw[yl] at this;exact this
theorem qHy:∀ (s0:LU),(qtK s0=true)→∃ n,quj n s0=qBY (z142 s0):=fun s h=>⟨s.length+1,by
 unfold quj;rw[qjb _ s.length s [] _ (yv _) (Nat.lt_succ_self _) (qb h) (by simpa using qb h)];rfl⟩
theorem qtL {P:LU→Prop} (h0:P []) (h1:∀ s,s≠[]→z82 s [13,10]=(s,[],false)→qaL [] s=[s]→Lib.index s [13,10] = -1→P s)
 (h2:∀ (s:LU) (k:Nat),k+2≤s.length→z82 s [13,10]=(s.take k,s.drop (k+2),true)→qaL [] s=s.take k :: qaL [] (s.drop (k+2))→Lib.index s [13,10]=k→P (s.drop (k+2))→P s):∀ s,P s:=by
 intro s;obtain⟨d,hd⟩:∃ d,s.length≤d:=⟨_,yv _⟩;induction d generalizing s with
 | zero =>
  obtain rfl:=yF (Nat.le_zero.1 hd);exact h0
 | succ d ih =>
  by_cases hs:s=[]
  ·subst hs;exact h0
  ·rcases qDt s with ⟨k1,k2,k3⟩ | ⟨k,k0,k1,k2,k3⟩
   ·exact h1 s hs k1 k2 k3
   ·exact h2 s k k0 k1 k2 k3 (ih _ (by rw[yK];omega))
theorem qtM:∀ s:LU,(z142 s).length≤s.length∧∀ l∈z142 s,l.length≤s.length:=by
 apply qtL
 ·exact⟨yv _,fun l h=>by cases h⟩
 ·intro s hs _ h _;rw[qoP hs h];have:=List.length_pos_iff.2 hs;exact⟨by rw[List.length_singleton];omega,fun l h=>by rw[List.mem_singleton.1 h];exact yv _⟩
 ·intro s k hk _ h _ ih;rw[qoO s h];rw[yK] at ih;refine⟨by rw[yg];omega,fun l hl=>?_⟩;rcases List.mem_cons.1 hl with rfl | hl
  ·rw[yz];omega
  ·have:=ih.2 l hl;omega
theorem qjc (k0:Int→OA) (l:List LU) (hl:l.length≤1048576):∀ (d i m n:Nat),i+d=l.length→d < n→qoX k0 n (m:Nat) l ((l.length:Nat):Int) (i:Nat)=k0 ((maxL (l.drop i) m:Nat):Int)
 | d,i,m,0,_,hn=>absurd hn (by omega)
 | 0,i,m,n+1,hi,_=>by
  show qgE k0 (qoX k0 n) n _ _ _ _=_;unfold qgE;rw[dF (by omega),yA (by omega)];rfl
 | d+1,i,m,n+1,hi,hn=>by
  show qgE k0 (qoX k0 n) n _ _ _ _=_;unfold qgE;have hlt:i < l.length:=by omega
  rw[dT (show ((i:Nat):Int) < ((l.length:Nat):Int) by omega),dT (show (0:Int)≤((i:Nat):Int) by omega),tn,qd (by omega)];simp only[yc,Bool.and_self];rw[List.drop_eq_getElem_cons hlt];have e:l.getD i []=l[i]:=by simp[List.getD,hlt]
  rw[e];have e2:(bif decide (((l[i].length:Nat):Int) > ((m:Nat):Int)) then ((l[i].length:Nat):Int) else ((m:Nat):Int))=((max m l[i].length:Nat):Int):=by
   by_cases hc:m < l[i].length
   ·rw[dT (show ((l[i].length:Nat):Int) > ((m:Nat):Int) by omega),Nat.max_eq_right (by omega)];rfl
   ·rw[dF (show ¬ ((l[i].length:Nat):Int) > ((m:Nat):Int) by omega),Nat.max_eq_left (by omega)];rfl
  rw[e2,qjc k0 l hl d (i+1) _ n (by omega) (by omega)];rfl
theorem qOK:∀ (s0:LU),(qHt s0=true)→∃ n,qHO n s0=qKR (z81 s0):=fun s h=>⟨(z142 s).length+1,by
 unfold qHO;rw[show qtK s=true from h];have hl:=qb (show lenOk s=true from h);have:=(qtM s).1;simp only[yc,yi];have e:=qjc (qrN ((z142 s).length+1)) (z142 s) (by omega) (z142 s).length 0 0 ((z142 s).length+1) (by omega) (by omega);exact e⟩
theorem qOL:∀ (c0:UInt8),∃ n,qXs n c0=qBy (z78 c0):=fun _=>⟨0,rfl⟩
theorem qHz (h:lenOk s=true) (c:UInt8):qfH s [c]=true:=by unfold qfH;rw[h];rfl
theorem qHA:∀ (c0:UInt8) (x1:LU),(qky c0 x1=true)→∃ n,qBW n c0 x1=qBV (z140 c0 x1).1 (z140 c0 x1).2:=fun c s h=>⟨0,by
 unfold qBW;rw[qHz (show lenOk s=true from h)];rfl⟩
theorem qoQ:∀ (s:LU),(∀ (cur:LU) (p:Bool),(p=true→s.head? ≠ some 10)→s.count 13+s.count 10+2=2*(lineB false cur s).length+bareN p s) ∧
 (∀ cur:LU,s.head? = some 10→s.count 13+s.count 10+1=2*(lineB true cur s).length+bareN true s)
 | []=>⟨fun cur p _=>rfl,fun cur h=>by cases h⟩
 | c :: r=>by
  have ih:=qoQ r;constructor
  ·intro cur p hp;show (c :: r).count 13+(c :: r).count 10+2=2*(if c=13∧r.head? = some 10 then cur :: lineB true [] r else lineB false (cur++[c]) r).length+((bif ((c==13) && !(r.head? == some 10))||((c==10) && !p) then 1 else 0)+bareN (c==13) r)
   by_cases h:c=13∧r.head? = some 10
   ·rw[if_pos h];obtain⟨rfl,h⟩:=h;have:=ih.2 [] h;rw[h,yg,List.count_cons,List.count_cons];simp only[beq_self_eq_true,Bool.not_true,Bool.and_false,Bool.false_or,if_true,show ((13:UInt8)==10)=false by decide,Bool.false_and,yd];simp only[yq,if_false];omega
   ·rw[if_neg h];have:=ih.1 (cur++[c]) (c==13) (fun e h'=>h ⟨by simpa using e,h'⟩);rw[List.count_cons,List.count_cons]
    by_cases h13:c=13
    ·subst h13;have hh:(r.head? == some 10)=false:=by simpa using fun e=>h ⟨rfl,e⟩
     rw[hh];simp only[beq_self_eq_true,Bool.not_false,yi,Bool.true_or,if_true,yc,show ((13:UInt8)==10)=false by decide] at this ⊢;simp only[yq,if_false];omega
    ·have e13:(c==13)=false:=by simpa using h13
     rw[e13] at this ⊢
     by_cases h10:c=10
     ·subst h10;have hpf:p=false:=by
       cases p with
       | false=>rfl
       | true=>exact absurd rfl (hp rfl)
      subst hpf;simp only[beq_self_eq_true,Bool.not_false,yi,Bool.false_and,Bool.false_or,if_true,yc];simp only[yq,if_false];omega
     ·have e10:(c==10)=false:=by simpa using h10
      rw[e10];simp only[Bool.false_and,Bool.false_or,yd,yq,if_false];omega
  ·intro cur h;simp only[List.head?_cons,ya] at h;subst h;have:=ih.1 cur false (fun e=>by cases e);show (10 :: r).count 13+(10 :: r).count 10+1=2*(lineB false cur r).length+((bif (((10:UInt8)==13) && !(r.head? == some 10))||(((10:UInt8)==10) && !true) then 1 else 0)+bareN ((10:UInt8)==13) r);rw[List.count_cons,List.count_cons];simp only[show ((10:UInt8)==13)=false by decide,beq_self_eq_true,Bool.not_true,Bool.and_false,Bool.false_and,Bool.false_or,yd,yq,if_false,if_true];omega
theorem qHB:∀ (s:LU) (f:Nat),s.length < f→cntF [13,10] f s+1=(qaL [] s).length:=by
 apply qtL (P:=fun s=>∀ (f:Nat),s.length < f→cntF [13,10] f s+1=(qaL [] s).length)
 ·intro f hf;obtain⟨f,rfl⟩:∃ g,f=g+1:=⟨f - 1,by simp at hf;omega⟩;rfl
 ·intro s _ _ h hi f hf;obtain⟨f,rfl⟩:∃ g,f=g+1:=⟨f - 1,by omega⟩;show (bif Lib.index s [13,10] == -1 then 0 else _)+1=_;rw[hi,h];rfl
 ·intro s k hk _ h hi ih f hf;obtain⟨f,rfl⟩:∃ g,f=g+1:=⟨f - 1,by omega⟩;show (bif Lib.index s [13,10] == -1 then 0 else cntF [13,10] f (s.drop ((Lib.index s [13,10]).toNat+2))+1)+1=_;rw[hi,h,show (((k:Nat):Int) == -1)=false by rw[yB];omega,tn,yg,yd,ih f (by rw[yK];omega)]
theorem qOM (s:LU):((s.count 13:Nat):Int)+((s.count 10:Nat):Int) - 2*((cntF [13,10] (s.length+1) s:Nat):Int)=((bareN false s:Nat):Int):=by
 have h1:=(qoQ s).1 [] false (fun e=>by cases e);have h2:=qHB s (s.length+1) (by omega);unfold qaL at h2;omega
theorem qKO (sep:LU) (h:0 < sep.length):∀ (f:Nat) (s:LU),cntF sep f s≤s.length
 | 0,s=>Nat.zero_le _
 | f+1,s=>by
  show (bif Lib.index s sep == -1 then 0 else cntF sep f (s.drop ((Lib.index s sep).toNat+sep.length))+1)≤_;rcases qlf s sep with e | e
  ·rw[e];exact Nat.zero_le _
  ·have hr:=Lib.index_room s sep e;rw[show (Lib.index s sep == -1)=false by rw[yB];omega];have:=qKO sep h f (s.drop ((Lib.index s sep).toNat+sep.length));rw[yK] at this;show cntF sep f _+1≤_;omega
theorem wr' {x:Int} (h : -9223372036854775808≤x∧x≤9223372036854775807):IntKind.wrap .i64 x=x:=IntWalk.i64_in x h
theorem qON:∀ (s0:LU),(qHr s0=true)→∃ n,qPj n s0=qKR (z79 s0):=fun s h=>⟨0,by
 have h:lenOk s=true:=h;have hl:=qb h;unfold qPj;rw[show qfH s [13,10]=true by unfold qfH;rw[h];rfl,show qky 13 s=true from h,show qky 10 (z140 13 s).2=true from h];simp only[yc,yi];have c1:s.count 13≤s.length:=List.count_le_length;have c2:s.count 10≤s.length:=List.count_le_length;have c3:=qKO [13,10] (by decide) (s.length+1) s;rw[show (z140 13 s).1=((s.count 13:Nat):Int) from rfl,show (z140 10 (z140 13 s).2).1=((s.count 10:Nat):Int) from rfl,show z139 s [13,10]=((cntF [13,10] (s.length+1) s:Nat):Int) from rfl];rw[wr' (x:=((s.count 13:Nat):Int)+((s.count 10:Nat):Int)) (by omega),wr' (x:=2*((cntF [13,10] (s.length+1) s:Nat):Int)) (by omega),wr' (by omega),qOM s];rfl⟩
end
section
theorem getDe {α:Type} (l:List α) (d:α) {i:Nat} (h:i < l.length):l.getD i d=l[i]:=by simp[List.getD,h]
theorem qBs (k0:Int→OA) (s:LU) (hl:s.length≤1048576):∀ (d i m n:Nat),i+d=s.length→d < n→m≤i →
 qkh k0 n s (m:Nat) (i:Nat)=k0 ((m+bareN (decide (i≠0)&&(s.getD (i - 1) 0==13)) (s.drop i):Nat):Int)
 | d,i,m,0,_,hn,_=>absurd hn (by omega)
 | 0,i,m,n+1,hi,_,_=>by
  show qgW k0 (qkh k0 n) n _ _ _=_;unfold qgW;rw[dF (by omega),yA (by omega)];rfl
 | d+1,i,m,n+1,hi,hn,hm=>by
  show qgW k0 (qkh k0 n) n _ _ _=_;unfold qgW;have hlt:i < s.length:=by omega
  have ih0:=qBs k0 s hl d (i+1) m n (by omega) (by omega) (by omega);have ih1:=qBs k0 s hl d (i+1) (m+1) n (by omega) (by omega) (by omega);have ep:(decide (i+1≠0)&&(s.getD (i+1 - 1) 0==13))=(s[i]==13):=by rw[dT (by omega),Nat.add_sub_cancel,getDe s 0 hlt,y6]
  rw[ep] at ih0 ih1;rw[dT (show ((i:Nat):Int) < ((s.length:Nat):Int) by omega),dT (show (0:Int)≤((i:Nat):Int) by omega),tn,qd (by omega),qd (by omega)];simp only[yc,Bool.and_self];rw[List.drop_eq_getElem_cons hlt,getDe s 0 hlt];show _=k0 ((m+((bif ((s[i]==13) && !((s.drop (i+1)).head? == some 10))||((s[i]==10) && !(decide (i≠0)&&(s.getD (i - 1) 0==13))) then 1 else 0)+bareN (s[i]==13) (s.drop (i+1))):Nat):Int);have e0:qkh k0 n s (m:Nat) ((i+1:Nat):Int)=k0 ((m+(0+bareN (s[i]==13) (s.drop (i+1))):Nat):Int):=by rw[ih0,yE]
  have e1:qkh k0 n s ((m+1:Nat):Int) ((i+1:Nat):Int)=k0 ((m+(1+bareN (s[i]==13) (s.drop (i+1))):Nat):Int):=by rw[ih1,yS]
  rw[e0,e1];generalize bareN (s[i]==13) (s.drop (i+1))=B;have ez:(((i:Nat):Int)==0) = !(decide (i≠0)):=by
   by_cases h:i=0
   ·subst h;rfl
   ·rw[dT h];simpa using h
  by_cases h13:s[i]=13
  ·rw[h13];simp only[beq_self_eq_true,y6,yc,show ((13:UInt8)==10)=false by decide,Bool.false_and,Bool.or_false,yd]
   by_cases hlast:i+1=s.length
   ·rw[show (((i+1:Nat):Int)==((s.length:Nat):Int))=true by rw[hlast];exact beq_self_eq_true _,yA (by omega)];rfl
   ·have hlt2:i+1 < s.length:=by omega
    rw[show (((i+1:Nat):Int)==((s.length:Nat):Int))=false by rw[yB];omega,dT (show (0:Int)≤((i+1:Nat):Int) by omega),dT (show ((i+1:Nat):Int) < ((s.length:Nat):Int) by omega),tn,getDe s 0 hlt2,List.drop_eq_getElem_cons hlt2,List.head?_cons];generalize s[i+1]=y
    by_cases hy:y=10
    ·subst hy;rfl
    ·rw[show (y != 10)=true by simpa using hy,show ((some y==some 10))=false by simpa using hy];rfl
  ·rw[show (s[i]==13)=false by simpa using h13];simp only[Bool.false_and,Bool.false_or,yd]
   by_cases h10:s[i]=10
   ·rw[h10,ez];simp only[beq_self_eq_true,y6,yc]
    by_cases hz:i=0
    ·rw[hz];rfl
    ·have ew:IntKind.wrap .i64 (((i:Nat):Int) - 1)=((i - 1:Nat):Int):=by rw[wr' (by omega)];omega
     rw[ew,dT hz,dT (show (0:Int)≤((i - 1:Nat):Int) by omega),dT (show ((i - 1:Nat):Int) < ((s.length:Nat):Int) by omega),tn];simp only[Bool.not_true,yd,y6,Bool.and_self,yc,bne];cases (s.getD (i - 1) 0==13) <;> rfl
   ·rw[show (s[i]==10)=false by simpa using h10];rfl
theorem qOO:∀ (s0:LU),(qHs s0=true)→∃ n,qPm n s0=qKR (z75 s0):=fun s h=>⟨s.length+1,by
 have hl:=qb (show lenOk s=true from h);have:=qBs (qrY (s.length+1)) s hl s.length 0 0 (s.length+1) (by omega) (by omega) (by omega);rw[yE,yw] at this;exact this⟩
theorem qjd (k0:LU→Int→Bool→OA) (s:LU) (most:Int) (hl:s.length≤1048576):∀ (d i:Nat) (a:Bool) (n:Nat),i+d=s.length→d < n →
 qoY k0 n s most a s ((s.length:Nat):Int) (i:Nat)=k0 s most (a||(s.drop i).any z78)
 | d,i,a,0,_,hn=>absurd hn (by omega)
 | 0,i,a,n+1,hi,_=>by
  show qgF k0 (qoY k0 n) n _ _ _ _ _ _=_;unfold qgF;rw[dF (by omega),yA (by omega),List.any_nil,Bool.or_false];rfl
 | d+1,i,a,n+1,hi,hn=>by
  show qgF k0 (qoY k0 n) n _ _ _ _ _ _=_;unfold qgF;have hlt:i < s.length:=by omega
  rw[dT (show ((i:Nat):Int) < ((s.length:Nat):Int) by omega),dT (show (0:Int)≤((i:Nat):Int) by omega),tn,qd (by omega)];simp only[yc,Bool.and_self];rw[List.drop_eq_getElem_cons hlt,getDe s 0 hlt,List.any_cons,qjd k0 s most hl d (i+1) _ n (by omega) (by omega),qjd k0 s most hl d (i+1) _ n (by omega) (by omega)];cases a <;> rfl
theorem has0 (s:LU) (c:UInt8):decide ((0:Int)≤z80 s c)=s.contains c:=by
 show decide ((0:Int)≤Lib.indexByte s c)=_;have hge:=Lib.indexByte_ge s c
 by_cases h:Lib.indexByte s c = -1
 ·rw[h,show decide ((0:Int) ≤ -1)=false from rfl];refine(Bool.eq_false_iff.2 fun hc=>?_).symm;obtain⟨k,hk,e⟩:=List.getElem_of_mem (List.contains_iff_mem.1 hc);exact Lib.indexByte_none h k (by rw[yO hk,e])
 ·rw[dT (by omega)];obtain⟨o,ho⟩:∃ o:Nat,Lib.indexByte s c=o:=⟨(Lib.indexByte s c).toNat,by omega⟩;have:=(Lib.indexByte_some ho).1;exact(List.contains_iff_mem.2 (List.mem_of_getElem? this)).symm
theorem qBt (most:Int):∀ (l:List LU) (m:Nat),decide (most < ((maxL l m:Nat):Int))=(decide (most < ((m:Nat):Int))||l.any fun x=>decide (most < ((x.length:Nat):Int)))
 | [],m=>by rw[List.any_nil,Bool.or_false];rfl
 | x :: l,m=>by
  show decide (most < ((maxL l (max m x.length):Nat):Int))=_;rw[qBt most l,List.any_cons,← Bool.or_assoc];congr 1;rw[Bool.eq_iff_iff];simp only[yR,ym];omega
theorem qOP:∀ (s0:LU) (most1:Int),(qwb s0 most1=true)→∃ n,qPk n s0 most1=qKR (z37 s0 most1):=fun s most h=>⟨s.length+1,by
 unfold qwb at h;simp only[yf,ym] at h;have hl:=qb h.1;have e:=qjd (qmn (s.length+1)) s most hl s.length 0 false (s.length+1) (by omega) (by omega);refine e.trans ?_;rw[yw,Bool.false_or];unfold qmn z37;rw[show qHr s=true from h.1,show qHt s=true from h.1,has0,show z79 s=((bareN false s:Nat):Int) from rfl,show decide ((0:Int) < ((bareN false s:Nat):Int))=decide (0 < bareN false s) by rw[Bool.eq_iff_iff];simp,show z81 s=((maxL (z142 s) 0:Nat):Int) from rfl,qBt,dF (show ¬ most < ((0:Nat):Int) by omega),Bool.false_or];simp only[yi,yc];cases decide (0 < bareN false s)
 ·cases s.contains 0
  ·cases s.any z78
   ·by_cases hs:s=[]
    ·subst hs;rfl
    ·have:=List.length_pos_iff.2 hs;rw[dT (show (0:Int) < ((s.length:Nat):Int) by omega)];cases (z142 s).any fun x=>decide (most < ((x.length:Nat):Int)) <;> rfl
   ·rfl
  ·rfl
 ·rfl⟩
theorem qKP (ret:Int→OA) (k2:OA) (most:Int) (l:List LU) (hl:l.length≤1048576):∀ (d i n:Nat),i+d=l.length→d < n →
 qhC ret k2 n most l (i:Nat)=bif (l.drop i).any (fun x=>decide (most < ((x.length:Nat):Int))) then ret 12 else k2
 | d,i,0,_,hn=>absurd hn (by omega)
 | 0,i,n+1,hi,_=>by
  show qet ret k2 (qhC ret k2 n) n _ _ _=_;unfold qet;rw[dF (by omega),yA (by omega),List.any_nil];rfl
 | d+1,i,n+1,hi,hn=>by
  show qet ret k2 (qhC ret k2 n) n _ _ _=_;unfold qet;have hlt:i < l.length:=by omega
  rw[dT (show ((i:Nat):Int) < ((l.length:Nat):Int) by omega),dT (show (0:Int)≤((i:Nat):Int) by omega),tn,qd (by omega)];simp only[yc,Bool.and_self];rw[List.drop_eq_getElem_cons hlt,getDe l [] hlt,List.any_cons,qKP ret k2 most l hl d (i+1) n (by omega) (by omega)];cases decide (most < ((l[i].length:Nat):Int)) <;> rfl
theorem lt127 (c:UInt8):decide ((127:UInt8) < c)=z78 c:=by
 unfold z78;rw[Bool.eq_iff_iff];simp only[ym,UInt8.lt_iff_toNat_lt,UInt8.le_iff_toNat_le];show 127 < c.toNat↔128≤c.toNat;omega
theorem qOQ (ret:Int→OA) (k0:LU→Int→Bool→OA) (s:LU) (most:Int) (hl:s.length≤1048576):∀ (d i:Nat) (a:Bool) (n:Nat),i+d=s.length→d < n →
 qph ret k0 n s most a (i:Nat)=bif (s.drop i).contains 0 then ret 8 else k0 s most (a||(s.drop i).any z78)
 | d,i,a,0,_,hn=>absurd hn (by omega)
 | 0,i,a,n+1,hi,_=>by
  show qgX ret k0 (qph ret k0 n) n _ _ _ _=_;unfold qgX;rw[dF (by omega),yA (by omega),List.any_nil,Bool.or_false];rfl
 | d+1,i,a,n+1,hi,hn=>by
  show qgX ret k0 (qph ret k0 n) n _ _ _ _=_;unfold qgX;have hlt:i < s.length:=by omega
  rw[dT (show ((i:Nat):Int) < ((s.length:Nat):Int) by omega),dT (show (0:Int)≤((i:Nat):Int) by omega),tn,qd (by omega)];simp only[yc,Bool.and_self];rw[List.drop_eq_getElem_cons hlt,getDe s 0 hlt,List.any_cons,List.contains_cons,lt127,qOQ ret k0 s most hl d (i+1) _ n (by omega) (by omega),qOQ ret k0 s most hl d (i+1) _ n (by omega) (by omega)];rw[show (s[i]==0)=(0==s[i]) from Bool.beq_comm ..];cases (0==s[i]) <;> cases a <;> simp
theorem qOR:∀ (s0:LU) (most1:Int),(qwc s0 most1=true)→∃ n,qPn n s0 most1=qKR (z35 s0 most1):=fun s most h=>⟨s.length+1,by
 unfold qwc at h;simp only[yf,ym] at h;have hl:=qb h.1;have hs:=(qtM s).1;have e:=qOQ qKR (qfd (s.length+1)) s most hl s.length 0 false (s.length+1) (by omega) (by omega);refine e.trans ?_;have e2:=qKP qKR (qmN (s.length+1)) most (z142 s) (by omega) (z142 s).length 0 (s.length+1) (by omega) (by omega);rw[yw,Bool.false_or];unfold qfd z35 z37;rw[show qHs s=true from h.1,show qFd s=true from h.1,show z76 s=z142 s from rfl,show z75 s=((bareN false s:Nat):Int) from rfl,show decide ((0:Int) < ((bareN false s:Nat):Int))=decide (0 < bareN false s) by rw[Bool.eq_iff_iff];simp];rw[show ((0:Int))=((0:Nat):Int) from rfl,e2,yw];simp only[yi,yc];cases decide (0 < bareN false s) <;> cases s.contains 0 <;> cases s.any z78 <;> cases (z142 s).any (fun x=>decide (most < ((x.length:Nat):Int))) <;> rfl⟩
end
section
theorem qfI (f:Nat) (l:LU) (h:l≠[]):wrapS (f+1) l=(l.take 76++[13,10])++wrapS f (l.drop 76):=by
 show (bif l.isEmpty then [] else (l.take 76++[13,10])++wrapS f (l.drop 76))=_;cases l with
 | nil=>exact absurd rfl h
 | cons x r=>rfl
theorem qHC (f:Nat):wrapS f []=[]:=by cases f <;> rfl
theorem qtN (k0:LU→OA):∀ (f:Nat) (c out:LU) (n:Nat),c.length≤f→f < n→c.length≤1048576→out.length+3*c.length≤90000000→qrQ k0 n c out=k0 (out++wrapS f c)
 | f,c,out,0,_,hn,_,_=>absurd hn (by omega)
 | 0,c,out,n+1,h,_,_,_=>by
  obtain rfl:=yF (Nat.le_zero.1 h);rw[show wrapS 0 []=[] from rfl,yG];rfl
 | f+1,c,out,n+1,h,hn,hl,ho=>by
  by_cases hc:c=[]
  ·subst hc;rw[qHC,yG];rfl
  show qmp k0 (qrQ k0 n) n c out=_;unfold qmp qej qbd;have hp:=List.length_pos_iff.2 hc;have em:(bif decide ((76:Int) < ((c.length:Nat):Int)) then (76:Int) else ((c.length:Nat):Int))=((min 76 c.length:Nat):Int):=by
   by_cases h76:76 < c.length
   ·rw[dT (by omega),Nat.min_eq_left (by omega)];rfl
   ·rw[dF (by omega),Nat.min_eq_right (by omega)];rfl
  rw[em,dT (show (0:Int) < ((c.length:Nat):Int) by omega)];simp only[tn];have et:c.take (min 76 c.length)=c.take 76:=by
   by_cases h76:76≤c.length
   ·rw[Nat.min_eq_left h76]
   ·rw[Nat.min_eq_right (by omega),List.take_length,List.take_of_length_le (by omega)]
  have ed:(c.take c.length).drop (min 76 c.length)=c.drop 76:=by
   rw[List.take_length]
   by_cases h76:76≤c.length
   ·rw[Nat.min_eq_left h76]
   ·rw[Nat.min_eq_right (by omega),List.drop_length,yA (by omega)]
  rw[et,ed,yw];have h1:(c.take 76).length≤76:=by rw[yz];omega
  rw[dT (show (0:Int)≤((0:Nat):Int) by omega),dT (show ((0:Nat):Int)≤((min 76 c.length:Nat):Int) by omega),dT (show ((min 76 c.length:Nat):Int)≤((c.length:Nat):Int) by omega),dT (show (0:Int)≤((min 76 c.length:Nat):Int) by omega),dT (show ((c.length:Nat):Int)≤((c.length:Nat):Int) by omega),
   dT (show out.length+(c.take 76).length≤room by unfold room;omega),dT (show (out++c.take 76).length+([13,10]:LU).length≤room by unfold room;rw[yn];show _+2≤_;omega)]
  simp only[Bool.and_self,yc];rw[qtN k0 f (c.drop 76) _ n (by rw[yK];omega) (by omega) (by rw[yK];omega) (by rw[yn,yn,yK,yz];show _+2+_≤_;omega),qfI f c hc];simp only[yl]
theorem lay_n (s:LU):(z74 s).length≤2*s.length+8:=by
 unfold z74 padTo;rw[yn,yQ,qDi];unfold qN;omega
theorem qOS:∀ (s0:LU),(qwa s0=true)→∃ n,qHQ n s0=qCc (z64 s0):=fun s h=>⟨(z123 s).length+1,by
 have h:s.length≤65536:=by simpa [qwa] using h
 have hn:(z123 s).length≤2*s.length+8:=lay_n s;unfold qHQ;rw[show qyj s=true from qm (by omega)];exact qtN (qrR ((z123 s).length+1)) (z123 s).length (z123 s) [] ((z123 s).length+1) (yv _) (by omega) (by omega) (by simp;omega)⟩
def tailW:Nat→LU→LU
 | _,[]=>[]
 | j,x :: r=>x :: (bif (j==75)||r.isEmpty then 13 :: 10 :: tailW 0 r else tailW (j+1) r)
theorem qBu:∀ (l:LU) (j:Nat),j≤75→l≠[]→tailW j l=l.take (76 - j)++13 :: 10 :: tailW 0 (l.drop (76 - j))
 | [],_,_,h=>absurd rfl h
 | x :: r,j,hj,_=>by
  obtain⟨m,hm⟩:∃ m,76 - j=m+1:=⟨75 - j,by omega⟩;rw[hm,List.take_succ_cons,List.drop_succ_cons];show x :: (bif (j==75)||r.isEmpty then 13 :: 10 :: tailW 0 r else tailW (j+1) r)=_
  by_cases h75:j=75
  ·subst h75;obtain rfl:m=0:=by omega
   rfl
  ·rw[show (j==75)=false by simpa using h75];cases r with
   | nil=>simp[tailW]
   | cons y r =>
    have:=qBu (y :: r) (j+1) (by omega) (by simp);rw[show 76 - (j+1)=m by omega] at this;show x :: tailW (j+1) (y :: r)=_;rw[this];rfl
theorem qtO:∀ (f:Nat) (l:LU),l.length≤f→wrapS f l=tailW 0 l
 | 0,l,h=>by
  obtain rfl:=yF (Nat.le_zero.1 h);rfl
 | f+1,l,h=>by
  by_cases hl:l=[]
  ·subst hl;rfl
  ·have:=List.length_pos_iff.2 hl;rw[qfI f l hl,qBu l 0 (by omega) hl,qtO f _ (by rw[yK];omega)];simp only[yl];rfl
theorem qOT (i:Nat):Int.tmod ((i:Nat):Int) 76=((i % 76:Nat):Int):=rfl
theorem qrD (k0:LU→OA) (c:LU) (hl:c.length≤1048576):∀ (d i:Nat) (out:LU) (n:Nat),i+d=c.length→d < n→out.length≤3*i →
 qpg k0 n c out (i:Nat)=k0 (out++tailW (i % 76) (c.drop i))
 | d,i,out,0,_,hn,_=>absurd hn (by omega)
 | 0,i,out,n+1,hi,_,_=>by
  show qgV k0 (qpg k0 n) n c out _=_;unfold qgV qbH qaH;rw[dF (by omega),yA (by omega),show tailW (i % 76) []=[] by unfold tailW;rfl,yG];rfl
 | d+1,i,out,n+1,hi,hn,ho=>by
  show qgV k0 (qpg k0 n) n c out _=_;unfold qgV qbH qaH;have hlt:i < c.length:=by omega
  rw[dT (show ((i:Nat):Int) < ((c.length:Nat):Int) by omega),dT (show (0:Int)≤((i:Nat):Int) by omega),tn,qd (by omega),qOT];simp only[yc,Bool.and_self];rw[List.drop_eq_getElem_cons hlt,getDe c 0 hlt,dT (show out.length+([c[i]]:LU).length≤room by unfold room;show _+1≤_;omega),dT (show (out++[c[i]]).length+([13,10]:LU).length≤room by unfold room;rw[yn];show _+1+2≤_;omega)];simp only[yc];have e:tailW (i % 76) (c[i] :: c.drop (i+1))=c[i] :: (bif (i % 76==75)||(c.drop (i+1)).isEmpty then 13 :: 10 :: tailW 0 (c.drop (i+1)) else tailW (i % 76+1) (c.drop (i+1))):=rfl;rw[e];have i1:=qrD k0 c hl d (i+1) ((out++[c[i]])++[13,10]) n (by omega) (by omega) (by rw[yn,yn];show _+1+2≤_;omega);have i2:=qrD k0 c hl d (i+1) (out++[c[i]]) n (by omega) (by omega) (by rw[yn];show _+1≤_;omega);have ew:IntKind.wrap .i64 (((c.length:Nat):Int) - 1)=((c.length - 1:Nat):Int):=by rw[wr' (by omega)];omega
  rw[ew]
  by_cases h75:i % 76=75
  ·rw[h75,show ((((75:Nat):Int))==75)=true from rfl,yc,i1,show (i+1) % 76=0 by omega];simp only[beq_self_eq_true,Bool.true_or,yc,yl,List.cons_append,List.nil_append]
  ·rw[show (((i % 76:Nat):Int)==75)=false by rw[yB];omega,show (i % 76==75)=false by rw[yB];exact h75]
   by_cases hlast:i+1=c.length
   ·rw[show (((i:Nat):Int)==((c.length - 1:Nat):Int))=true by rw[beq_iff_eq];omega,i1,yA (by omega)];have:∀ j,tailW j []=[]:=fun j=>by unfold tailW;rfl
    rw[this,this];simp
   ·rw[show (((i:Nat):Int)==((c.length - 1:Nat):Int))=false by rw[yB];omega,i2,show (i+1) % 76=i % 76+1 by omega];have:(c.drop (i+1)).isEmpty=false:=by rw[List.isEmpty_eq_false_iff];intro e;have:=congrArg List.length e;rw[yK] at this;simp at this;omega
    rw[this];simp
theorem qOU:∀ (s0:LU),(qBp s0=true)→∃ n,qId n s0=qCc (z34 s0):=fun s h=>⟨(z74 s).length+1,by
 have h:s.length≤65536:=by simpa [qBp] using h
 have hn:=lay_n s;unfold qId;rw[show qvM s=true by unfold qvM;exact dT (by omega)];have:=qrD (qrX ((z74 s).length+1)) (z74 s) (by omega) (z74 s).length 0 [] ((z74 s).length+1) (by omega) (by omega) (by simp);refine this.trans ?_;unfold z34 z64;rw[show z123 s=z74 s from rfl,qtO _ _ (yv _)];rfl⟩
end
section
set_option linter.unusedSimpArgs false
end
section
theorem qoS (a b:LI) (hab:a.length=b.length) (hl:a.length≤1048576) (ret:Bool→OA):∀ (d i n:Nat),i+d=a.length→d < n →
 qpc ret (ret true) n a b ((a.length:Nat):Int) (i:Nat)=ret (decide (a.drop i=b.drop i))
 | d,i,0,_,hn=>absurd hn (by omega)
 | 0,i,n+1,hi,_=>by
  show qgO ret (ret true) (qpc ret (ret true) n) n a b _ _=_;unfold qgO;rw[dF (by omega),yA (by omega),yA (by omega)];rfl
 | d+1,i,n+1,hi,hn=>by
  show qgO ret (ret true) (qpc ret (ret true) n) n a b _ _=_;unfold qgO;have h1:i < a.length:=by omega
  have h2:i < b.length:=by omega
  rw[dT (show ((i:Nat):Int) < ((a.length:Nat):Int) by omega),dT (show (0:Int)≤((i:Nat):Int) by omega),dT (show ((i:Nat):Int) < ((b.length:Nat):Int) by omega),tn,qd (by omega)];simp only[Bool.and_self,yc];rw[qoS a b hab hl ret d (i+1) n (by omega) (by omega),qnc h1 h2 0];cases (a.getD i 0 != b.getD i 0) <;> rfl
theorem qOV:∀ (s10:LI) (s21:LI),(qwg s10 s21=true)→∃ n,qHX n s10 s21=qBy (z25 s10 s21):=fun a b h=>⟨a.length+1,by
 unfold qwg at h;simp only[yf] at h;unfold qHX z25
 by_cases hab:a.length=b.length
 ·rw[show (((a.length:Nat):Int) != ((b.length:Nat):Int))=false by simp[hab],yd];exact qoS a b hab (qb h.1) qBy a.length 0 (a.length+1) (by omega) (by omega)
 ·rw[show (((a.length:Nat):Int) != ((b.length:Nat):Int))=true by simp only[bne_iff_ne,ne_eq];omega,yc,dF (fun e=>hab (by rw[e]))]⟩
theorem w12:IntKind.wrap .i64 ((1:Int)+1)=2:=wr' (by decide)
theorem w23:IntKind.wrap .i64 ((2:Int)+1)=3:=wr' (by decide)
theorem qOW:∀ (s0:LU),(qHu s0=true)→∃ n,qUP n s0=qBM (z60 s0).1 (z60 s0).2:=fun s h=>⟨0,by
 unfold qUP;rw[show qwb s 76=true by unfold qwb;rw[show lenOk s=true from h];rfl];rfl⟩
theorem qOX:∀ (s0:LU),(qHv s0=true)→∃ n,qUQ n s0=qBM (z61 s0).1 (z61 s0).2:=fun s h=>⟨0,by
 unfold qUQ;rw[show qHE s=true from h];rfl⟩
theorem qOY:∀ (s0:LU),(qHw s0=true)→∃ n,qUR n s0=qBM (z63 s0).1 (z63 s0).2:=fun s h=>⟨0,by
 unfold qUR;rw[show qwa s=true from h];rfl⟩
theorem qOZ:∀ (coding0:Int),∃ n r,qPl n coding0=some r∧Picks (z30 coding0) r:=fun k=>by
 refine⟨0,?_⟩;unfold qPl z30;cases h1:(k==(1:Int))
 ·cases h2:(k==(2:Int))
  ·cases h3:(k==(3:Int))
   ·exact⟨_,rfl,(fun e=>by cases e),fun _=>⟨(fun e=>by cases e),fun _=>⟨(fun e=>by cases e),fun _=>rfl⟩⟩⟩
   ·exact⟨_,rfl,(fun e=>by cases e),fun _=>⟨(fun e=>by cases e),fun _=>⟨(fun _=>rfl),fun e=>by cases e⟩⟩⟩
  ·exact⟨_,rfl,(fun e=>by cases e),fun _=>⟨(fun _=>rfl),fun e=>by cases e⟩⟩
 ·exact⟨_,rfl,(fun _=>rfl),fun e=>by cases e⟩
end
section
theorem qUA {cs:Int} {t:LI} (h:t.length≤16384):(z31 cs t).1.length≤65536:=yL (qpt cs t) (by omega)
theorem qPa:∀ (coding0:Int) (charset1:Int) (t2:LI),(qwd coding0 charset1 t2=true)→∃ n,qUZ n coding0 charset1 t2=qBM (z13 coding0 charset1 t2).1 (z13 coding0 charset1 t2).2:=fun k cs t h=>⟨0,by
 have h:t.length≤16384:=by simpa [qwd] using h
 have hc:=qUA (cs:=cs) h;unfold qUZ z13;rw[show qvL cs t=true from qm (by omega)];generalize z31 cs t=r at hc ⊢;rw[show qHu r.1=true from qm (by omega),show qHv r.1=true from qm (by omega),show qHw r.1=true from dT hc];unfold z60 z61 z63
 by_cases h1:k=1
 ·subst h1;cases (r.2 != (0:Int)) <;> cases (z37 r.1 76 != (0:Int)) <;> rfl
 by_cases h2:k=2
 ·subst h2;cases (r.2 != (0:Int)) <;> rfl
 by_cases h3:k=3
 ·subst h3;cases (r.2 != (0:Int)) <;> rfl
 rw[show (k==(1:Int))=false by simpa using h1,show (k==(2:Int))=false by simpa using h2,show (k==(3:Int))=false by simpa using h3];rfl⟩
theorem qPb:∀ (coding0:Int) (charset1:Int) (t2:LI),(qwe coding0 charset1 t2=true)→∃ n,qVk n coding0 charset1 t2=qBM (z14 coding0 charset1 t2).1 (z14 coding0 charset1 t2).2:=fun k cs t h=>⟨0,by
 unfold qwe at h;simp only[yf,ym] at h;have h32:=h.2;have h:=h.1;have hc:=qUA (cs:=cs) h;unfold qVk z14 z13;rw[show qEP cs t=true from qm (by omega),← qVv cs t h32];generalize z31 cs t=r at hc ⊢;rw[show qHF r.1=true from qm (by omega),show qBp r.1=true from dT hc,show qwc r.1 76=true by unfold qwc;rw[qm (by omega)];rfl];unfold z33 z34 z35
 by_cases h1:k=1
 ·subst h1;cases (r.2 != (0:Int)) <;> cases (z37 r.1 76 != (0:Int)) <;> rfl
 by_cases h2:k=2
 ·subst h2;cases (r.2 != (0:Int)) <;> rfl
 by_cases h3:k=3
 ·subst h3;cases (r.2 != (0:Int)) <;> rfl
 rw[show (k==(1:Int))=false by simpa using h1,show (k==(2:Int))=false by simpa using h2,show (k==(3:Int))=false by simpa using h3]
 by_cases h:k < 1
 ·rw[dT h];rfl
 ·rw[dF h,dT (show (3:Int) < k by omega)];rfl⟩
theorem qPc:∀ (coding0:Int) (charset1:Int) (s2:LU),(qrA coding0 charset1 s2=true)→∃ n,qUN n coding0 charset1 s2=qBS (z12 coding0 charset1 s2):=fun k cs s h=>⟨0,by
 have h:s.length≤300000:=by simpa [qrA] using h
 have h1:=qDB s;have h2:=qiV s;unfold qUN z12;rw[show qHH s=true from qm (by omega),show qEY s=true from qm (by omega),show qob cs s=true from qm (by omega),show qob cs (z27 s)=true from qm (by omega),show qob cs (z28 s)=true from qm (by omega)];cases (k==(2:Int)) <;> cases (k==(3:Int)) <;> rfl⟩
theorem qPd:∀ (coding0:Int) (charset1:Int) (s2:LU),(qwf coding0 charset1 s2=true)→∃ n,qVm n coding0 charset1 s2=qBS (z20 coding0 charset1 s2):=fun k cs s h=>⟨0,by
 have h:s.length≤300000:=by simpa [qwf] using h
 have h1:=qDB s;have h2:=qiV s;unfold qVm z20 z12;rw[show qHI s=true from qm (by omega),show qFa s=true from qm (by omega),show qoc cs s=true from qm (by omega),show qoc cs (z40 s).1=true from qm (by show (z27 s).length≤_;omega),show qoc cs (z41 s).1=true from qm (by show (z28 s).length≤_;omega)];cases (k==(2:Int)) <;> cases (k==(3:Int)) <;> rfl⟩
end
section
set_option linter.unusedSimpArgs false
end
section
theorem qBv:∀ (a b:LU),digB (a++13 :: 10 :: b)=digB (a++b)
 | [],b=>by
  rw[List.nil_append,List.nil_append,qcp,qcp,show ((13:UInt8)==61)=false from rfl,show ((10:UInt8)==61)=false from rfl,show isB64 13=false by decide +kernel,show isB64 10=false by decide +kernel];simp only[yd]
 | x :: a,b=>by
  rw[List.cons_append,List.cons_append,qcp,qcp,qBv a b]
theorem qKQ:∀ (a x y:LU),digB x=digB y→digB (a++x)=digB (a++y)
 | [],_,_,h=>h
 | c :: a,x,y,h=>by rw[List.cons_append,List.cons_append,qcp,qcp,qKQ a x y h]
theorem qBw:∀ (f:Nat) (l:LU),l.length≤f→digB (wrapS f l)=digB l
 | 0,l,h=>by
  obtain rfl:=yF (Nat.le_zero.1 h);rfl
 | f+1,l,h=>by
  by_cases hl:l=[]
  ·subst hl;rfl
  ·have:=List.length_pos_iff.2 hl;rw[qfI f l hl,yl,show ([13,10]:LU)++wrapS f (l.drop 76)=13 :: 10 :: wrapS f (l.drop 76) from rfl,qBv,
    qKQ (l.take 76) _ _ (qBw f (l.drop 76) (by rw[yK];omega)),yX]
theorem qBx (s:LU):z28 (z64 s)=s:=by
 have h:z28 (z64 s)=z28 (z123 s):=by
  show (z88 (bitsB (digB (z64 s)))).1=(z88 (bitsB (digB (z123 s)))).1;unfold z64;rw[qBw _ _ (yv _)]
 rw[h,qvJ]
end
section
theorem qtP:∀ (f:Nat) (l:LU),(wrapS f l).length≤3*l.length
 | 0,l=>Nat.zero_le _
 | f+1,l=>by
  by_cases hl:l=[]
  ·subst hl;exact Nat.zero_le _
  ·have:=List.length_pos_iff.2 hl;have ih:=qtP f (l.drop 76);rw[qfI f l hl,yn,yn,yz];rw[yK] at ih;show min 76 l.length+2+_≤_;omega
theorem qPe (s:LU) (hl:s.length≤1048576):(z62 s).length≤6*s.length+3:=by
 have hp:=qDv s hl;unfold z62 pDone;generalize layS 0 s ([],(0,()))=p at hp ⊢;have h1:=(qpB hp true).1;have h0:=hp.1;cases decide ((0:Int) < p.2.1)
 ·exact yL h0 (by omega)
 ·exact h1
theorem qeZ (k cs:Int) (t:LI) (h:t.length≤4096):(z13 k cs t).1.length≤300000:=by
 have hc:=qpt cs t;have h1:=qPe (z31 cs t).1 (by omega);have h2:=qtP (z123 (z31 cs t).1).length (z123 (z31 cs t).1);have h3:(z123 (z31 cs t).1).length≤2*(z31 cs t).1.length+8:=lay_n _;have h4:(z64 (z31 cs t).1).length≤3*(z123 (z31 cs t).1).length:=h2;unfold z13;cases !((k==1)||((k==2)||(k==3)))
 ·cases (z31 cs t).2 != 0
  ·cases k==2
   ·cases k==3
    ·cases z37 (z31 cs t).1 76 != 0
     ·show (z31 cs t).1.length≤_;omega
     ·exact Nat.zero_le _
    ·show (z64 (z31 cs t).1).length≤_;omega
   ·show (z62 (z31 cs t).1).length≤_;omega
  ·exact Nat.zero_le _
 ·exact Nat.zero_le _
end
section
variable {k cs:Int} {t:LI}
theorem layok (h:t.length≤4096):qwd k cs t=true:=dT (show t.length≤16384 by omega)
theorem qUw (h:t.length≤4096):qrA k cs (z13 k cs t).1=true:=dT (qeZ k cs t h)
theorem qmf (k cs:Int) (s:LU):(z12 k cs s).length≤s.length:=by
 have h1:=qDB s;have h2:=qiV s;unfold z12;refine yL (qlT _ _) ?_;cases k==2
 ·cases k==3
  ·exact yv _
  ·exact h2
 ·exact h1
theorem eqok (h:t.length≤4096):qwg (z12 k cs (z13 k cs t).1) t=true:=by
 have h1:=qeZ k cs t h;have h2:=qmf k cs (z13 k cs t).1;unfold qwg;rw[qm (by omega),qm (show t.length≤1048576 by omega)];rfl
theorem qUx:∀ (t0:LI),(z8_ok t0=true)→∃ n,z8_sh n t0=qmz (z8 t0).1 (z8 t0).2.1 (z8 t0).2.2.1 (z8 t0).2.2.2:=fun t h=>⟨3,by
 have h:t.length≤4096:=by simpa [z8_ok] using h
 unfold z8_sh z8;rw[show qEB t=true from qm (by omega)];cases ((z24 t).2 != (0:Int))
 ·generalize (z24 t).1=cs;show qkM qmz (qjE 3) (qkM qmz (qjE 3) (qkM qmz (qjE 3) (z8_l5 qmz (qjE 3) 0) 0) 1) 2 t cs 1=_;unfold qkM qjE;rw[w12,w23];rw[layok h,layok h,layok h,qUw h,qUw h,eqok h,eqok h];unfold qkf z25;cases ((z13 1 cs t).2==(0:Int)) <;> cases ((z13 2 cs t).2==(0:Int)) <;> cases decide (z12 1 cs (z13 1 cs t).1=t) <;> cases decide (z12 2 cs (z13 2 cs t).1=t) <;> rfl
 ·rfl⟩
end
section
theorem qoR {t:LI} (h:i32s t=true) (h0:(z24 t).2=0):(z13 3 (z24 t).1 t).2=0∧z12 3 (z24 t).1 (z13 3 (z24 t).1 t).1=t:=by
 obtain⟨h1,h2⟩:=qVJ h h0;have hb:=qDJ t h1 h2;rw[← qVv _ t h] at h2 hb;have e:z13 3 (z24 t).1 t=(z64 (z31 (z24 t).1 t).1,0):=by
  unfold z13;rw[h2];rfl
 rw[e];refine⟨rfl,?_⟩;show z29 _ (z28 (z64 _))=t;rw[qBx,hb]
theorem sel7 (t:LI) (h:(z24 t).2≠0):z24 t=(0,7):=by
 unfold z24 selF at h ⊢;cases hc:(qqj (fun n=>t.all (z105 n))==0)
 ·rw[hc] at h;exact absurd rfl h
 ·rfl
theorem qUy:∀ (t0:LI),(z9_ok t0=true)→∃ n,z9_sh n t0=qmz (z9 t0).1 (z9 t0).2.1 (z9 t0).2.2.1 (z9 t0).2.2.2:=fun t h=>⟨4,by
 unfold z9_ok at h;simp only[yf,ym] at h;have h32:=h.2;have h:=h.1;have hlay:∀ k cs,qwe k cs t=true:=fun k cs=>by unfold qwe;rw[dT (by omega),h32];rfl
 have hread:∀ k cs,qwf k cs (z14 k cs t).1=true:=fun k cs=>dT (qeZ k cs t h);have hlike:∀ k cs,qqo (z20 k cs (z14 k cs t).1) t=true:=fun k cs=>qm (by
  have h1:=qeZ k cs t h;have h2:=qmf k cs (z13 k cs t).1;show (z12 k cs (z13 k cs t).1).length≤_;omega)
 unfold z9_sh z9 z8;rw[show qED t=true from qm (by omega),← qKm t h32]
 by_cases h0:(z24 t).2=0
 ·have hb:=qoR h32 h0;rw[show ((z24 t).2 != (0:Int))=false by rw[h0];rfl];generalize (z24 t).1=cs at hb ⊢;show qjR qmz (qjS 4) (qjR qmz (qjS 4) (qjR qmz (qjS 4) (qjR qmz (qjS 4) (z9_l5 qmz (qjS 4) 0) 0) 1) 2) 3 t cs 1=_;unfold qjR;rw[w12,w23];rw[hlay,hlay,hlay,hread,hread,hread,hlike,hlike,hlike];unfold qkf z11 z14 z20;rw[hb.2,hb.1];cases ((z13 1 cs t).2==(0:Int)) <;> cases ((z13 2 cs t).2==(0:Int)) <;> cases decide (z12 1 cs (z13 1 cs t).1=t) <;> cases decide (z12 2 cs (z13 2 cs t).1=t) <;> simp
 ·rw[sel7 t h0];rfl⟩
end
end Go.Av
