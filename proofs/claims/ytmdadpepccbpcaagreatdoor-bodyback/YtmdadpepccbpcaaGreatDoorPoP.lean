import Derived.Test.YtmdadpepccbpcaaGreatDoorPoT3
namespace Go.Av
set_option linter.unusedSimpArgs false
set_option linter.unusedVariables false
section
open UInt8 (ofNat)
variable {n:Nat} {c:Int}
theorem oct8N {i:Int} (m:Nat) (h:m < 256) (hi:i=m):oct8 i=ofNat m:=by
 subst hi;unfold oct8;rw[IntWalk.u8_in (m:Int) (by omega),Int.toNat_natCast]
theorem follN:∀ b:Fin 64,z237 (ofNat (128+b.val))=true∧((ofNat (128+b.val)) &&& 63).toNat=b.val:=by decide +kernel
theorem qDM:∀ a:Fin 128,qb (ofNat a.val)=1∧((ofNat a.val) &&& (255 ^^^ z185 1)).toNat=a.val:=by decide +kernel
theorem qDN:∀ a:Fin 32,2≤a.val→qb (ofNat (192+a.val))=2∧((ofNat (192+a.val)) &&& (255 ^^^ z185 2)).toNat=a.val:=by decide +kernel
theorem qyp:∀ a:Fin 32,∀ b:Fin 64,z238 (ofNat (192+a.val)) (ofNat (128+b.val))=true:=by decide +kernel
theorem qsA:∀ a:Fin 16,qb (ofNat (224+a.val))=3∧((ofNat (224+a.val)) &&& (255 ^^^ z185 3)).toNat=a.val:=by decide +kernel
theorem qpa:∀ a:Fin 16,∀ b:Fin 64,(a.val=0→32≤b.val)→(a.val=13→b.val < 32)→z238 (ofNat (224+a.val)) (ofNat (128+b.val))=true:=by decide +kernel
theorem qyq:∀ a:Fin 5,qb (ofNat (240+a.val))=4∧((ofNat (240+a.val)) &&& (255 ^^^ z185 4)).toNat=a.val:=by decide +kernel
theorem qsB:∀ a:Fin 5,∀ b:Fin 64,(a.val=0→16≤b.val)→(a.val=4→b.val < 16)→z238 (ofNat (240+a.val)) (ofNat (128+b.val))=true:=by decide +kernel
theorem qDO (a:Nat) (ha:a < 128) (r:LU):z178 (ofNat a :: r)=((a:Int),1,0):=by
 obtain⟨h1,h2⟩:=qDM ⟨a,ha⟩;simp only at h1 h2;have hf:farN (ofNat a :: r)=1:=by
  show (bif qb (ofNat a)==0 then 0 else 1+runB (ofNat a) (qb (ofNat a) - 1) true r)=1;rw[h1];rfl
 unfold z178;simp only[hf,h1];show (signN 1 (ofNat a :: r),((1:Nat):Int),(0:Int))=_;show (((ofNat a &&& (255 ^^^ z185 ((1:Nat):Int))).toNat:Int),((1:Nat):Int),(0:Int))=_;rw[show z185 ((1:Nat):Int)=z185 1 from rfl,h2];rfl
theorem qIU (a b:Nat) (ha:a < 32) (ha2:2≤a) (hb:b < 64) (r:LU):z178 (ofNat (192+a) :: ofNat (128+b) :: r)=(((a*64+b:Nat):Int),2,0):=by
 obtain⟨h1,h2⟩:=qDN ⟨a,ha⟩ ha2;obtain⟨h3,h4⟩:=follN ⟨b,hb⟩;have h5:=qyp ⟨a,ha⟩ ⟨b,hb⟩;simp only at h1 h2 h3 h4 h5;have hf:farN (ofNat (192+a) :: ofNat (128+b) :: r)=2:=by
  show (bif qb (ofNat (192+a))==0 then 0 else 1+runB (ofNat (192+a)) (qb (ofNat (192+a)) - 1) true (ofNat (128+b) :: r))=2;rw[h1];show 1+(bif z237 (ofNat (128+b))&&(!true||z238 (ofNat (192+a)) (ofNat (128+b))) then runB (ofNat (192+a)) 0 false r+1 else 0)=2;rw[h3,h5];rfl
 unfold z178;simp only[hf,h1];show ((((ofNat (192+a) &&& (255 ^^^ z185 ((2:Nat):Int))).toNat:Nat):Int)*64+(((ofNat (128+b)) &&& 63).toNat:Int),((2:Nat):Int),(0:Int))=_;rw[show z185 ((2:Nat):Int)=z185 2 from rfl,h2,h4];congr 1
theorem qyr (a b c:Nat) (ha:a < 16) (hb:b < 64) (hc:c < 64) (h0:a=0→32≤b) (h13:a=13→b < 32) (r:LU) :
 z178 (ofNat (224+a) :: ofNat (128+b) :: ofNat (128+c) :: r)=((((a*64+b)*64+c:Nat):Int),3,0):=by
 obtain⟨h1,h2⟩:=qsA ⟨a,ha⟩;obtain⟨h3,h4⟩:=follN ⟨b,hb⟩;obtain⟨h6,h7⟩:=follN ⟨c,hc⟩;have h5:=qpa ⟨a,ha⟩ ⟨b,hb⟩ h0 h13;simp only at h1 h2 h3 h4 h5 h6 h7;have hf:farN (ofNat (224+a) :: ofNat (128+b) :: ofNat (128+c) :: r)=3:=by
  show (bif qb (ofNat (224+a))==0 then 0 else 1+runB (ofNat (224+a)) (qb (ofNat (224+a)) - 1) true (ofNat (128+b) :: ofNat (128+c) :: r))=3;rw[h1];show 1+(bif z237 (ofNat (128+b))&&(!true||z238 (ofNat (224+a)) (ofNat (128+b))) then (bif z237 (ofNat (128+c))&&(!false||z238 (ofNat (224+a)) (ofNat (128+c))) then runB (ofNat (224+a)) 0 false r+1 else 0)+1 else 0)=3;rw[h3,h5,h6];rfl
 unfold z178;simp only[hf,h1];show (((((ofNat (224+a) &&& (255 ^^^ z185 ((3:Nat):Int))).toNat:Nat):Int)*64+(((ofNat (128+b)) &&& 63).toNat:Int))*64+(((ofNat (128+c)) &&& 63).toNat:Int),((3:Nat):Int),(0:Int))=_;rw[show z185 ((3:Nat):Int)=z185 3 from rfl,h2,h4,h7];congr 1
theorem qDP (a b c d:Nat) (ha:a < 5) (hb:b < 64) (hc:c < 64) (hd:d < 64) (h0:a=0→16≤b) (h4':a=4→b < 16) (r:LU) :
 z178 (ofNat (240+a) :: ofNat (128+b) :: ofNat (128+c) :: ofNat (128+d) :: r)=(((((a*64+b)*64+c)*64+d:Nat):Int),4,0):=by
 obtain⟨h1,h2⟩:=qyq ⟨a,ha⟩;obtain⟨h3,h4⟩:=follN ⟨b,hb⟩;obtain⟨h6,h7⟩:=follN ⟨c,hc⟩;obtain⟨h8,h9⟩:=follN ⟨d,hd⟩;have h5:=qsB ⟨a,ha⟩ ⟨b,hb⟩ h0 h4';simp only at h1 h2 h3 h4 h5 h6 h7 h8 h9;have hf:farN (ofNat (240+a) :: ofNat (128+b) :: ofNat (128+c) :: ofNat (128+d) :: r)=4:=by
  show (bif qb (ofNat (240+a))==0 then 0 else 1+runB (ofNat (240+a)) (qb (ofNat (240+a)) - 1) true (ofNat (128+b) :: ofNat (128+c) :: ofNat (128+d) :: r))=4;rw[h1];show 1+(bif z237 (ofNat (128+b))&&(!true||z238 (ofNat (240+a)) (ofNat (128+b))) then (bif z237 (ofNat (128+c))&&(!false||z238 (ofNat (240+a)) (ofNat (128+c))) then (bif z237 (ofNat (128+d))&&(!false||z238 (ofNat (240+a)) (ofNat (128+d))) then runB (ofNat (240+a)) 0 false r+1 else 0)+1 else 0)+1 else 0)=4;rw[h3,h5,h6,h8];rfl
 unfold z178;simp only[hf,h1];show ((((((ofNat (240+a) &&& (255 ^^^ z185 ((4:Nat):Int))).toNat:Nat):Int)*64+(((ofNat (128+b)) &&& 63).toNat:Int))*64+(((ofNat (128+c)) &&& 63).toNat:Int))*64+(((ofNat (128+d)) &&& 63).toNat:Int),((4:Nat):Int),(0:Int))=_;rw[show z185 ((4:Nat):Int)=z185 4 from rfl,h2,h4,h7,h9];congr 1
theorem qys (h:z36 (n:Int)=true) (h1:n < 128):z135 (n:Int)=[ofNat n]:=by
 unfold z135;rw[h,dT (by omega),oct8N n (by omega) rfl];rfl
theorem qyt (h:z36 (n:Int)=true) (h1:¬ n < 128) (h2:n < 2048):z135 (n:Int)=[ofNat (192+n / 64),ofNat (128+n % 64)]:=by
 unfold z135;rw[h,dF (by omega),dT (show (n:Int) < 2048 by omega)];simp only[Bool.not_true,yd,yc];rw[oct8N (192+n / 64) (by omega) (by omega),oct8N (128+n % 64) (by omega) (by omega)]
theorem qmD (h:z36 (n:Int)=true) (h2:¬ n < 2048) (h3:n < 65536):z135 (n:Int)=[ofNat (224+n / 4096),ofNat (128+n / 64 % 64),ofNat (128+n % 64)]:=by
 unfold z135;rw[h,dF (show ¬ (n:Int) < 128 by omega),dF (show ¬ (n:Int) < 2048 by omega),dT (show (n:Int) < 65536 by omega)];simp only[Bool.not_true,yd,yc];rw[oct8N (224+n / 4096) (by omega) (by omega),oct8N (128+n / 64 % 64) (by omega) (by omega),oct8N (128+n % 64) (by omega) (by omega)]
theorem qrf (h:z36 (n:Int)=true) (h3:¬ n < 65536) (h4:n≤1114111):z135 (n:Int)=[ofNat (240+n / 262144),ofNat (128+n / 4096 % 64),ofNat (128+n / 64 % 64),ofNat (128+n % 64)]:=by
 unfold z135;rw[h,dF (show ¬ (n:Int) < 128 by omega),dF (show ¬ (n:Int) < 2048 by omega),dF (show ¬ (n:Int) < 65536 by omega)];simp only[Bool.not_true,yd];rw[oct8N (240+n / 262144) (by omega) (by omega),oct8N (128+n / 4096 % 64) (by omega) (by omega),oct8N (128+n / 64 % 64) (by omega) (by omega),oct8N (128+n % 64) (by omega) (by omega)]
theorem qsC (h:z36 c=true) (r:LU):z178 (z135 c++r)=(c,(((z135 c).length:Nat):Int),0)∧0 < (z135 c).length:=by
 have hi:=h;unfold z36 z77 at hi;simp only[yf,ym,Bool.not_eq_true'] at hi;obtain⟨hi1,hi2,hi3⟩:=hi;obtain⟨n,rfl⟩:∃ n:Nat,c=n:=⟨c.toNat,by omega⟩;have hi2:n≤1114111:=by omega
 by_cases h1:n < 128
 ·rw[qys h h1];exact⟨qDO n (by omega) r,Nat.succ_pos _⟩
 ·by_cases h2:n < 2048
  ·rw[qyt h h1 h2];have e:=qIU (n / 64) (n % 64) (by omega) (by omega) (by omega) r;rw[show n / 64*64+n % 64=n by omega] at e;exact⟨e,Nat.succ_pos _⟩
  ·by_cases h3:n < 65536
   ·rw[qmD h h2 h3];have hs:¬ (55296≤n∧n≤57343):=fun ⟨a,b⟩=>by
     rw[dT (show (55296:Int)≤(n:Int) by omega),dT (show (n:Int)≤57343 by omega)] at hi3;exact absurd hi3 (by decide)
    have e:=qyr (n / 4096) (n / 64 % 64) (n % 64) (by omega) (by omega) (by omega) (by omega) (fun e=>by omega) r;rw[show (n / 4096*64+n / 64 % 64)*64+n % 64=n by omega] at e;exact⟨e,Nat.succ_pos _⟩
   ·rw[qrf h h3 hi2];have e:=qDP (n / 262144) (n / 4096 % 64) (n / 64 % 64) (n % 64) (by omega) (by omega) (by omega) (by omega) (fun e=>by omega) (fun e=>by omega) r;rw[show ((n / 262144*64+n / 4096 % 64)*64+n / 64 % 64)*64+n % 64=n by omega] at e;exact⟨e,Nat.succ_pos _⟩
theorem qjc:∀ (t:LI) (n:Nat),(∀ c∈t,z36 c=true)→(t.flatMap z135).length < n→utfR n (t.flatMap z135)=t
 | [],0,_,h=>by simp at h
 | [],n+1,_,_=>rfl
 | c :: t,0,_,h=>by simp at h
 | c :: t,n+1,hc,h=>by
  rw[List.flatMap_cons] at h ⊢;obtain⟨h1,h2⟩:=qsC (hc c (by simp)) (t.flatMap z135);rw[yn] at h;have ih:=qjc t n (fun x hx=>hc x (by simp[hx])) (by omega);have hstep:∀ s:LU,s≠[]→utfR (n+1) s=(bif (z178 s).2.2 != 0 then 65533 else (z178 s).1) :: utfR n (s.drop (z178 s).2.1.toNat):=fun s hs=>by
   cases s with
   | nil=>exact absurd rfl hs
   | cons=>rfl
  rw[hstep _ (by
   intro e;have:=congrArg List.length e;rw[yn,List.length_nil] at this;omega),h1]
  show c :: utfR n ((z135 c++t.flatMap z135).drop (Int.toNat (((z135 c).length:Nat):Int)))=c :: t;rw[Int.toNat_natCast,List.drop_left,ih]
theorem qeT {cs:Int} {g:UInt8→Int} (hg:∀ c,(z71 cs c).length≠0→∃ x,z71 cs c=[x]∧g x=c) :
 ∀ t:LI,(t.all fun c=>(z71 cs c).length != 0)=true→(t.flatMap (z71 cs)).map g=t
 | [],_=>rfl
 | c :: t,h=>by
  rw[List.all_cons,yf] at h;obtain⟨x,h1,h2⟩:=hg c (by simpa using h.1);rw[List.flatMap_cons,h1,List.map_append,qeT hg t h.2,yI,List.map_nil,h2];rfl
theorem qku (h:n < 256):(ofNat n).toNat=n:=by simp;omega
theorem qmE (c:Int) (h:(z71 1 c).length≠0):∃ x,z71 1 c=[x]∧z114 (x.toNat:Int)=c:=by
 unfold z71 at h ⊢;rw[show z131 1 c=(decide (0≤c)&&decide (c < 128)) from rfl] at h ⊢
 by_cases hc:0≤c∧c < 128
 ·obtain⟨n,rfl⟩:∃ n:Nat,c=n:=⟨c.toNat,by omega⟩;refine⟨oct8 (n:Int),by rw[dT hc.1,dT hc.2];rfl,?_⟩;rw[oct8N n (by omega) rfl,qku (by omega)];unfold z114;rw[dF (by omega)];rfl
 ·exfalso;rw[show (decide (0≤c)&&decide (c < 128))=false by
   rw[← Bool.not_eq_true,yf,ym,ym];exact hc] at h
  exact h rfl
theorem qmF (c:Int) (h:(z71 2 c).length≠0):∃ x,z71 2 c=[x]∧((x.toNat:Int))=c:=by
 unfold z71 at h ⊢;rw[show z131 2 c=(z132 c).2 from rfl] at h ⊢;unfold z132 at h ⊢
 by_cases hc:0≤c∧c < 256
 ·obtain⟨n,rfl⟩:∃ n:Nat,c=n:=⟨c.toNat,by omega⟩;refine⟨ofNat n,by rw[dT hc.1,dT hc.2];rfl,?_⟩;rw[qku (by omega)]
 ·exfalso;rw[show (decide (0≤c)&&decide (c < 256))=false by
   rw[← Bool.not_eq_true,yf,ym,ym];exact hc] at h
  exact h rfl
theorem qyu:∀ i:Fin 256,(z127 ((i.val:Nat):Int)).2=true→z90 (z127 ((i.val:Nat):Int)).1=((i.val:Nat):Int):=by decide +kernel
theorem qsD:∀ c∈([8364,352,353,381,382,338,339,376]:LI),z90 (z127 c).1=c:=by decide +kernel
theorem qDQ (h1:c ∉ ([8364,352,353,381,382,338,339,376]:LI)) (h2:c < 0∨256≤c):(z127 c).2=false:=by
 simp only[List.mem_cons,List.not_mem_nil,or_false,not_or] at h1;obtain⟨a1,a2,a3,a4,a5,a6,a7,a8⟩:=h1;have b:∀ k:Int,0≤k→k < 256→(c==k)=false:=fun k _ _=>by
  rw[yB];omega
 unfold z127;rw[beq_eq_false_iff_ne.2 a1,beq_eq_false_iff_ne.2 a2,beq_eq_false_iff_ne.2 a3,beq_eq_false_iff_ne.2 a4,beq_eq_false_iff_ne.2 a5,beq_eq_false_iff_ne.2 a6,beq_eq_false_iff_ne.2 a7,beq_eq_false_iff_ne.2 a8,
  b 164 (by decide) (by decide),b 166 (by decide) (by decide),b 168 (by decide) (by decide),b 180 (by decide) (by decide),b 184 (by decide) (by decide),b 188 (by decide) (by decide),b 189 (by decide) (by decide),b 190 (by decide) (by decide)]
 have:(decide (c < 0)||decide (256≤c))=true:=by
  rw[yR,ym,ym];exact h2
 rw[this];rfl
theorem qrg (c:Int) (h:(z71 3 c).length≠0):∃ x,z71 3 c=[x]∧z90 x=c:=by
 unfold z71 at h ⊢;rw[show z131 3 c=(z127 c).2 from rfl] at h ⊢;cases hp:(z127 c).2 with
 | false=>rw[hp] at h;exact absurd rfl h
 | true =>
  refine⟨(z127 c).1,rfl,?_⟩
  by_cases h1:c∈([8364,352,353,381,382,338,339,376]:LI)
  ·exact qsD c h1
  ·by_cases h2:c < 0∨256≤c
   ·rw[qDQ h1 h2] at hp;cases hp
   ·obtain⟨n,rfl⟩:∃ n:Nat,c=n:=⟨c.toNat,by omega⟩;exact qyu ⟨n,by omega⟩ hp
theorem qFB (c:Int):∀ (l:LI) (i:Int),0≤i→0≤qI (fun x => !(c==x)) l i→∃ k:Nat,k < l.length∧qI (fun x => !(c==x)) l i=i+(k:Nat)∧l.getD k 0=c
 | [],_,_,h=>absurd (show (0:Int) ≤ -1 from h) (by decide)
 | x :: r,i,hi,h=>by
  rw[show qI (fun x => !(c==x)) (x :: r) i=bif !(c==x) then qI (fun x => !(c==x)) r (i+1) else i from rfl] at h ⊢
  by_cases e:c=x
  ·subst e;refine⟨0,by simp,?_,rfl⟩;rw[beq_self_eq_true];simp
  ·rw[beq_eq_false_iff_ne.2 e] at h ⊢;obtain⟨k,h1,h2,h3⟩:=qFB c r (i+1) (by omega) h;refine⟨k+1,by rw[yg];omega,?_,by rw[List.getD_cons_succ];exact h3⟩;show qI (fun x => !(c==x)) r (i+1)=_;rw[h2];omega
theorem qDR:∀ i:Fin 32,256≤z177.getD i.val 0→z91 (oct8 (IntKind.wrap .i64 (128+((0:Int)+(i.val:Nat)))))=z177.getD i.val 0:=by decide +kernel
theorem qMC:∀ i:Fin 256,(i.val < 128∨160≤i.val)→z91 (ofNat i.val)=((i.val:Nat):Int):=by decide +kernel
theorem qyv (c:Int) (h:(z71 4 c).length≠0):∃ x,z71 4 c=[x]∧z91 x=c:=by
 unfold z71 at h ⊢;rw[show z131 4 c=(z129 c).2 from rfl] at h ⊢;cases hp:(z129 c).2 with
 | false=>rw[hp] at h;exact absurd rfl h
 | true =>
  refine⟨(z129 c).1,rfl,?_⟩;unfold z129 at hp ⊢
  by_cases h1:(0≤c∧c < 128)∨(160≤c∧c < 256)
  ·have e:((decide (0≤c)&&decide (c < 128))||(decide (160≤c)&&decide (c < 256)))=true:=by
    simp only[yR,yf,ym];exact h1
   rw[e];obtain⟨n,rfl⟩:∃ n:Nat,c=n:=⟨c.toNat,by omega⟩;show z91 (oct8 (n:Int))=_;rw[oct8N n (by omega) rfl];exact qMC ⟨n,by omega⟩ (by simp only;omega)
  ·have e:((decide (0≤c)&&decide (c < 128))||(decide (160≤c)&&decide (c < 256)))=false:=by
    rw[← Bool.not_eq_true];simp only[yR,yf,ym];exact h1
   rw[e] at hp ⊢
   by_cases h2:c < 256
   ·rw[dT h2] at hp;exact absurd (show false=true from hp) (by decide)
   ·rw[dF h2] at hp ⊢
    by_cases h3:z186 z177 c < 0
    ·rw[dT h3] at hp;exact absurd (show false=true from hp) (by decide)
    ·rw[dF h3];obtain⟨k,k1,k2,k3⟩:=qFB c z177 0 (by decide) (by unfold z186 at h3;omega);show z91 (oct8 (IntKind.wrap .i64 (128+z186 z177 c)))=c;unfold z186;rw[k2];have:=qDR ⟨k,k1⟩ (by rw[k3];omega);rw[k3] at this;exact this
theorem qmG {cs:Int} (t:LI) (h1:1≤cs∧cs≤5) (h0:(z32 cs t).2=0):z29 cs (z32 cs t).1=t:=by
 have hb:(decide (cs < 1)||decide (5 < cs))=false:=by
  rw[dF (by omega),dF (by omega)];rfl
 unfold z32 at h0 ⊢;rw[hb] at h0 ⊢;cases ha:t.all (fun c=>(z71 cs c).length != 0) with
 | false=>rw[ha] at h0;exact absurd (show (9:Int)=0 from h0) (by decide)
 | true =>
  show z29 cs (t.flatMap (z71 cs))=t;obtain rfl | rfl | rfl | rfl | rfl:cs=1∨cs=2∨cs=3∨cs=4∨cs=5:=by omega
  ·exact qeT (g:=fun x=>z114 (x.toNat:Int)) qmE t ha
  ·exact qeT (g:=fun x=>(x.toNat:Int)) qmF t ha
  ·exact qeT qrg t ha
  ·exact qeT qyv t ha
  ·have hi:∀ c∈t,z36 c=true:=fun c hc=>by
    have:=List.all_eq_true.1 ha c hc;cases e:z36 c with
    | true=>rfl
    | false =>
     unfold z71 at this;rw[show z131 5 c=z36 c from rfl,e] at this;exact absurd (show ((0:Nat) != 0)=true from this) (by decide)
   have e:t.flatMap (z71 5)=t.flatMap z135:=qbF fun c hc=>by
    unfold z71;rw[show z131 5 c=z36 c from rfl,hi c hc];rfl
   rw[e];exact qjc t _ hi (Nat.lt_succ_self _)
end
section
variable {s:LU}
theorem qBx (x:LU) (l:List LU) (h:l≠[]):(qar (x :: l)).1=x :: (qar l).1:=by
 cases l with
 | nil=>exact absurd rfl h
 | cons y l=>rfl
theorem qlW (s:LU) {k:Nat} (h:qM [] s=s.take k :: qM [] (s.drop (k+2))):z142 s=s.take k :: z142 (s.drop (k+2)):=by
 unfold z142;rw[h,qBx _ _ (qgH _ _)]
theorem qlX (hs:s≠[]) (h:qM [] s=[s]):z142 s=[s]:=by
 unfold z142;rw[h];show (if s=[] then (([]:List LU),true) else ([s],false)).1=[s];rw[if_neg hs]
theorem cutok (hl:s.length≤1048576):qip s [13,10]=true:=by unfold qip lenOk;rw[dT hl];rfl
theorem qhw (k0:List LU→OA):∀ (d:Nat) (s:LU) (out:List LU) (n:Nat),s.length≤d→d < n→s.length≤1048576→out.length+s.length≤1048576→qfZ k0 n s out=k0 (out++z142 s)
 | d,s,out,0,_,hn,_,_=>absurd hn (by omega)
 | d,[],out,n+1,_,_,_,_=>by
  rw[show z142 []=[] from rfl,yG];rfl
 | 0,c :: s,out,n+1,h,_,_,_=>absurd h (by simp)
 | d+1,c :: r,out,n+1,h,hn,hl,ho=>by
  obtain⟨s,hs⟩:∃ s,c :: r=s:=⟨_,rfl⟩;rw[hs] at h hl ho ⊢;have hne:s≠[]:=fun e=>by rw[e] at hs;cases hs
  have hpos:0 < s.length:=List.length_pos_iff.2 hne;have hstep:qfZ k0 (n+1) s out=qgD k0 (qfZ k0 n) n s out:=rfl;rw[hstep];unfold qgD qaT;rw[cutok hl];rw[dT (show (0:Int) < ((s.length:Nat):Int) by omega)];simp only[yc,yi];rw[dT (show List.length out+List.length ([z153 (z82 s [13,10]).1]:List LU)≤room by unfold room;rw[List.length_singleton];omega)];rcases qfL s with ⟨h1,h2,_⟩ | ⟨k,h0,h1,h2,_⟩
  ·rw[h1,show qdM s=true by unfold qdM lenOk;rw[dT hl],qlX hne h2];simp only[yc];have:=qhw k0 d [] (out++[s]) n (by simp) (by omega) (by simp) (by rw[yn,List.length_singleton];simp;omega);rw[show z142 []=[] from rfl,yG] at this;exact this
  ·rw[h1,show qdM (s.take k)=true by unfold qdM lenOk;rw[yz,dT (by omega)],qlW s h2];simp only[yc];have:=qhw k0 d (s.drop (k+2)) (out++[s.take k]) n (by rw[yK];omega) (by omega) (by rw[yK];omega) (by rw[yn,List.length_singleton,yK];omega);rw[yl] at this;exact this
theorem qBy:∀ (s0:LU),(qqf s0=true)→∃ n,qqF n s0=qxm (z142 s0):=fun s h=>⟨s.length+1,by
 unfold qqF;rw[qhw _ s.length s [] _ (yv _) (Nat.lt_succ_self _) (qd h) (by simpa using qd h)];rfl⟩
theorem qqg {P:LU→Prop} (h0:P []) (h1:∀ s,s≠[]→z82 s [13,10]=(s,[],false)→qM [] s=[s]→Lib.index s [13,10] = -1→P s)
 (h2:∀ (s:LU) (k:Nat),k+2≤s.length→z82 s [13,10]=(s.take k,s.drop (k+2),true)→qM [] s=s.take k :: qM [] (s.drop (k+2))→Lib.index s [13,10]=k→P (s.drop (k+2))→P s):∀ s,P s:=by
 intro s;obtain⟨d,hd⟩:∃ d,s.length≤d:=⟨_,yv _⟩;induction d generalizing s with
 | zero =>
  obtain rfl:=yF (Nat.le_zero.1 hd);exact h0
 | succ d ih =>
  by_cases hs:s=[]
  ·subst hs;exact h0
  ·rcases qfL s with ⟨k1,k2,k3⟩ | ⟨k,k0,k1,k2,k3⟩
   ·exact h1 s hs k1 k2 k3
   ·exact h2 s k k0 k1 k2 k3 (ih _ (by rw[yK];omega))
theorem qBz:∀ s:LU,(z142 s).length≤s.length∧∀ l∈z142 s,l.length≤s.length:=by
 apply qqg
 ·exact⟨yv _,fun l h=>by cases h⟩
 ·intro s hs _ h _;rw[qlX hs h];have:=List.length_pos_iff.2 hs;exact⟨by rw[List.length_singleton];omega,fun l h=>by rw[List.mem_singleton.1 h];exact yv _⟩
 ·intro s k hk _ h _ ih;rw[qlW s h];rw[yK] at ih;refine⟨by rw[yg];omega,fun l hl=>?_⟩;rcases List.mem_cons.1 hl with rfl | hl
  ·rw[yz];omega
  ·have:=ih.2 l hl;omega
theorem qhx (k0:Int→OA) (l:List LU) (hl:l.length≤1048576):∀ (d i m n:Nat),i+d=l.length→d < n→qme k0 n (m:Nat) l ((l.length:Nat):Int) (i:Nat)=k0 ((maxL (l.drop i) m:Nat):Int)
 | d,i,m,0,_,hn=>absurd hn (by omega)
 | 0,i,m,n+1,hi,_=>by
  show qfx k0 (qme k0 n) n _ _ _ _=_;unfold qfx;rw[dF (by omega),yA (by omega)];rfl
 | d+1,i,m,n+1,hi,hn=>by
  show qfx k0 (qme k0 n) n _ _ _ _=_;unfold qfx;have hlt:i < l.length:=by omega
  rw[dT (show ((i:Nat):Int) < ((l.length:Nat):Int) by omega),dT (show (0:Int)≤((i:Nat):Int) by omega),tn,qm (by omega)];simp only[yc,Bool.and_self];rw[List.drop_eq_getElem_cons hlt];have e:l.getD i []=l[i]:=by simp[List.getD,hlt]
  rw[e];have e2:(bif decide (((l[i].length:Nat):Int) > ((m:Nat):Int)) then ((l[i].length:Nat):Int) else ((m:Nat):Int))=((max m l[i].length:Nat):Int):=by
   by_cases hc:m < l[i].length
   ·rw[dT (show ((l[i].length:Nat):Int) > ((m:Nat):Int) by omega),Nat.max_eq_right (by omega)];rfl
   ·rw[dF (show ¬ ((l[i].length:Nat):Int) > ((m:Nat):Int) by omega),Nat.max_eq_left (by omega)];rfl
  rw[e2,qhx k0 l hl d (i+1) _ n (by omega) (by omega)];rfl
theorem qHD:∀ (s0:LU),(qBs s0=true)→∃ n,qBS n s0=qEt (z81 s0):=fun s h=>⟨(z142 s).length+1,by
 unfold qBS;rw[show qqf s=true from h];have hl:=qd (show lenOk s=true from h);have:=(qBz s).1;simp only[yc,yi];have e:=qhx (qoy ((z142 s).length+1)) (z142 s) (by omega) (z142 s).length 0 0 ((z142 s).length+1) (by omega) (by omega);exact e⟩
theorem qHE:∀ (c0:UInt8),∃ n,qNP n c0=qwM (z78 c0):=fun _=>⟨0,rfl⟩
theorem qBA (h:lenOk s=true) (c:UInt8):qeC s [c]=true:=by unfold qeC;rw[h];rfl
theorem qBB:∀ (c0:UInt8) (x1:LU),(qiF c0 x1=true)→∃ n,qxk n c0 x1=qxj (z140 c0 x1).1 (z140 c0 x1).2:=fun c s h=>⟨0,by
 unfold qxk;rw[qBA (show lenOk s=true from h)];rfl⟩
theorem qlY:∀ (s:LU),(∀ (cur:LU) (p:Bool),(p=true→s.head? ≠ some 10)→s.count 13+s.count 10+2=2*(lineB false cur s).length+bareN p s) ∧
 (∀ cur:LU,s.head? = some 10→s.count 13+s.count 10+1=2*(lineB true cur s).length+bareN true s)
 | []=>⟨fun cur p _=>rfl,fun cur h=>by cases h⟩
 | c :: r=>by
  have ih:=qlY r;constructor
  ·intro cur p hp;show (c :: r).count 13+(c :: r).count 10+2=2*(if c=13∧r.head? = some 10 then cur :: lineB true [] r else lineB false (cur++[c]) r).length+((bif ((c==13) && !(r.head? == some 10))||((c==10) && !p) then 1 else 0)+bareN (c==13) r)
   by_cases h:c=13∧r.head? = some 10
   ·rw[if_pos h];obtain⟨rfl,h⟩:=h;have:=ih.2 [] h;rw[h,yg,List.count_cons,List.count_cons];simp only[beq_self_eq_true,Bool.not_true,Bool.and_false,Bool.false_or,if_true,show ((13:UInt8)==10)=false by decide,Bool.false_and,yd];simp only[yq,if_false];omega
   ·rw[if_neg h];have:=ih.1 (cur++[c]) (c==13) (fun e h'=>h ⟨by simpa using e,h'⟩);rw[List.count_cons,List.count_cons]
    by_cases h13:c=13
    ·subst h13;have hh:(r.head? == some 10)=false:=by simpa using fun e=>h ⟨rfl,e⟩
     rw[hh];simp only[beq_self_eq_true,Bool.not_false,yi,Bool.true_or,if_true,yc,show ((13:UInt8)==10)=false by decide] at this ⊢;simp only[yq,if_false];omega
    ·have e13:(c==13)=false:=by simpa using h13
     rw[e13] at this ⊢
     by_cases h10:c=10
     ·subst h10;have hpf:p=false:=by
       cases p with
       | false=>rfl
       | true=>exact absurd rfl (hp rfl)
      subst hpf;simp only[beq_self_eq_true,Bool.not_false,yi,Bool.false_and,Bool.false_or,if_true,yc];simp only[yq,if_false];omega
     ·have e10:(c==10)=false:=by simpa using h10
      rw[e10];simp only[Bool.false_and,Bool.false_or,yd,yq,if_false];omega
  ·intro cur h;simp only[List.head?_cons,ya] at h;subst h;have:=ih.1 cur false (fun e=>by cases e);show (10 :: r).count 13+(10 :: r).count 10+1=2*(lineB false cur r).length+((bif (((10:UInt8)==13) && !(r.head? == some 10))||(((10:UInt8)==10) && !true) then 1 else 0)+bareN ((10:UInt8)==13) r);rw[List.count_cons,List.count_cons];simp only[show ((10:UInt8)==13)=false by decide,beq_self_eq_true,Bool.not_true,Bool.and_false,Bool.false_and,Bool.false_or,yd,yq,if_false,if_true];omega
theorem qBC:∀ (s:LU) (f:Nat),s.length < f→cntF [13,10] f s+1=(qM [] s).length:=by
 apply qqg (P:=fun s=>∀ (f:Nat),s.length < f→cntF [13,10] f s+1=(qM [] s).length)
 ·intro f hf;obtain⟨f,rfl⟩:∃ g,f=g+1:=⟨f - 1,by simp at hf;omega⟩;rfl
 ·intro s _ _ h hi f hf;obtain⟨f,rfl⟩:∃ g,f=g+1:=⟨f - 1,by omega⟩;show (bif Lib.index s [13,10] == -1 then 0 else _)+1=_;rw[hi,h];rfl
 ·intro s k hk _ h hi ih f hf;obtain⟨f,rfl⟩:∃ g,f=g+1:=⟨f - 1,by omega⟩;show (bif Lib.index s [13,10] == -1 then 0 else cntF [13,10] f (s.drop ((Lib.index s [13,10]).toNat+2))+1)+1=_;rw[hi,h,show (((k:Nat):Int) == -1)=false by rw[yB];omega,tn,yg,yd,ih f (by rw[yK];omega)]
theorem qHF (s:LU):((s.count 13:Nat):Int)+((s.count 10:Nat):Int) - 2*((cntF [13,10] (s.length+1) s:Nat):Int)=((bareN false s:Nat):Int):=by
 have h1:=(qlY s).1 [] false (fun e=>by cases e);have h2:=qBC s (s.length+1) (by omega);unfold qM at h2;omega
theorem qEq (sep:LU) (h:0 < sep.length):∀ (f:Nat) (s:LU),cntF sep f s≤s.length
 | 0,s=>Nat.zero_le _
 | f+1,s=>by
  show (bif Lib.index s sep == -1 then 0 else cntF sep f (s.drop ((Lib.index s sep).toNat+sep.length))+1)≤_;rcases qdD s sep with e | e
  ·rw[e];exact Nat.zero_le _
  ·have hr:=Lib.index_room s sep e;rw[show (Lib.index s sep == -1)=false by rw[yB];omega];have:=qEq sep h f (s.drop ((Lib.index s sep).toNat+sep.length));rw[yK] at this;show cntF sep f _+1≤_;omega
theorem wr' {x:Int} (h : -9223372036854775808≤x∧x≤9223372036854775807):IntKind.wrap .i64 x=x:=IntWalk.i64_in x h
theorem qHG:∀ (s0:LU),(qBr s0=true)→∃ n,qIc n s0=qEt (z79 s0):=fun s h=>⟨0,by
 have h:lenOk s=true:=h;have hl:=qd h;unfold qIc;rw[show qeC s [13,10]=true by unfold qeC;rw[h];rfl,show qiF 13 s=true from h,show qiF 10 (z140 13 s).2=true from h];simp only[yc,yi];have c1:s.count 13≤s.length:=List.count_le_length;have c2:s.count 10≤s.length:=List.count_le_length;have c3:=qEq [13,10] (by decide) (s.length+1) s;rw[show (z140 13 s).1=((s.count 13:Nat):Int) from rfl,show (z140 10 (z140 13 s).2).1=((s.count 10:Nat):Int) from rfl,show z139 s [13,10]=((cntF [13,10] (s.length+1) s:Nat):Int) from rfl];rw[wr' (x:=((s.count 13:Nat):Int)+((s.count 10:Nat):Int)) (by omega),wr' (x:=2*((cntF [13,10] (s.length+1) s:Nat):Int)) (by omega),wr' (by omega),qHF s];rfl⟩
end
section
theorem getDe {α:Type} (l:List α) (d:α) {i:Nat} (h:i < l.length):l.getD i d=l[i]:=by simp[List.getD,h]
theorem qhy (k0:LU→Int→Bool→OA) (s:LU) (most:Int) (hl:s.length≤1048576):∀ (d i:Nat) (a:Bool) (n:Nat),i+d=s.length→d < n →
 qmf k0 n s most a s ((s.length:Nat):Int) (i:Nat)=k0 s most (a||(s.drop i).any z78)
 | d,i,a,0,_,hn=>absurd hn (by omega)
 | 0,i,a,n+1,hi,_=>by
  show qfy k0 (qmf k0 n) n _ _ _ _ _ _=_;unfold qfy;rw[dF (by omega),yA (by omega),List.any_nil,Bool.or_false];rfl
 | d+1,i,a,n+1,hi,hn=>by
  show qfy k0 (qmf k0 n) n _ _ _ _ _ _=_;unfold qfy;have hlt:i < s.length:=by omega
  rw[dT (show ((i:Nat):Int) < ((s.length:Nat):Int) by omega),dT (show (0:Int)≤((i:Nat):Int) by omega),tn,qm (by omega)];simp only[yc,Bool.and_self];rw[List.drop_eq_getElem_cons hlt,getDe s 0 hlt,List.any_cons,qhy k0 s most hl d (i+1) _ n (by omega) (by omega),qhy k0 s most hl d (i+1) _ n (by omega) (by omega)];cases a <;> rfl
theorem has0 (s:LU) (c:UInt8):decide ((0:Int)≤z80 s c)=s.contains c:=by
 show decide ((0:Int)≤Lib.indexByte s c)=_;have hge:=Lib.indexByte_ge s c
 by_cases h:Lib.indexByte s c = -1
 ·rw[h,show decide ((0:Int) ≤ -1)=false from rfl];refine(Bool.eq_false_iff.2 fun hc=>?_).symm;obtain⟨k,hk,e⟩:=List.getElem_of_mem (List.contains_iff_mem.1 hc);exact Lib.indexByte_none h k (by rw[yO hk,e])
 ·rw[dT (by omega)];obtain⟨o,ho⟩:∃ o:Nat,Lib.indexByte s c=o:=⟨(Lib.indexByte s c).toNat,by omega⟩;have:=(Lib.indexByte_some ho).1;exact(List.contains_iff_mem.2 (List.mem_of_getElem? this)).symm
theorem qwB (most:Int):∀ (l:List LU) (m:Nat),decide (most < ((maxL l m:Nat):Int))=(decide (most < ((m:Nat):Int))||l.any fun x=>decide (most < ((x.length:Nat):Int)))
 | [],m=>by rw[List.any_nil,Bool.or_false];rfl
 | x :: l,m=>by
  show decide (most < ((maxL l (max m x.length):Nat):Int))=_;rw[qwB most l,List.any_cons,← Bool.or_assoc];congr 1;rw[Bool.eq_iff_iff];simp only[yR,ym];omega
theorem qHJ:∀ (s0:LU) (most1:Int),(qjU s0 most1=true)→∃ n,qId n s0 most1=qEt (z37 s0 most1):=fun s most h=>⟨s.length+1,by
 unfold qjU at h;simp only[yf,ym] at h;have hl:=qd h.1;have e:=qhy (qkc (s.length+1)) s most hl s.length 0 false (s.length+1) (by omega) (by omega);refine e.trans ?_;rw[yw,Bool.false_or];unfold qkc z37;rw[show qBr s=true from h.1,show qBs s=true from h.1,has0,show z79 s=((bareN false s:Nat):Int) from rfl,show decide ((0:Int) < ((bareN false s:Nat):Int))=decide (0 < bareN false s) by rw[Bool.eq_iff_iff];simp,show z81 s=((maxL (z142 s) 0:Nat):Int) from rfl,qwB,dF (show ¬ most < ((0:Nat):Int) by omega),Bool.false_or];simp only[yi,yc];cases decide (0 < bareN false s)
 ·cases s.contains 0
  ·cases s.any z78
   ·by_cases hs:s=[]
    ·subst hs;rfl
    ·have:=List.length_pos_iff.2 hs;rw[dT (show (0:Int) < ((s.length:Nat):Int) by omega)];cases (z142 s).any fun x=>decide (most < ((x.length:Nat):Int)) <;> rfl
   ·rfl
  ·rfl
 ·rfl⟩
end
section
theorem qeF (f:Nat) (l:LU) (h:l≠[]):wrapS (f+1) l=(l.take 76++[13,10])++wrapS f (l.drop 76):=by
 show (bif l.isEmpty then [] else (l.take 76++[13,10])++wrapS f (l.drop 76))=_;cases l with
 | nil=>exact absurd rfl h
 | cons x r=>rfl
theorem qBH (f:Nat):wrapS f []=[]:=by cases f <;> rfl
theorem qqi (k0:LU→OA):∀ (f:Nat) (c out:LU) (n:Nat),c.length≤f→f < n→c.length≤1048576→out.length+3*c.length≤90000000→qoB k0 n c out=k0 (out++wrapS f c)
 | f,c,out,0,_,hn,_,_=>absurd hn (by omega)
 | 0,c,out,n+1,h,_,_,_=>by
  obtain rfl:=yF (Nat.le_zero.1 h);rw[show wrapS 0 []=[] from rfl,yG];rfl
 | f+1,c,out,n+1,h,hn,hl,ho=>by
  by_cases hc:c=[]
  ·subst hc;rw[qBH,yG];rfl
  show qke k0 (qoB k0 n) n c out=_;unfold qke qdv qaU;have hp:=List.length_pos_iff.2 hc;have em:(bif decide ((76:Int) < ((c.length:Nat):Int)) then (76:Int) else ((c.length:Nat):Int))=((min 76 c.length:Nat):Int):=by
   by_cases h76:76 < c.length
   ·rw[dT (by omega),Nat.min_eq_left (by omega)];rfl
   ·rw[dF (by omega),Nat.min_eq_right (by omega)];rfl
  rw[em,dT (show (0:Int) < ((c.length:Nat):Int) by omega)];simp only[tn];have et:c.take (min 76 c.length)=c.take 76:=by
   by_cases h76:76≤c.length
   ·rw[Nat.min_eq_left h76]
   ·rw[Nat.min_eq_right (by omega),List.take_length,List.take_of_length_le (by omega)]
  have ed:(c.take c.length).drop (min 76 c.length)=c.drop 76:=by
   rw[List.take_length]
   by_cases h76:76≤c.length
   ·rw[Nat.min_eq_left h76]
   ·rw[Nat.min_eq_right (by omega),List.drop_length,yA (by omega)]
  rw[et,ed,yw];have h1:(c.take 76).length≤76:=by rw[yz];omega
  rw[dT (show (0:Int)≤((0:Nat):Int) by omega),dT (show ((0:Nat):Int)≤((min 76 c.length:Nat):Int) by omega),dT (show ((min 76 c.length:Nat):Int)≤((c.length:Nat):Int) by omega),dT (show (0:Int)≤((min 76 c.length:Nat):Int) by omega),dT (show ((c.length:Nat):Int)≤((c.length:Nat):Int) by omega),
   dT (show out.length+(c.take 76).length≤room by unfold room;omega),dT (show (out++c.take 76).length+([13,10]:LU).length≤room by unfold room;rw[yn];show _+2≤_;omega)]
  simp only[Bool.and_self,yc];rw[qqi k0 f (c.drop 76) _ n (by rw[yK];omega) (by omega) (by rw[yK];omega) (by rw[yn,yn,yK,yz];show _+2+_≤_;omega),qeF f c hc];simp only[yl]
theorem lay_n (s:LU):(z74 s).length≤2*s.length+8:=by
 unfold z74 padTo;rw[yn,yQ,qIx];unfold qaA;omega
theorem qHK:∀ (s0:LU),(qrZ s0=true)→∃ n,qBU n s0=qxq (z64 s0):=fun s h=>⟨(z123 s).length+1,by
 have h:s.length≤65536:=by simpa [qrZ] using h
 have hn:(z123 s).length≤2*s.length+8:=lay_n s;unfold qBU;rw[show quc s=true from qu (by omega)];exact qqi (qoC ((z123 s).length+1)) (z123 s).length (z123 s) [] ((z123 s).length+1) (yv _) (by omega) (by omega) (by simp;omega)⟩
def tailW:Nat→LU→LU
 | _,[]=>[]
 | j,x :: r=>x :: (bif (j==75)||r.isEmpty then 13 :: 10 :: tailW 0 r else tailW (j+1) r)
theorem qwC:∀ (l:LU) (j:Nat),j≤75→l≠[]→tailW j l=l.take (76 - j)++13 :: 10 :: tailW 0 (l.drop (76 - j))
 | [],_,_,h=>absurd rfl h
 | x :: r,j,hj,_=>by
  obtain⟨m,hm⟩:∃ m,76 - j=m+1:=⟨75 - j,by omega⟩;rw[hm,List.take_succ_cons,List.drop_succ_cons];show x :: (bif (j==75)||r.isEmpty then 13 :: 10 :: tailW 0 r else tailW (j+1) r)=_
  by_cases h75:j=75
  ·subst h75;obtain rfl:m=0:=by omega
   rfl
  ·rw[show (j==75)=false by simpa using h75];cases r with
   | nil=>simp[tailW]
   | cons y r =>
    have:=qwC (y :: r) (j+1) (by omega) (by simp);rw[show 76 - (j+1)=m by omega] at this;show x :: tailW (j+1) (y :: r)=_;rw[this];rfl
theorem qqj:∀ (f:Nat) (l:LU),l.length≤f→wrapS f l=tailW 0 l
 | 0,l,h=>by
  obtain rfl:=yF (Nat.le_zero.1 h);rfl
 | f+1,l,h=>by
  by_cases hl:l=[]
  ·subst hl;rfl
  ·have:=List.length_pos_iff.2 hl;rw[qeF f l hl,qwC l 0 (by omega) hl,qqj f _ (by rw[yK];omega)];simp only[yl];rfl
end
section
theorem ltc (a b:Nat):decide (((a:Nat):Int) < ((b:Nat):Int))=decide (a < b):=by rw[Bool.eq_iff_iff];simp
theorem qwD:∀ (f:Nat) (acc s:LU),(codeW f acc s).1.length≤acc.length+s.length
 | 0,acc,s=>Nat.zero_le _
 | f+1,acc,s=>by
  show (bif s.isEmpty then (acc,(0:Int)) else bif decide (76 < (z82 s [13,10]).1.length) then ([],12) else bif !((z82 s [13,10]).2.2) then ([],4)
   else bif (z82 s [13,10]).1.isEmpty then ([],3) else codeW f (acc++(z82 s [13,10]).1) (z82 s [13,10]).2.1).1.length≤_
  cases s.isEmpty
  ·cases decide (76 < (z82 s [13,10]).1.length)
   ·rcases qfL s with ⟨h1,_⟩ | ⟨k,hk,h1,_⟩
    ·rw[h1];exact Nat.zero_le _
    ·rw[h1];cases h:(s.take k).isEmpty
     ·show (codeW f (acc++s.take k) (s.drop (k+2))).1.length≤_;have:=qwD f (acc++s.take k) (s.drop (k+2));rw[yn,yz,yK] at this;omega
     ·exact Nat.zero_le _
   ·exact Nat.zero_le _
  ·exact Nat.le_add_right _ _
theorem qqk (m:Nat):∀ (f:Nat) (s acc:LU) (n:Nat),s.length < f→f≤n→acc.length+s.length≤1048576 →
 qia qxa (qeP m) n s acc=qxa (codeW f acc s).1 (codeW f acc s).2
 | 0,s,acc,n,h,_,_=>absurd h (by omega)
 | f+1,s,acc,0,_,hn,_=>absurd hn (by omega)
 | f+1,s,acc,n+1,h,hn,hl=>by
  show qgF qxa (qeP m) (qia qxa (qeP m) n) n s acc=_;unfold qgF qaz
  by_cases hs:s=[]
  ·subst hs;rfl
  have hp:=List.length_pos_iff.2 hs;have e:codeW (f+1) acc s=(bif s.isEmpty then (acc,(0:Int)) else bif decide (76 < (z82 s [13,10]).1.length) then ([],12) else bif !((z82 s [13,10]).2.2) then ([],4)
   else bif (z82 s [13,10]).1.isEmpty then ([],3) else codeW f (acc++(z82 s [13,10]).1) (z82 s [13,10]).2.1):=rfl
  rw[e,cutok (by omega),dT (show (0:Int) < ((s.length:Nat):Int) by omega),show s.isEmpty=false by rw[List.isEmpty_eq_false_iff];exact hs,show ((76:Int))=((76:Nat):Int) from rfl,ltc];simp only[yi,yc,yd];rcases qfL s with ⟨h1,_⟩ | ⟨k,hk,h1,_⟩
  ·rw[h1];cases decide (76 < s.length) <;> rfl
  ·rw[h1];cases decide (76 < (s.take k).length)
   ·simp only[yd,Bool.not_true];have hlen:(s.take k).length=k:=by rw[yz];omega
    rw[dT (show acc.length+(s.take k).length≤room by unfold room;omega)]
    by_cases h0:k=0
    ·subst h0;rfl
    ·rw[dT (show (0:Int) < (((s.take k).length:Nat):Int) by omega),show (s.take k).isEmpty=false by rw[List.isEmpty_eq_false_iff];intro e;rw[e] at hlen;simp at hlen;omega];simp only[yc,yd];exact qqk m f _ _ n (by rw[yK];omega) (by omega) (by rw[yn,yK];omega)
   ·rfl
theorem qBI:∀ (s0:LU),(qqe s0=true)→∃ n,qxJ n s0=qxa (z147 s0).1 (z147 s0).2:=fun s h=>⟨s.length+1,by
 have hl:=qd (show lenOk s=true from h);exact qqk (s.length+1) (s.length+1) s [] (s.length+1) (by omega) (yv _) (by simpa using hl)⟩
theorem qLL {s:LU} (h:lenOk s=true):lenOk (z147 s).1=true:=by
 have h1:=qd h;have:=qwD (s.length+1) [] s;refine qu (yL this ?_);simpa using h1
theorem qHL:∀ (s0:LU),(qBp s0=true)→∃ n,qMn n s0=qxa (z84 s0).1 (z84 s0).2:=fun s h=>⟨0,by
 unfold qMn z84;rw[show qqe s=true from h,show qpW (z147 s).1=true from qLL h];cases ((z147 s).2 != (0:Int)) <;> rfl⟩
theorem qHM:∀ (s0:LU),(qBq s0=true)→∃ n,qMo n s0=qEt (z39 s0):=fun s h=>⟨0,by
 unfold qMo;rw[show qBp s=true from h];rfl⟩
def chkW:Bool→LU→Nat→LU→LU×Int
 | _,acc,j,[]=>if 0 < j then ([],4) else (acc,0)
 | true,acc,j,_ :: r=>chkW false acc j r
 | false,acc,j,x :: r=>if x=13∧r.head? = some 10 then (if j=0 then ([],3) else chkW true acc 0 r) else if 76 < j+1 then ([],12) else chkW false (acc++[x]) (j+1) r
theorem qhz (acc:LU) (j:Nat) (x:UInt8) (r:LU):chkW false acc j (x :: r)=if x=13∧r.head? = some 10 then (if j=0 then ([],3) else chkW true acc 0 r) else if 76 < j+1 then ([],12) else chkW false (acc++[x]) (j+1) r:=rfl
theorem qwE:∀ (s acc:LU) (j:Nat),j≤76→Lib.index s [13,10] = -1→chkW false acc j s=if 76 < j+s.length then ([],12) else if 0 < j+s.length then ([],4) else (acc,0)
 | [],acc,j,hj,_=>by
  rw[List.length_nil,Nat.add_zero,if_neg (by omega)];unfold chkW;rfl
 | x :: r,acc,j,hj,h=>by
  rw[qoW] at h
  by_cases hc:x=13∧r.head? = some 10
  ·rw[if_pos hc] at h;cases h
  ·rw[if_neg hc] at h
   by_cases hr:Lib.index r [13,10] = -1
   ·rw[qhz,if_neg hc,yg]
    by_cases h76:76 < j+1
    ·rw[if_pos h76,if_pos (by omega)]
    ·rw[if_neg h76,qwE r _ (j+1) (by omega) hr]
     by_cases h2:76 < j+1+r.length
     ·rw[if_pos h2,if_pos (by omega)]
     ·rw[if_neg h2,if_neg (show ¬ 76 < j+(r.length+1) by omega),if_pos (by omega),if_pos (by omega)]
   ·rw[if_neg hr] at h;have:=qdD r [13,10];omega
theorem qwF:∀ (s acc:LU) (j k:Nat),j≤76→Lib.index s [13,10]=k→chkW false acc j s=if 76 < j+k then ([],12) else if j+k=0 then ([],3) else chkW false (acc++s.take k) 0 (s.drop (k+2))
 | [],acc,j,k,_,h=>by
  have:Lib.index [] [13,10] = -1:=rfl;omega
 | x :: r,acc,j,k,hj,h=>by
  rw[qoW] at h
  by_cases hc:x=13∧r.head? = some 10
  ·rw[if_pos hc] at h;obtain rfl:k=0:=by omega
   rw[qhz,if_pos hc,Nat.add_zero,if_neg (show ¬ 76 < j by omega),List.take_zero,yG]
   by_cases h0:j=0
   ·rw[if_pos h0,if_pos h0]
   ·rw[if_neg h0,if_neg h0];cases r with
    | nil=>cases hc.2
    | cons y r=>rfl
  ·rw[if_neg hc] at h
   by_cases hr:Lib.index r [13,10] = -1
   ·rw[if_pos hr] at h;omega
   ·rw[if_neg hr] at h;obtain⟨k,rfl⟩:∃ m,k=m+1:=⟨k - 1,by have:=qdD r [13,10];omega⟩;rw[qhz,if_neg hc]
    by_cases h76:76 < j+1
    ·rw[if_pos h76,if_pos (by omega)]
    ·rw[if_neg h76,qwF r _ (j+1) k (by omega) (by omega),List.take_succ_cons,yl]
     by_cases h2:76 < j+1+k
     ·rw[if_pos h2,if_pos (by omega)]
     ·rw[if_neg h2,if_neg (show ¬ 76 < j+(k+1) by omega),if_neg (by omega),if_neg (by omega)];rfl
theorem qwG:∀ (f:Nat) (s acc:LU),s.length < f→codeW f acc s=chkW false acc 0 s
 | 0,s,acc,h=>absurd h (by omega)
 | f+1,s,acc,h=>by
  by_cases hs:s=[]
  ·subst hs;rfl
  have hp:=List.length_pos_iff.2 hs;have e:codeW (f+1) acc s=(bif s.isEmpty then (acc,(0:Int)) else bif decide (76 < (z82 s [13,10]).1.length) then ([],12) else bif !((z82 s [13,10]).2.2) then ([],4)
   else bif (z82 s [13,10]).1.isEmpty then ([],3) else codeW f (acc++(z82 s [13,10]).1) (z82 s [13,10]).2.1):=rfl
  rw[e,show s.isEmpty=false by rw[List.isEmpty_eq_false_iff];exact hs,yd];rcases qfL s with ⟨h1,_,h3⟩ | ⟨k,hk,h1,_,h3⟩
  ·rw[h1,qwE s acc 0 (by omega) h3,yE]
   by_cases h76:76 < s.length
   ·rw[if_pos h76,dT h76];rfl
   ·rw[if_neg h76,dF h76,if_pos hp];rfl
  ·rw[h1,qwF s acc 0 k (by omega) h3,yE];have hlen:(s.take k).length=k:=by rw[yz];omega
   rw[hlen]
   by_cases h76:76 < k
   ·rw[if_pos h76,dT h76];rfl
   ·rw[if_neg h76,dF h76]
    by_cases h0:k=0
    ·subst h0;rfl
    ·rw[if_neg h0,show (s.take k).isEmpty=false by rw[List.isEmpty_eq_false_iff];intro e;rw[e] at hlen;simp at hlen;omega];exact qwG f _ _ (by rw[yK];omega)
end
section
theorem qHN:∀ (s0:LU),(qBu s0=true)→∃ n,qMa n s0=qxa (z60 s0).1 (z60 s0).2:=fun s h=>⟨0,by
 unfold qMa;rw[show qjU s 76=true by unfold qjU;rw[show lenOk s=true from h];rfl];rfl⟩
theorem qHO:∀ (s0:LU),(qBv s0=true)→∃ n,qMb n s0=qxa (z61 s0).1 (z61 s0).2:=fun s h=>⟨0,by
 unfold qMb;rw[show qBJ s=true from h];rfl⟩
theorem qHP:∀ (s0:LU),(qBw s0=true)→∃ n,qMc n s0=qxa (z63 s0).1 (z63 s0).2:=fun s h=>⟨0,by
 unfold qMc;rw[show qrZ s=true from h];rfl⟩
theorem qHQ:∀ (coding0:Int),∃ n r,qIe n coding0=some r∧Picks (z30 coding0) r:=fun k=>by
 refine⟨0,?_⟩;unfold qIe z30;cases h1:(k==(1:Int))
 ·cases h2:(k==(2:Int))
  ·cases h3:(k==(3:Int))
   ·exact⟨_,rfl,(fun e=>by cases e),fun _=>⟨(fun e=>by cases e),fun _=>⟨(fun e=>by cases e),fun _=>rfl⟩⟩⟩
   ·exact⟨_,rfl,(fun e=>by cases e),fun _=>⟨(fun e=>by cases e),fun _=>⟨(fun _=>rfl),fun e=>by cases e⟩⟩⟩
  ·exact⟨_,rfl,(fun e=>by cases e),fun _=>⟨(fun _=>rfl),fun e=>by cases e⟩⟩
 ·exact⟨_,rfl,(fun _=>rfl),fun e=>by cases e⟩
end
section
theorem qNM {cs:Int} {t:LI} (h:t.length≤16384):(z31 cs t).1.length≤65536:=yL (qmq cs t) (by omega)
theorem qHR:∀ (coding0:Int) (charset1:Int) (t2:LI),(qwt coding0 charset1 t2=true)→∃ n,qMk n coding0 charset1 t2=qxa (z13 coding0 charset1 t2).1 (z13 coding0 charset1 t2).2:=fun k cs t h=>⟨0,by
 have h:t.length≤16384:=by simpa [qwt] using h
 have hc:=qNM (cs:=cs) h;unfold qMk z13;rw[show qrN cs t=true from qu (by omega)];generalize z31 cs t=r at hc ⊢;rw[show qBu r.1=true from qu (by omega),show qBv r.1=true from qu (by omega),show qBw r.1=true from dT hc];unfold z60 z61 z63
 by_cases h1:k=1
 ·subst h1;cases (r.2 != (0:Int)) <;> cases (z37 r.1 76 != (0:Int)) <;> rfl
 by_cases h2:k=2
 ·subst h2;cases (r.2 != (0:Int)) <;> rfl
 by_cases h3:k=3
 ·subst h3;cases (r.2 != (0:Int)) <;> rfl
 rw[show (k==(1:Int))=false by simpa using h1,show (k==(2:Int))=false by simpa using h2,show (k==(3:Int))=false by simpa using h3];rfl⟩
theorem qHS:∀ (coding0:Int) (charset1:Int) (s2:LU),(qok coding0 charset1 s2=true)→∃ n,qLY n coding0 charset1 s2=qxg (z12 coding0 charset1 s2):=fun k cs s h=>⟨0,by
 have h:s.length≤300000:=by simpa [qok] using h
 have h1:=qFA s;have h2:=qlo s;unfold qLY z12;rw[show qBM s=true from qu (by omega),show qzP s=true from qu (by omega),show qlr cs s=true from qu (by omega),show qlr cs (z27 s)=true from qu (by omega),show qlr cs (z28 s)=true from qu (by omega)];cases (k==(2:Int)) <;> cases (k==(3:Int)) <;> rfl⟩
theorem qHT {s:LU} (h:lenOk s=true):qjU s 76=true:=by unfold qjU;rw[h];rfl
theorem qHU:∀ (coding0:Int) (s1:LU),(qwu coding0 s1=true)→∃ n,qMp n coding0 s1=qEt (z19 coding0 s1):=fun k s h=>⟨0,by
 have h:lenOk s=true:=h;unfold qMp z19;rw[qHT h,show qBK s=true from h,show qBq s=true from h];cases (k==(1:Int)) <;> cases (k==(2:Int)) <;> cases (k==(3:Int)) <;> rfl⟩
end
section
def prevO (t:LI) (i:Nat):Option Int:=if i=0 then none else some (t.getD (i - 1) 0)
theorem qEr (k0:LI→OA) (t:LI) (hl:t.length≤1048576):∀ (d i:Nat) (out:LI) (n:Nat),i+d=t.length→d < n→out.length≤2*i →
 qmj k0 n t out t ((t.length:Nat):Int) (i:Nat)=k0 (out++z16_l (prevO t i) (t.drop i))
 | d,i,out,0,_,hn,_=>absurd hn (by omega)
 | 0,i,out,n+1,hi,_,_=>by
  show qfG k0 (qmj k0 n) n t out t _ _=_;unfold qfG qaD qaC qaB;rw[dF (by omega),yA (by omega),show z16_l (prevO t i) []=[] by unfold z16_l;rfl,yG];rfl
 | d+1,i,out,n+1,hi,hn,ho=>by
  show qfG k0 (qmj k0 n) n t out t _ _=_;unfold qfG qaD qaC qaB;have hlt:i < t.length:=by omega
  have ih:=fun (o:LI) (h:o.length≤2*(i+1))=>qEr k0 t hl d (i+1) o n (by omega) (by omega) h;have ep:prevO t (i+1)=some t[i]:=by unfold prevO;rw[if_neg (by omega),Nat.add_sub_cancel,getDe t 0 hlt]
  rw[ep] at ih;rw[dT (show ((i:Nat):Int) < ((t.length:Nat):Int) by omega),dT (show (0:Int)≤((i:Nat):Int) by omega),tn,qm (by omega),getDe t 0 hlt,List.drop_eq_getElem_cons hlt,
   dT (show out.length+([13,10]:LI).length≤room by unfold room;show _+2≤_;omega),dT (show out.length+([t[i]]:LI).length≤room by unfold room;show _+1≤_;omega)]
  simp only[yc,Bool.and_self];rw[ih out (by omega),ih (out++[13,10]) (by rw[yn];show _+2≤_;omega),ih (out++[t[i]]) (by rw[yn];show _+1≤_;omega)];show _=k0 (out++((bif (t[i]==10)&&(prevO t i==some 13) then [] else bif (t[i]==13)||(t[i]==10) then [13,10] else [t[i]])++z16_l (some t[i]) (t.drop (i+1))));have ez:decide ((0:Int) < ((i:Nat):Int))=decide (i≠0):=by rw[Bool.eq_iff_iff];simp;omega
  rw[ez]
  by_cases h10:t[i]=10
  ·rw[h10]
   by_cases hz:i=0
   ·subst hz;simp[prevO]
   ·have ew:IntKind.wrap .i64 (((i:Nat):Int) - 1)=((i - 1:Nat):Int):=by rw[wr' (by omega)];omega
    rw[ew,dT hz,dT (show (0:Int)≤((i - 1:Nat):Int) by omega),dT (show ((i - 1:Nat):Int) < ((t.length:Nat):Int) by omega),tn,show prevO t i=some (t.getD (i - 1) 0) by unfold prevO;rw[if_neg hz]]
    by_cases hp:t.getD (i - 1) 0=13
    ·rw[hp];simp
    ·rw[show (t.getD (i - 1) 0==13)=false by simpa using hp,show (some (t.getD (i - 1) 0)==some 13)=false by simpa using hp];simp
  ·rw[show (t[i]==10)=false by simpa using h10];cases h13:(t[i]==13) <;> simp
theorem qHV:∀ (t0:LI),(qBt t0=true)→∃ n,qIf n t0=qxd (z16 t0):=fun t h=>⟨t.length+1,by
 have hl:=qd (show lenOk t=true from h);exact qEr (qoF (t.length+1)) t hl t.length 0 [] (t.length+1) (by omega) (by omega) (by simp)⟩
theorem qwH (p:Option Int):z16_l p []=[]:=by unfold z16_l;rfl
end
section
theorem qwI:∀ (a b:LU),digB (a++13 :: 10 :: b)=digB (a++b)
 | [],b=>by
  rw[List.nil_append,List.nil_append,qcr,qcr,show ((13:UInt8)==61)=false from rfl,show ((10:UInt8)==61)=false from rfl,show isB64 13=false by decide +kernel,show isB64 10=false by decide +kernel];simp only[yd]
 | x :: a,b=>by
  rw[List.cons_append,List.cons_append,qcr,qcr,qwI a b]
theorem qEs:∀ (a x y:LU),digB x=digB y→digB (a++x)=digB (a++y)
 | [],_,_,h=>h
 | c :: a,x,y,h=>by rw[List.cons_append,List.cons_append,qcr,qcr,qEs a x y h]
theorem qwJ:∀ (f:Nat) (l:LU),l.length≤f→digB (wrapS f l)=digB l
 | 0,l,h=>by
  obtain rfl:=yF (Nat.le_zero.1 h);rfl
 | f+1,l,h=>by
  by_cases hl:l=[]
  ·subst hl;rfl
  ·have:=List.length_pos_iff.2 hl;rw[qeF f l hl,yl,show ([13,10]:LU)++wrapS f (l.drop 76)=13 :: 10 :: wrapS f (l.drop 76) from rfl,qwI,
    qEs (l.take 76) _ _ (qwJ f (l.drop 76) (by rw[yK];omega)),yY]
theorem qwK (s:LU):z28 (z64 s)=s:=by
 have h:z28 (z64 s)=z28 (z123 s):=by
  show (z88 (bitsB (digB (z64 s)))).1=(z88 (bitsB (digB (z123 s)))).1;unfold z64;rw[qwJ _ _ (yv _)]
 rw[h,qrM]
end
section
theorem qql:∀ (f:Nat) (l:LU),(wrapS f l).length≤3*l.length
 | 0,l=>Nat.zero_le _
 | f+1,l=>by
  by_cases hl:l=[]
  ·subst hl;exact Nat.zero_le _
  ·have:=List.length_pos_iff.2 hl;have ih:=qql f (l.drop 76);rw[qeF f l hl,yn,yn,yz];rw[yK] at ih;show min 76 l.length+2+_≤_;omega
theorem qHW (s:LU) (hl:s.length≤1048576):(z62 s).length≤6*s.length+3:=by
 have hp:=qFz s hl;unfold z62 pDone;generalize layS 0 s ([],(0,()))=p at hp ⊢;have h1:=(qyh hp true).1;have h0:=hp.1;cases decide ((0:Int) < p.2.1)
 ·exact yL h0 (by omega)
 ·exact h1
theorem qHX (k cs:Int) (t:LI) (h:t.length≤4096):(z13 k cs t).1.length≤300000:=by
 have hc:=qmq cs t;have h1:=qHW (z31 cs t).1 (by omega);have h2:=qql (z123 (z31 cs t).1).length (z123 (z31 cs t).1);have h3:(z123 (z31 cs t).1).length≤2*(z31 cs t).1.length+8:=lay_n _;have h4:(z64 (z31 cs t).1).length≤3*(z123 (z31 cs t).1).length:=h2;unfold z13;cases !((k==1)||((k==2)||(k==3)))
 ·cases (z31 cs t).2 != 0
  ·cases k==2
   ·cases k==3
    ·cases z37 (z31 cs t).1 76 != 0
     ·show (z31 cs t).1.length≤_;omega
     ·exact Nat.zero_le _
    ·show (z64 (z31 cs t).1).length≤_;omega
   ·show (z62 (z31 cs t).1).length≤_;omega
  ·exact Nat.zero_le _
 ·exact Nat.zero_le _
end
section
theorem layok {k cs:Int} {t:LI} (h:t.length≤4096):qwt k cs t=true:=dT (show t.length≤16384 by omega)
theorem qqh (k cs:Int) (s:LU):(z12 k cs s).length≤s.length:=by
 have h1:=qFA s;have h2:=qlo s;unfold z12;refine yL (qjM _ _) ?_;cases k==2
 ·cases k==3
  ·exact yv _
  ·exact h2
 ·exact h1
end
section
set_option linter.unusedSimpArgs false
end
end Go.Av
