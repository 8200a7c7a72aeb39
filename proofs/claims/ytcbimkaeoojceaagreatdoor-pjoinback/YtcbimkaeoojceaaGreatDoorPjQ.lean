import Derived.Test.YtcbimkaeoojceaaGreatDoorPjT
import Derived.Test.YtcbimkaeoojceaaGreatDoorAvE
import Derived.Lib.IndexAny
import Derived.Lib.IndexMore
import Derived.Lib.IndexBytes
import Derived.IntWalk
import Derived.KernelRfl
namespace Go.Av
set_option linter.unusedSimpArgs false
set_option linter.unusedVariables false
theorem oct8N {i:Int} (m:Nat) (h:m < 256) (hi:i=m):oct8 i=UInt8.ofNat m:=by
 subst hi;unfold oct8;rw [IntWalk.u8_in (m:Int) (by omega),Int.toNat_natCast]
theorem follN:∀ b:Fin 64,z131 (UInt8.ofNat (128+b.val))=true∧((UInt8.ofNat (128+b.val)) &&& 63).toNat=b.val:=by decide +kernel
theorem qEB:∀ a:Fin 128,qp (UInt8.ofNat a.val)=1∧((UInt8.ofNat a.val) &&& (255 ^^^ z118 1)).toNat=a.val:=by decide +kernel
theorem qEC:∀ a:Fin 32,2≤a.val→qp (UInt8.ofNat (192+a.val))=2∧((UInt8.ofNat (192+a.val)) &&& (255 ^^^ z118 2)).toNat=a.val:=by decide +kernel
theorem qzh:∀ a:Fin 32,∀ b:Fin 64,z132 (UInt8.ofNat (192+a.val)) (UInt8.ofNat (128+b.val))=true:=by decide +kernel
theorem qve:∀ a:Fin 16,qp (UInt8.ofNat (224+a.val))=3∧((UInt8.ofNat (224+a.val)) &&& (255 ^^^ z118 3)).toNat=a.val:=by decide +kernel
theorem qpv:∀ a:Fin 16,∀ b:Fin 64,(a.val=0→32≤b.val)→(a.val=13→b.val < 32)→z132 (UInt8.ofNat (224+a.val)) (UInt8.ofNat (128+b.val))=true:=by decide +kernel
theorem qzi:∀ a:Fin 5,qp (UInt8.ofNat (240+a.val))=4∧((UInt8.ofNat (240+a.val)) &&& (255 ^^^ z118 4)).toNat=a.val:=by decide +kernel
theorem qvf:∀ a:Fin 5,∀ b:Fin 64,(a.val=0→16≤b.val)→(a.val=4→b.val < 16)→z132 (UInt8.ofNat (240+a.val)) (UInt8.ofNat (128+b.val))=true:=by decide +kernel
theorem qED (a:Nat) (ha:a < 128) (r:LU):z98 (UInt8.ofNat a :: r)=((a:Int),1,0):=by
 obtain ⟨h1,h2⟩:=qEB ⟨a,ha⟩;simp only at h1 h2;have hf:farN (UInt8.ofNat a :: r)=1:=by
  show (bif qp (UInt8.ofNat a)==0 then 0 else 1+runB (UInt8.ofNat a) (qp (UInt8.ofNat a) - 1) true r)=1;rw [h1]; rfl
 unfold z98;simp only [hf,h1];show (signN 1 (UInt8.ofNat a :: r),((1:Nat):Int),(0:Int))=_;show (((UInt8.ofNat a &&& (255 ^^^ z118 ((1:Nat):Int))).toNat:Int),((1:Nat):Int),(0:Int))=_;rw [show z118 ((1:Nat):Int)=z118 1 from rfl,h2];rfl
theorem qJr (a b:Nat) (ha:a < 32) (ha2:2≤a) (hb:b < 64) (r:LU):z98 (UInt8.ofNat (192+a) :: UInt8.ofNat (128+b) :: r)=(((a*64+b:Nat):Int),2,0):=by
 obtain ⟨h1,h2⟩:=qEC ⟨a,ha⟩ ha2;obtain ⟨h3,h4⟩:=follN ⟨b,hb⟩;have h5:=qzh ⟨a,ha⟩ ⟨b,hb⟩;simp only at h1 h2 h3 h4 h5;have hf:farN (UInt8.ofNat (192+a) :: UInt8.ofNat (128+b) :: r)=2:=by
  show (bif qp (UInt8.ofNat (192+a))==0 then 0 else 1+runB (UInt8.ofNat (192+a)) (qp (UInt8.ofNat (192+a)) - 1) true (UInt8.ofNat (128+b) :: r))=2;rw [h1];show 1+(bif z131 (UInt8.ofNat (128+b))&&(!true||z132 (UInt8.ofNat (192+a)) (UInt8.ofNat (128+b))) then runB (UInt8.ofNat (192+a)) 0 false r+1 else 0)=2;rw [h3,h5]; rfl
 unfold z98;simp only [hf,h1];show ((((UInt8.ofNat (192+a) &&& (255 ^^^ z118 ((2:Nat):Int))).toNat:Nat):Int)*64+(((UInt8.ofNat (128+b)) &&& 63).toNat:Int),((2:Nat):Int),(0:Int))=_;rw [show z118 ((2:Nat):Int)=z118 2 from rfl,h2,h4];congr 1
theorem qzj (a b c:Nat) (ha:a < 16) (hb:b < 64) (hc:c < 64) (h0:a=0→32≤b) (h13:a=13→b < 32) (r:LU) :
 z98 (UInt8.ofNat (224+a) :: UInt8.ofNat (128+b) :: UInt8.ofNat (128+c) :: r)=((((a*64+b)*64+c:Nat):Int),3,0):=by
 obtain ⟨h1,h2⟩:=qve ⟨a,ha⟩;obtain ⟨h3,h4⟩:=follN ⟨b,hb⟩;obtain ⟨h6,h7⟩:=follN ⟨c,hc⟩;have h5:=qpv ⟨a,ha⟩ ⟨b,hb⟩ h0 h13;simp only at h1 h2 h3 h4 h5 h6 h7;have hf:farN (UInt8.ofNat (224+a) :: UInt8.ofNat (128+b) :: UInt8.ofNat (128+c) :: r)=3:=by
  show (bif qp (UInt8.ofNat (224+a))==0 then 0 else 1+runB (UInt8.ofNat (224+a)) (qp (UInt8.ofNat (224+a)) - 1) true (UInt8.ofNat (128+b) :: UInt8.ofNat (128+c) :: r))=3;rw [h1];show 1+(bif z131 (UInt8.ofNat (128+b))&&(!true||z132 (UInt8.ofNat (224+a)) (UInt8.ofNat (128+b))) then (bif z131 (UInt8.ofNat (128+c))&&(!false||z132 (UInt8.ofNat (224+a)) (UInt8.ofNat (128+c))) then runB (UInt8.ofNat (224+a)) 0 false r+1 else 0)+1 else 0)=3;rw [h3,h5,h6]; rfl
 unfold z98;simp only [hf,h1];show (((((UInt8.ofNat (224+a) &&& (255 ^^^ z118 ((3:Nat):Int))).toNat:Nat):Int)*64+(((UInt8.ofNat (128+b)) &&& 63).toNat:Int))*64+(((UInt8.ofNat (128+c)) &&& 63).toNat:Int),((3:Nat):Int),(0:Int))=_;rw [show z118 ((3:Nat):Int)=z118 3 from rfl,h2,h4,h7];congr 1
theorem qEE (a b c d:Nat) (ha:a < 5) (hb:b < 64) (hc:c < 64) (hd:d < 64) (h0:a=0→16≤b) (h4':a=4→b < 16) (r:LU) :
 z98 (UInt8.ofNat (240+a) :: UInt8.ofNat (128+b) :: UInt8.ofNat (128+c) :: UInt8.ofNat (128+d) :: r)=(((((a*64+b)*64+c)*64+d:Nat):Int),4,0):=by
 obtain ⟨h1,h2⟩:=qzi ⟨a,ha⟩;obtain ⟨h3,h4⟩:=follN ⟨b,hb⟩;obtain ⟨h6,h7⟩:=follN ⟨c,hc⟩;obtain ⟨h8,h9⟩:=follN ⟨d,hd⟩;have h5:=qvf ⟨a,ha⟩ ⟨b,hb⟩ h0 h4';simp only at h1 h2 h3 h4 h5 h6 h7 h8 h9;have hf:farN (UInt8.ofNat (240+a) :: UInt8.ofNat (128+b) :: UInt8.ofNat (128+c) :: UInt8.ofNat (128+d) :: r)=4:=by
  show (bif qp (UInt8.ofNat (240+a))==0 then 0 else 1+runB (UInt8.ofNat (240+a)) (qp (UInt8.ofNat (240+a)) - 1) true (UInt8.ofNat (128+b) :: UInt8.ofNat (128+c) :: UInt8.ofNat (128+d) :: r))=4;rw [h1];show 1+(bif z131 (UInt8.ofNat (128+b))&&(!true||z132 (UInt8.ofNat (240+a)) (UInt8.ofNat (128+b))) then (bif z131 (UInt8.ofNat (128+c))&&(!false||z132 (UInt8.ofNat (240+a)) (UInt8.ofNat (128+c))) then (bif z131 (UInt8.ofNat (128+d))&&(!false||z132 (UInt8.ofNat (240+a)) (UInt8.ofNat (128+d))) then runB (UInt8.ofNat (240+a)) 0 false r+1 else 0)+1 else 0)+1 else 0)=4;rw [h3,h5,h6,h8]; rfl
 unfold z98;simp only [hf,h1];show ((((((UInt8.ofNat (240+a) &&& (255 ^^^ z118 ((4:Nat):Int))).toNat:Nat):Int)*64+(((UInt8.ofNat (128+b)) &&& 63).toNat:Int))*64+(((UInt8.ofNat (128+c)) &&& 63).toNat:Int))*64+(((UInt8.ofNat (128+d)) &&& 63).toNat:Int),((4:Nat):Int),(0:Int))=_;rw [show z118 ((4:Nat):Int)=z118 4 from rfl,h2,h4,h7,h9];congr 1
theorem qzk {n:Nat} (h:z21 (n:Int)=true) (h1:n < 128):z87 (n:Int)=[UInt8.ofNat n]:=by
 unfold z87;rw [h,dT (by omega),oct8N n (by omega) rfl];rfl
theorem qJs {n:Nat} (h:z21 (n:Int)=true) (h1:¬ n < 128) (h2:n < 2048):z87 (n:Int)=[UInt8.ofNat (192+n / 64),UInt8.ofNat (128+n % 64)]:=by
 unfold z87;rw [h,dF (by omega),dT (show (n:Int) < 2048 by omega)];simp only [Bool.not_true,yd,yc];rw [oct8N (192+n / 64) (by omega) (by omega),oct8N (128+n % 64) (by omega) (by omega)]
theorem qzl {n:Nat} (h:z21 (n:Int)=true) (h2:¬ n < 2048) (h3:n < 65536):z87 (n:Int)=[UInt8.ofNat (224+n / 4096),UInt8.ofNat (128+n / 64 % 64),UInt8.ofNat (128+n % 64)]:=by
 unfold z87;rw [h,dF (show ¬ (n:Int) < 128 by omega),dF (show ¬ (n:Int) < 2048 by omega),dT (show (n:Int) < 65536 by omega)];simp only [Bool.not_true,yd,yc];rw [oct8N (224+n / 4096) (by omega) (by omega),oct8N (128+n / 64 % 64) (by omega) (by omega),oct8N (128+n % 64) (by omega) (by omega)]
theorem qEF {n:Nat} (h:z21 (n:Int)=true) (h3:¬ n < 65536) (h4:n≤1114111):z87 (n:Int)=[UInt8.ofNat (240+n / 262144),UInt8.ofNat (128+n / 4096 % 64),UInt8.ofNat (128+n / 64 % 64),UInt8.ofNat (128+n % 64)]:=by
 unfold z87;rw [h,dF (show ¬ (n:Int) < 128 by omega),dF (show ¬ (n:Int) < 2048 by omega),dF (show ¬ (n:Int) < 65536 by omega)];simp only [Bool.not_true,yd];rw [oct8N (240+n / 262144) (by omega) (by omega),oct8N (128+n / 4096 % 64) (by omega) (by omega),oct8N (128+n / 64 % 64) (by omega) (by omega),oct8N (128+n % 64) (by omega) (by omega)]
theorem qvg {c:Int} (h:z21 c=true) (r:LU):z98 (z87 c++r)=(c,(((z87 c).length:Nat):Int),0)∧0 < (z87 c).length:=by
 have hi:=h;unfold z21 z34 at hi;simp only [yf,ym,Bool.not_eq_true'] at hi;obtain ⟨hi1,hi2,hi3⟩:=hi;obtain ⟨n,rfl⟩:∃ n:Nat,c=n:=⟨c.toNat,by omega⟩;have hi2:n≤1114111:=by omega
 by_cases h1:n < 128
 ·rw [qzk h h1];exact ⟨qED n (by omega) r,Nat.succ_pos _⟩
 ·by_cases h2:n < 2048
  ·rw [qJs h h1 h2];have e:=qJr (n / 64) (n % 64) (by omega) (by omega) (by omega) r;rw [show n / 64*64+n % 64=n by omega] at e;exact ⟨e,Nat.succ_pos _⟩
  ·by_cases h3:n < 65536
   ·rw [qzl h h2 h3];have hs:¬ (55296≤n∧n≤57343):=fun ⟨a,b⟩=>by
     rw [dT (show (55296:Int)≤(n:Int) by omega),dT (show (n:Int)≤57343 by omega)] at hi3;exact absurd hi3 (by decide)
    have e:=qzj (n / 4096) (n / 64 % 64) (n % 64) (by omega) (by omega) (by omega) (by omega) (fun e=>by omega) r;rw [show (n / 4096*64+n / 64 % 64)*64+n % 64=n by omega] at e;exact ⟨e,Nat.succ_pos _⟩
   ·rw [qEF h h3 hi2];have e:=qEE (n / 262144) (n / 4096 % 64) (n / 64 % 64) (n % 64) (by omega) (by omega) (by omega) (by omega) (fun e=>by omega) (fun e=>by omega) r;rw [show ((n / 262144*64+n / 4096 % 64)*64+n / 64 % 64)*64+n % 64=n by omega] at e;exact ⟨e,Nat.succ_pos _⟩
theorem qjN:∀ (t:LI) (n:Nat),(∀ c∈t,z21 c=true)→(t.flatMap z87).length < n→utfR n (t.flatMap z87)=t
 | [],0,_,h=>by simp at h
 | [],n+1,_,_=>rfl
 | c :: t,0,_,h=>by simp at h
 | c :: t,n+1,hc,h=>by
  rw [List.flatMap_cons] at h ⊢;obtain ⟨h1,h2⟩:=qvg (hc c (by simp)) (t.flatMap z87);rw [yn] at h;have ih:=qjN t n (fun x hx=>hc x (by simp [hx])) (by omega);have hstep:∀ s:LU,s≠[]→utfR (n+1) s=(bif (z98 s).2.2 != 0 then 65533 else (z98 s).1) :: utfR n (s.drop (z98 s).2.1.toNat):=fun s hs=>by
   cases s with
   | nil=>exact absurd rfl hs
   | cons=>rfl
  rw [hstep _ (by
   intro e;have:=congrArg List.length e;rw [yn,List.length_nil] at this;omega),h1]
  show c :: utfR n ((z87 c++t.flatMap z87).drop (Int.toNat (((z87 c).length:Nat):Int)))=c :: t;rw [Int.toNat_natCast,List.drop_left,ih]
theorem qeX {cs:Int} {g:UInt8→Int} (hg:∀ c,(z62 cs c).length≠0→∃ x,z62 cs c=[x]∧g x=c) :
 ∀ t:LI,(t.all fun c=>(z62 cs c).length != 0)=true→(t.flatMap (z62 cs)).map g=t
 | [],_=>rfl
 | c :: t,h=>by
  rw [List.all_cons,yf] at h;obtain ⟨x,h1,h2⟩:=hg c (by simpa using h.1);rw [List.flatMap_cons,h1,List.map_append,qeX hg t h.2,yI,List.map_nil,h2];rfl
theorem qsL {n:Nat} (h:n < 256):(UInt8.ofNat n).toNat=n:=by simp; omega
theorem qzm (c:Int) (h:(z62 1 c).length≠0):∃ x,z62 1 c=[x]∧z95 (x.toNat:Int)=c:=by
 unfold z62 at h ⊢;rw [show z83 1 c=(decide (0≤c)&&decide (c < 128)) from rfl] at h ⊢
 by_cases hc:0≤c∧c < 128
 ·obtain ⟨n,rfl⟩:∃ n:Nat,c=n:=⟨c.toNat,by omega⟩;refine ⟨oct8 (n:Int),by rw [dT hc.1,dT hc.2]; rfl,?_⟩;rw [oct8N n (by omega) rfl,qsL (by omega)];unfold z95;rw [dF (by omega)];rfl
 ·exfalso;rw [show (decide (0≤c)&&decide (c < 128))=false by
   rw [← Bool.not_eq_true,yf,ym,ym]; exact hc] at h
  exact h rfl
theorem qzn (c:Int) (h:(z62 2 c).length≠0):∃ x,z62 2 c=[x]∧((x.toNat:Int))=c:=by
 unfold z62 at h ⊢;rw [show z83 2 c=(z84 c).2 from rfl] at h ⊢;unfold z84 at h ⊢
 by_cases hc:0≤c∧c < 256
 ·obtain ⟨n,rfl⟩:∃ n:Nat,c=n:=⟨c.toNat,by omega⟩;refine ⟨UInt8.ofNat n,by rw [dT hc.1,dT hc.2]; rfl,?_⟩;rw [qsL (by omega)]
 ·exfalso;rw [show (decide (0≤c)&&decide (c < 256))=false by
   rw [← Bool.not_eq_true,yf,ym,ym]; exact hc] at h
  exact h rfl
theorem qzo:∀ i:Fin 256,(qr ((i.val:Nat):Int)).2=true→z105 (qr ((i.val:Nat):Int)).1=((i.val:Nat):Int):=by decide +kernel
theorem qvh:∀ c∈([8364,352,353,381,382,338,339,376]:LI),z105 (qr c).1=c:=by decide +kernel
theorem qEG {c:Int} (h1:c ∉ ([8364,352,353,381,382,338,339,376]:LI)) (h2:c < 0∨256≤c):(qr c).2=false:=by
 simp only [List.mem_cons,List.not_mem_nil,or_false,not_or] at h1;obtain ⟨a1,a2,a3,a4,a5,a6,a7,a8⟩:=h1;have b:∀ k:Int,0≤k→k < 256→(c==k)=false:=fun k _ _=>by
  rw [yB]; omega
 unfold qr;rw [beq_eq_false_iff_ne.2 a1,beq_eq_false_iff_ne.2 a2,beq_eq_false_iff_ne.2 a3,beq_eq_false_iff_ne.2 a4,beq_eq_false_iff_ne.2 a5,beq_eq_false_iff_ne.2 a6,beq_eq_false_iff_ne.2 a7,beq_eq_false_iff_ne.2 a8,
  b 164 (by decide) (by decide),b 166 (by decide) (by decide),b 168 (by decide) (by decide),b 180 (by decide) (by decide),b 184 (by decide) (by decide),b 188 (by decide) (by decide),b 189 (by decide) (by decide),b 190 (by decide) (by decide)]
 have:(decide (c < 0)||decide (256≤c))=true:=by
  rw [yR,ym,ym]; exact h2
 rw [this];rfl
theorem qEH (c:Int) (h:(z62 3 c).length≠0):∃ x,z62 3 c=[x]∧z105 x=c:=by
 unfold z62 at h ⊢;rw [show z83 3 c=(qr c).2 from rfl] at h ⊢;cases hp:(qr c).2 with
 | false=>rw [hp] at h; exact absurd rfl h
 | true =>
  refine ⟨(qr c).1,rfl,?_⟩
  by_cases h1:c∈([8364,352,353,381,382,338,339,376]:LI)
  ·exact qvh c h1
  ·by_cases h2:c < 0∨256≤c
   ·rw [qEG h1 h2] at hp; cases hp
   ·obtain ⟨n,rfl⟩:∃ n:Nat,c=n:=⟨c.toNat,by omega⟩;exact qzo ⟨n,by omega⟩ hp
theorem qGy (c:Int):∀ (l:LI) (i:Int),0≤i→0≤qD (fun x => !(c==x)) l i→∃ k:Nat,k < l.length∧qD (fun x => !(c==x)) l i=i+(k:Nat)∧l.getD k 0=c
 | [],_,_,h=>absurd (show (0:Int) ≤ -1 from h) (by decide)
 | x :: r,i,hi,h=>by
  rw [show qD (fun x => !(c==x)) (x :: r) i=bif !(c==x) then qD (fun x => !(c==x)) r (i+1) else i from rfl] at h ⊢
  by_cases e:c=x
  ·subst e;refine ⟨0,by simp,?_,rfl⟩;rw [beq_self_eq_true];simp
  ·rw [beq_eq_false_iff_ne.2 e] at h ⊢;obtain ⟨k,h1,h2,h3⟩:=qGy c r (i+1) (by omega) h;refine ⟨k+1,by rw [yg]; omega,?_,by rw [List.getD_cons_succ]; exact h3⟩;show qD (fun x => !(c==x)) r (i+1)=_;rw [h2];omega
theorem qEI:∀ i:Fin 32,256≤z115.getD i.val 0→z106 (oct8 (IntKind.wrap .i64 (128+((0:Int)+(i.val:Nat)))))=z115.getD i.val 0:=by decide +kernel
theorem qOD:∀ i:Fin 256,(i.val < 128∨160≤i.val)→z106 (UInt8.ofNat i.val)=((i.val:Nat):Int):=by decide +kernel
theorem qJt (c:Int) (h:(z62 4 c).length≠0):∃ x,z62 4 c=[x]∧z106 x=c:=by
 unfold z62 at h ⊢;rw [show z83 4 c=(qC c).2 from rfl] at h ⊢;cases hp:(qC c).2 with
 | false=>rw [hp] at h; exact absurd rfl h
 | true =>
  refine ⟨(qC c).1,rfl,?_⟩;unfold qC at hp ⊢
  by_cases h1:(0≤c∧c < 128)∨(160≤c∧c < 256)
  ·have e:((decide (0≤c)&&decide (c < 128))||(decide (160≤c)&&decide (c < 256)))=true:=by
    simp only [yR,yf,ym]; exact h1
   rw [e];obtain ⟨n,rfl⟩:∃ n:Nat,c=n:=⟨c.toNat,by omega⟩;show z106 (oct8 (n:Int))=_;rw [oct8N n (by omega) rfl];exact qOD ⟨n,by omega⟩ (by simp only; omega)
  ·have e:((decide (0≤c)&&decide (c < 128))||(decide (160≤c)&&decide (c < 256)))=false:=by
    rw [← Bool.not_eq_true]; simp only [yR,yf,ym]; exact h1
   rw [e] at hp ⊢
   by_cases h2:c < 256
   ·rw [dT h2] at hp; exact absurd (show false=true from hp) (by decide)
   ·rw [dF h2] at hp ⊢
    by_cases h3:qv z115 c < 0
    ·rw [dT h3] at hp; exact absurd (show false=true from hp) (by decide)
    ·rw [dF h3];obtain ⟨k,k1,k2,k3⟩:=qGy c z115 0 (by decide) (by unfold qv at h3; omega);show z106 (oct8 (IntKind.wrap .i64 (128+qv z115 c)))=c;unfold qv;rw [k2];have:=qEI ⟨k,k1⟩ (by rw [k3]; omega);rw [k3] at this;exact this
theorem qnF {cs:Int} (t:LI) (h1:1≤cs∧cs≤5) (h0:(z39 cs t).2=0):z50 cs (z39 cs t).1=t:=by
 have hb:(decide (cs < 1)||decide (5 < cs))=false:=by
  rw [dF (by omega),dF (by omega)]; rfl
 unfold z39 at h0 ⊢;rw [hb] at h0 ⊢;cases ha:t.all (fun c=>(z62 cs c).length != 0) with
 | false=>rw [ha] at h0; exact absurd (show (9:Int)=0 from h0) (by decide)
 | true =>
  show z50 cs (t.flatMap (z62 cs))=t;obtain rfl | rfl | rfl | rfl | rfl:cs=1∨cs=2∨cs=3∨cs=4∨cs=5:=by omega
  ·exact qeX (g:=fun x=>z95 (x.toNat:Int)) qzm t ha
  ·exact qeX (g:=fun x=>(x.toNat:Int)) qzn t ha
  ·exact qeX qEH t ha
  ·exact qeX qJt t ha
  ·have hi:∀ c∈t,z21 c=true:=fun c hc=>by
    have:=List.all_eq_true.1 ha c hc;cases e:z21 c with
    | true=>rfl
    | false =>
     unfold z62 at this;rw [show z83 5 c=z21 c from rfl,e] at this;exact absurd (show ((0:Nat) != 0)=true from this) (by decide)
   have e:t.flatMap (z62 5)=t.flatMap z87:=qbm fun c hc=>by
    unfold z62;rw [show z83 5 c=z21 c from rfl,hi c hc];rfl
   rw [e];exact qjN t _ hi (Nat.lt_succ_self _)
end Go.Av
