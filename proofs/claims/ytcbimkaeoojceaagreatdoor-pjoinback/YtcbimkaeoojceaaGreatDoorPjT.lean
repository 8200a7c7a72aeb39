import Derived.Test.YtcbimkaeoojceaaGreatDoorPjSh
import Derived.Test.YtcbimkaeoojceaaGreatDoorEfL
import Derived.Test.YtcbimkaeoojceaaGreatDoorAvE
import Derived.Lib.IndexAny
import Derived.Lib.IndexMore
import Derived.Lib.IndexBytes
import Derived.IntWalk
import Derived.KernelRfl
namespace Go.Av
set_option linter.unusedSimpArgs false
set_option linter.unusedVariables false
theorem qte {α:Type} [DecidableEq α] {a b:List α} {i:Nat} (ha:i < a.length) (hb:i < b.length) (d:α):decide (a.drop i=b.drop i)=bif a.getD i d != b.getD i d then false else decide (a.drop (i+1)=b.drop (i+1)):=by
 rw [qy (d:=d) ha,qy (d:=d) hb];generalize a.getD i d=x;generalize b.getD i d=y
 by_cases h:x=y
 ·subst h; simp
 ·simp [h]
theorem qGX (ret:Bool→OA) (a b:LU) (hab:a.length=b.length) (hl:a.length≤1048576):∀ (d i n:Nat),i+d=a.length→d < n →
 z8_l4 ret (ret true) n a b (i:Nat)=ret (decide (a.drop i=b.drop i))
 | d,i,0,hi,hn=>by omega
 | 0,i,n+1,hi,hn=>by
  show qjY ret (ret true) (z8_l4 ret (ret true) n) n a b _=_;unfold qjY;rw [yx (by omega),yd,yA (by omega),yA (by omega)];rfl
 | d+1,i,n+1,hi,hn=>by
  show qjY ret (ret true) (z8_l4 ret (ret true) n) n a b _=_;unfold qjY;have hlt:i < a.length:=by omega
  have hlt':i < b.length:=by omega
  have ih:=qGX ret a b hab hl d (i+1) n (by omega) (by omega);rw [qty,yo hlt,yc,qbB,y6,yc,y6,qty,yo hlt',yc,qq (by omega),qcy,ih,qte hlt hlt' 0];cases (a.getD i 0 != b.getD i 0) <;> rfl
theorem qOL:∀ (a0:LU) (b1:LU),(z8_ok a0 b1=true)→∃ n,z8_sh n a0 b1=qvl (z8 a0 b1):=fun a b h=>⟨a.length+1,by
 unfold z8_sh z8
 by_cases hab:a.length=b.length
 ·rw [show (((a.length:Nat):Int) != ((b.length:Nat):Int))=false by simp [hab],yd];exact qGX qvl a b hab (qk h) a.length 0 (a.length+1) (by omega) (by omega)
 ·rw [show (((a.length:Nat):Int) != ((b.length:Nat):Int))=true by simp only [bne_iff_ne,ne_eq]; omega,yc,yx (fun e=>hab (by rw [e]))]⟩
theorem qnY (c:UInt8):decide (((UInt8.toNat c:Nat):Int) < (256:Nat))=true:=by
 have:=c.toNat_lt;rw [yo];omega
theorem qFl:∀ (c0:UInt8),∃ n,qzB n c0=qh (z119 c0):=fun c=>⟨0,by
 unfold qzB qdh qaf z119 qqS orI;cases decide (c < (32:UInt8)) <;> cases (c==(127:UInt8)) <;> cases (c==(32:UInt8)) <;> cases (c==(9:UInt8)) <;> cases decide ((48:UInt8)≤c) <;> cases decide (c≤(57:UInt8)) <;> cases decide ((65:UInt8)≤c) <;> cases decide (c≤(90:UInt8)) <;> cases decide ((97:UInt8)≤c) <;> cases decide (c≤(122:UInt8)) <;> rfl⟩
theorem qFm:∀ (s0:LU) (c1:UInt8),∃ n,qGG n s0 c1=qzC (z139 s0 c1):=fun _ _=>⟨0,rfl⟩
theorem qFn:∀ (s0:LU) (c1:UInt8),∃ n,qGH n s0 c1=qzD (z133 s0 c1):=fun _ _=>⟨0,rfl⟩
theorem qFo:∀ (s0:LU) (c1:UInt8),∃ n,qGI n s0 c1=qzE (z120 s0 c1):=fun _ _=>⟨0,rfl⟩
theorem qKq:∀ (c0:UInt8),∃ n,qJE n c0=qbL (z99 c0):=fun c=>⟨0,by
 unfold qJE qcF qfc qbY z99 qCd orI;cases decide (c < (33:UInt8)) <;> cases decide ((126:UInt8) < c) <;> cases z120 [33,42,43,45,47] c <;> cases z120 [43,47] c <;> cases z120 [40,41,60,62,64,44,59,58,92,34,47,91,93,63,61] c <;> cases z120 [42,39,37] c <;> rfl⟩
theorem qKr:∀ (c0:UInt8) (kinds1:Int),∃ n,qOG n c0 kinds1=qGJ (z77 c0 kinds1):=fun _ _=>⟨0,rfl⟩
theorem qGY (c:UInt8):c.toNat < 256:=c.toNat_lt
theorem qKs (cs:LU) (x:UInt8):∀ (a:List Bool),a.length=256→(setOf cs a).getD x.toNat false=(cs.contains x||a.getD x.toNat false):=by
 induction cs with
 | nil=>intro a _; simp [setOf]
 | cons c cs ih =>
  intro a hl;show (setOf cs (List.set a c.toNat true)).getD x.toNat false=_;rw [ih _ (by simpa using hl)];have hx:=qGY x;have hc:=qGY c
  by_cases e:c=x
  ·subst e;have:(List.set a c.toNat true).getD c.toNat false=true:=by simp [List.getD,hl,hc]
   rw [this];simp
  ·have hne:c.toNat≠x.toNat:=fun h=>e (UInt8.toNat_inj.1 h);have:(List.set a c.toNat true).getD x.toNat false=a.getD x.toNat false:=by simp [List.getD,List.getElem?_set_ne hne]
   rw [this];have hb:¬ x=c:=fun h=>e h.symm;simp [hb]
theorem dT {p:Prop} [Decidable p] (h:p):decide p=true:=yo h
theorem dF {p:Prop} [Decidable p] (h:¬ p):decide p=false:=yx h
theorem wr {x:Int} (h : -9223372036854775808≤x∧x≤9223372036854775807):IntKind.wrap .i64 x=x:=IntWalk.i64_in x h
theorem tn (i:Nat):Int.toNat (i:Int)=i:=Int.toNat_natCast i
theorem bneI {a b:Int} (h:a≠b):(a==b)=false:=by simp [h]
theorem qn {α:Type} {l:List α} (h:l.length≤1048576):lenOk l=true:=by unfold lenOk; rw [ym]; exact h
theorem qAp (p:UInt8→Bool) (t:LU) (x:UInt8):dropR p (t++[x])=bif p x then dropR p t else t++[x]:=by
 unfold dropR;rw [List.reverse_append,List.reverse_singleton,List.singleton_append,List.dropWhile_cons];cases p x <;> simp
theorem qes (p:UInt8→Bool):∀ s:LU,(s.dropWhile p).length≤s.length
 | []=>by simp
 | c :: s=>by
  rw [List.dropWhile_cons];split
  ·have:=qes p s; simp only [yg]; omega
  ·exact yv _
theorem qAq (p:UInt8→Bool) (s:LU):(dropR p s).length≤s.length:=by
 have:=qes p s.reverse;unfold dropR;simpa using this
theorem qtf (p:UInt8→Bool) (s:LU):(qCe p s).length≤s.length:=yL (qes p _) (qAq p s)
theorem qpT (cs:LU) (c:UInt8):z134 (z125 cs).1 c=cs.contains c:=by
 have:=qKs cs c (List.replicate 256 false) List.length_replicate;unfold z134 z125;have hc:c.toNat < 256:=c.toNat_lt;rw [this,yY,List.getElem?_replicate,if_pos hc];exact Bool.or_false _
theorem qOM (cs s:LU):z126 (z127 s (z125 cs).1) (z125 cs).1=z112 s cs:=by
 unfold z126 z127 z112 qCe;have e:(fun c=>z134 (z125 cs).1 c)=fun c=>cs.contains c:=funext fun c=>qpT cs c;rw [e]
theorem qON (f:UInt8→UInt8) (s:LU) (i:Nat) (h:i < s.length):List.set (s.take i |>.map f |> fun l=>l++s.drop i) i (f (s.getD i 0))=(s.take (i+1)).map f++s.drop (i+1):=by
 have hg:=qy (d:=(0:UInt8)) h;have hl:((s.take i).map f).length=i:=by simp; omega
 rw [hg,List.set_append_right _ _ (by omega),hl,Nat.sub_self,List.set_cons_zero];rw [show s.take (i+1)=s.take i++[s.getD i 0] by
  rw [List.take_add_one]; simp [List.getD,h]]
 simp
theorem qnZ (p:UInt8→Bool) (s:LU):(((s.countP p:Nat):Int)==((s.length:Nat):Int))=s.all p:=by
 rw [Bool.eq_iff_iff];simp only [beq_iff_eq,List.all_eq_true];have:=List.countP_eq_length (p:=p) (l:=s);constructor
 ·intro h; exact this.1 (by omega)
 ·intro h; have:=this.2 h; omega
theorem qFp:(fun c:UInt8=>([32,9]:LU).contains c)=blank:=by
 funext c;unfold blank;simp only [List.contains_cons,List.contains_nil,Bool.or_false]
theorem bneT {a b:Int} (h:a≠b):(a != b)=true:=by simp [bne,h]
theorem bneF {a b:Int} (h:a=b):(a != b)=false:=by simp [h]
theorem qAr (ret:Bool→OA) (k0:OA) (hk:k0=ret false) (s:LU) (c:UInt8) (hl:s.length≤1048576):∀ (d i n:Nat),i+d=s.length→d < n →
 qfl ret k0 n s c (i:Nat)=ret ((s.drop i).contains c)
 | d,i,0,hi,hn=>by omega
 | 0,i,n+1,hi,hn=>by
  show qdN ret k0 (qfl ret k0 n) n _ _ _=_;unfold qdN;rw [dF (by omega),yd,yA (by omega),hk];rfl
 | d+1,i,n+1,hi,hn=>by
  show qdN ret k0 (qfl ret k0 n) n _ _ _=_;unfold qdN;have hlt:i < s.length:=by omega
  have ih:=qAr ret k0 hk s c hl d (i+1) n (by omega) (by omega);rw [qy (d:=(0:UInt8)) hlt,List.contains_cons];simp (disch:=omega) only [dT,yc,yi,tn,qq];rw [ih,show (s.getD i 0==c)=(c==s.getD i 0) from Bool.beq_comm];cases (c==s.getD i 0) <;> rfl
theorem qFq (s:LU) (c:UInt8) (hl:s.length≤1048576):∃ n,qnN n s c=qgf (z121 s c):=⟨s.length+1,by
 unfold qnN;have:=qAr qgf (qfm (s.length+1)) rfl s c hl s.length 0 (s.length+1) (by omega) (by omega);exact this⟩
theorem qFr:∀ (s0:LU) (c1:UInt8),(qGj s0 c1=true)→∃ n,qnN n s0 c1=qgf (z121 s0 c1):=fun s c h=>qFq s c (qk h)
theorem qKt:∀ (c0:UInt8) (kinds1:Int),∃ n,qOI n c0 kinds1=qGR (z82 c0 kinds1):=fun _ _=>⟨0,rfl⟩
theorem qdm (k0:Int→OA) (s:LU) (k:Int) (hl:s.length≤1048576):∀ (d i n m:Nat),i+d=s.length→d < n→m+d≤1048576 →
 qlJ k0 n s k (m:Nat) (i:Nat)=k0 ((m+(s.drop i).countP (fun c=>z77 c k):Nat):Int)
 | d,i,0,m,hi,hn,hm=>by omega
 | 0,i,n+1,m,hi,hn,hm=>by
  show qgg k0 (qlJ k0 n) n _ _ _ _=_;unfold qgg;rw [dF (by omega),yd,yA (by omega)];rfl
 | d+1,i,n+1,m,hi,hn,hm=>by
  show qgg k0 (qlJ k0 n) n _ _ _ _=_;unfold qgg;have hlt:i < s.length:=by omega
  have ih:=qdm k0 s k hl d (i+1) n m (by omega) (by omega) (by omega);have ih2:=qdm k0 s k hl d (i+1) n (m+1) (by omega) (by omega) (by omega);rw [qy (d:=(0:UInt8)) hlt,List.countP_cons];simp (disch:=omega) only [dT,yc,yi,tn,qq];rw [show z82 (s.getD i 0) k=z77 (s.getD i 0) k from rfl];cases z77 (s.getD i 0) k with
  | true=>rw [yc,ih2]; congr 2; simp; omega
  | false=>rw [yd,ih]; congr 2
theorem qKu:∀ (s0:LU) (kinds1:Int),(quf s0 kinds1=true)→∃ n,qEX n s0 kinds1=qGS (z59 s0 kinds1):=fun s k h=>⟨s.length+1,by
 have hl:=qk h;unfold qEX;have:=qdm (qiU (s.length+1)) s k hl s.length 0 (s.length+1) 0 (by omega) (by omega) (by omega);refine Eq.trans this ?_;rw [yE,yw];rfl⟩
theorem qlU {P:UInt8→Prop} (h:∀ i:Fin 256,P (UInt8.ofNat i.val)) (c:UInt8):P c:=by
 have:=h ⟨c.toNat,c.toNat_lt⟩;simpa using this
theorem qtg {α:Type} (pre:List α) (x d:α):List.getD (pre++[x]) pre.length d=x:=by
 rw [yY,yN (yv _),Nat.sub_self];rfl
theorem qAs {α:Type} (pre:List α) (x y:α):List.set (pre++[x]) pre.length y=pre++[y]:=by
 rw [List.set_append_right _ _ (yv _),Nat.sub_self];rfl
theorem qGZ (x:UInt8) (s:LU) (c:UInt8):Lib.indexByte (x :: s) c=if (x==c)=true then 0 else if (Lib.indexByte s c == -1)=true then -1 else Lib.indexByte s c+1:=rfl
theorem ib_lt:∀ (s:LU) (c:UInt8),Lib.indexByte s c < (s.length:Int)
 | [],c=>by show (-1:Int) < ((0:Nat):Int); omega
 | x :: s,c=>by
  have:=ib_lt s c;have hg:=Lib.indexByte_ge s c;rw [qGZ];simp only [yg];split
  ·omega
  ·split <;> omega
theorem qRK (n:Int):Int.tmod (Int.tmod n 16+16) 16=n % 16:=by
 have h:Int.tmod n 16=n % 16∨Int.tmod n 16=n % 16 - 16:=by
  rcases Int.le_total 0 n with h | h
  ·exact .inl (Int.tmod_eq_emod_of_nonneg h)
  ·have h2:Int.tmod n 16 = -((-n) % 16):=by
    have:=Int.neg_tmod (-n) 16;rw [Int.neg_neg] at this;rw [this,Int.tmod_eq_emod_of_nonneg (by omega)]
   omega
 have h3:0≤Int.tmod n 16+16:=by omega
 rw [Int.tmod_eq_emod_of_nonneg h3];omega
theorem qpU (n:Int) : -16 < Int.tmod n 16∧Int.tmod n 16 < 16:=by
 have h:Int.tmod n 16=n % 16∨Int.tmod n 16=n % 16 - 16∧n % 16≠0:=by
  rcases Int.le_total 0 n with h | h
  ·exact .inl (Int.tmod_eq_emod_of_nonneg h)
  ·have h2:Int.tmod n 16 = -((-n) % 16):=by
    have:=Int.neg_tmod (-n) 16;rw [Int.neg_neg] at this;rw [this,Int.tmod_eq_emod_of_nonneg (by omega)]
   omega
 omega
theorem qpV:∀ j:Fin 16,(bif decide (((j.val:Nat):Int) < 10) then UInt8.ofNat (Int.toNat (IntKind.wrap .u8 (IntKind.wrap .i64 ((48:Int)+((j.val:Nat):Int)))))
 else UInt8.ofNat (Int.toNat (IntKind.wrap .u8 (IntKind.wrap .i64 ((IntKind.wrap .i64 ((65:Int)+((j.val:Nat):Int))) - (10:Int))))))=List.getD hexD j.val 0:=by decide +kernel
theorem qFs:∀ (n0:Int),(qdY n0=true)→∃ n,qAk n n0=qpQ (z107 n0):=fun n _=>⟨0,by
 unfold qAk qfo z107;have hr:=qpU n;rw [IntWalk.i64_in (Int.tmod n 16+16) (by omega),qRK];have hj:(n % 16).toNat < 16:=by omega
 have:=qpV ⟨(n % 16).toNat,hj⟩;simp only [Int.toNat_of_nonneg (show 0≤n % 16 by omega)] at this;rw [← this];cases decide (n % 16 < 10) <;> rfl⟩
theorem qAt (c:UInt8):IntKind.wrap .i64 ((UInt8.toNat c:Nat):Int)=((UInt8.toNat c:Nat):Int):=by
 have:=c.toNat_lt;exact IntWalk.i64_in _ (by omega)
theorem qpW:∀ i:Fin 256,0≤(z138 (UInt8.ofNat i.val)).1∧(z138 (UInt8.ofNat i.val)).1 < 16:=by decide +kernel
theorem qKv {P:UInt8→Prop} (h:∀ i:Fin 256,P (UInt8.ofNat i.val)) (c:UInt8):P c:=by
 have:=h ⟨c.toNat,c.toNat_lt⟩;simpa using this
theorem qkb (c:UInt8):0≤(z138 c).1∧(z138 c).1 < 16:=qKv (P:=fun c=>0≤(z138 c).1∧(z138 c).1 < 16) qpW c
theorem qKw:∀ a b:Fin 16,UInt8.ofNat (Int.toNat (IntKind.wrap .u8 (bits .or .i64 (IntKind.wrap .i64 (((a.val:Nat):Int)*2 ^ (min (Int.toNat (4:Int)) (IntKind.bits .i64)))) ((b.val:Nat):Int))))=UInt8.ofNat (Int.toNat (((a.val:Nat):Int)*16+((b.val:Nat):Int))):=by decide +kernel
theorem qKx {P:Int→Int→Prop} (h:∀ a b:Fin 16,P ((a.val:Nat):Int) ((b.val:Nat):Int)) {x y:Int} (hx:0≤x∧x < 16) (hy:0≤y∧y < 16):P x y:=by
 have:=h ⟨x.toNat,by omega⟩ ⟨y.toNat,by omega⟩;simp only [Int.toNat_of_nonneg hx.1,Int.toNat_of_nonneg hy.1] at this;exact this
theorem qvm (s:LU) (at1:Int) (hl:s.length≤1048576) (h0:¬ at1 < 0) (h1:¬ IntKind.wrap .i64 (((List.length s:Nat):Int) - 3) < at1):∃ i:Nat,at1=i∧i+2 < s.length:=by
 rw [IntWalk.i64_in _ (by omega)] at h1;exact ⟨at1.toNat,by omega,by omega⟩
theorem qoa:∀ i:Fin 256,[z107 (IntKind.wrap .i64 (Int.tdiv (IntKind.wrap .i64 ((UInt8.toNat (UInt8.ofNat i.val):Nat):Int)) (16:Int))),z107 (Int.tmod (IntKind.wrap .i64 ((UInt8.toNat (UInt8.ofNat i.val):Nat):Int)) (16:Int))]=qZ (UInt8.ofNat i.val):=by decide +kernel
theorem qvn:∀ i:Fin 256,qdY (IntKind.wrap .i64 (Int.tdiv (IntKind.wrap .i64 ((UInt8.toNat (UInt8.ofNat i.val):Nat):Int)) (16:Int)))=true∧qdY (Int.tmod (IntKind.wrap .i64 ((UInt8.toNat (UInt8.ofNat i.val):Nat):Int)) (16:Int))=true ∧
 qaK (IntKind.wrap .i64 ((UInt8.toNat (UInt8.ofNat (UInt8.toNat (UInt8.ofNat i.val) / 2 ^ (min (Int.toNat (4:Int)) 8))):Nat):Int))=true∧qaK (IntKind.wrap .i64 ((UInt8.toNat (UInt8.ofNat i.val):Nat):Int))=true:=by decide +kernel
theorem qKy (c:UInt8):[z107 (IntKind.wrap .i64 (Int.tdiv (IntKind.wrap .i64 ((UInt8.toNat c:Nat):Int)) (16:Int))),z107 (Int.tmod (IntKind.wrap .i64 ((UInt8.toNat c:Nat):Int)) (16:Int))]=qZ c:=qKv (P:=fun c=>[z107 (IntKind.wrap .i64 (Int.tdiv (IntKind.wrap .i64 ((UInt8.toNat c:Nat):Int)) (16:Int))),z107 (Int.tmod (IntKind.wrap .i64 ((UInt8.toNat c:Nat):Int)) (16:Int))]=qZ c) qoa c
theorem qRL (c:UInt8):qdY (IntKind.wrap .i64 (Int.tdiv (IntKind.wrap .i64 ((UInt8.toNat c:Nat):Int)) (16:Int)))=true∧qdY (Int.tmod (IntKind.wrap .i64 ((UInt8.toNat c:Nat):Int)) (16:Int))=true ∧
 qaK (IntKind.wrap .i64 ((UInt8.toNat (UInt8.ofNat (UInt8.toNat c / 2 ^ (min (Int.toNat (4:Int)) 8))):Nat):Int))=true∧qaK (IntKind.wrap .i64 ((UInt8.toNat c:Nat):Int))=true:=qKv (P:=fun c=>qdY (IntKind.wrap .i64 (Int.tdiv (IntKind.wrap .i64 ((UInt8.toNat c:Nat):Int)) (16:Int)))=true∧qdY (Int.tmod (IntKind.wrap .i64 ((UInt8.toNat c:Nat):Int)) (16:Int))=true ∧
 qaK (IntKind.wrap .i64 ((UInt8.toNat (UInt8.ofNat (UInt8.toNat c / 2 ^ (min (Int.toNat (4:Int)) 8))):Nat):Int))=true∧qaK (IntKind.wrap .i64 ((UInt8.toNat c:Nat):Int))=true) qvn c
theorem qKz:∀ (b0:LU) (sign1:UInt8) (c2:UInt8),(qHZ b0 sign1 c2=true)→∃ n,qKj n b0 sign1 c2=qGV (z88 b0 sign1 c2):=fun b sign c h=>⟨0,by
 have hl:=qk h;obtain ⟨h1,h2,_,_⟩:=qRL c;unfold qKj qlT qfp z88;rw [h1,h2,yo (by unfold room; simp; omega),yi,yc,yc,yo (by unfold room; simp; omega),yc,← qKy c];rfl⟩
theorem beqT {a b:Int} (h:a=b):(a==b)=true:=by simp [h]
theorem beqF {a b:Int} (h:a≠b):(a==b)=false:=by simp [h]
theorem qth {t:LI} {p:Int→Bool} {k0:OA} {ret:Int→OA} {L:Nat→Int→OA} (hl:t.length≤1048576)
 (hL:∀ n (i:Nat),i < t.length→L (n+1) (i:Int)=bif p (t.getD i 0) then L n ((i+1:Nat):Int) else ret (i:Int)) (hE:∀ n,L (n+1) (t.length:Nat)=k0) :
 ∀ d i n:Nat,i+d=t.length→d < n→L n (i:Int)=bif qD p (t.drop i) i == -1 then k0 else ret (qD p (t.drop i) i)
 | d,i,0,hi,hn=>by omega
 | 0,i,n+1,hi,hn=>by
  obtain rfl:i=t.length:=by omega
  rw [hE,yA (by omega)];rfl
 | d+1,i,n+1,hi,hn=>by
  have hlt:i < t.length:=by omega
  rw [hL n i hlt,qth hl hL hE d (i+1) n (by omega) (by omega),qy (d:=(0:Int)) hlt];rw [show qD p (t.getD i 0 :: t.drop (i+1)) (i:Int)=bif p (t.getD i 0) then qD p (t.drop (i+1)) ((i+1:Nat):Int) else (i:Int) from rfl];cases p (t.getD i 0) with
  | true=>rfl
  | false =>
   have:((i:Int) == -1)=false:=by simp only [yB,ne_eq]; omega
   simp [this]
theorem qFt:∀ (n0:Int),∃ n,qzN n n0=qiK (z118 n0):=fun c=>⟨0,by
 unfold qzN z118;cases (c==(2:Int)) <;> cases (c==(3:Int)) <;> cases (c==(4:Int)) <;> rfl⟩
theorem qFu:∃ n,qGM n  = qzR z114:=⟨0,rfl⟩
theorem qFv:∃ n,qGO n  = qzT z115:=⟨0,rfl⟩
theorem qKA {α β:Type} (f:α→β) (t:List α) (z:β) (i:Nat) (h:i < t.length) (d:α) :
 ((t.take i).map f++List.replicate (t.length - i) z).set i (f (t.getD i d))=(t.take (i+1)).map f++List.replicate (t.length - (i+1)) z:=by
 rw [List.set_append_right _ _ (by simp; omega)];have h1:((t.take i).map f).length=i:=by simp; omega
 rw [h1,Nat.sub_self,show t.length - i=(t.length - (i+1))+1 by omega,List.replicate_succ,List.set_cons_zero,List.take_succ_eq_append_getElem h,List.map_append,yl];simp [List.getD,h]
theorem qje (x:UInt8):IntKind.wrap .i32 ((UInt8.toNat x:Nat):Int)=((UInt8.toNat x:Nat):Int):=IntWalk.i32_in _ (by have:=x.toNat_lt; omega)
theorem qFw:∀ (x0:UInt8),∃ n,qAi n x0=qcg (z105 x0):=fun x=>⟨0,by
 unfold qAi z105;rw [qje];cases (x==(164:UInt8)) <;> cases (x==(166:UInt8)) <;> cases (x==(168:UInt8)) <;> cases (x==(180:UInt8)) <;> cases (x==(184:UInt8)) <;> cases (x==(188:UInt8)) <;> cases (x==(189:UInt8)) <;> cases (x==(190:UInt8)) <;> rfl⟩
theorem qFx:∀ (x0:UInt8),∃ n,qAj n x0=qlP (z106 x0):=fun x=>⟨0,by
 unfold qAj qiX z106;rw [qje];have hx:=x.toNat_lt
 by_cases h1:x < 128
 ·rw [dT h1]; rfl
 ·by_cases h2:159 < x
  ·rw [dF h1,dT h2]; rfl
  ·rw [dF h1,dF h2];have h3:128≤x.toNat:=by have:=UInt8.not_lt.1 h1; exact UInt8.le_iff_toNat_le.1 this
   have h4:x.toNat≤159:=by have:=UInt8.not_lt.1 h2; exact UInt8.le_iff_toNat_le.1 this
   have h5:(x - 128).toNat=x.toNat - 128:=UInt8.toNat_sub_of_le _ _ (UInt8.not_lt.1 h1);rw [h5];simp (disch:=(first | omega | (simp; omega))) only [dT,yi,yc,yd,Bool.or_false,tn];rfl⟩
theorem qpX {sign:UInt8→Int} {put:Int→UInt8×Bool} {c:Int} {L:Nat→Int→OA} {ret:UInt8→Bool→OA}
 (hL:∀ n i:Nat,i < 256→L (n+1) (i:Int)=bif sign (UInt8.ofNat i)==c then (bif c != 65533 then ret (UInt8.ofNat i) true else L n ((i+1:Nat):Int)) else L n ((i+1:Nat):Int)) (hE:∀ n,L (n+1) ((256:Nat):Int)=ret 0 false)
 (hA:∀ i:Nat,i < 256→sign (UInt8.ofNat i)=c→c≠65533→put c=(UInt8.ofNat i,true)) (hB:(put c).2=true→sign (put c).1=c∧c≠65533) (hC:(put c).2=false→(put c).1=0) :
 ∀ d i n:Nat,i+d=256→d < n→(∀ j:Nat,j < i→¬ (sign (UInt8.ofNat j)=c∧c≠65533))→L n (i:Int)=ret (put c).1 (put c).2
 | d,i,0,hi,hn,_=>by omega
 | 0,i,n+1,hi,hn,hno=>by
  obtain rfl:i=256:=by omega
  rw [hE];cases h:(put c).2 with
  | true =>
   have:=hB h;exact absurd (by simpa using this) (hno (put c).1.toNat (put c).1.toNat_lt)
  | false=>rw [hC h]
 | d+1,i,n+1,hi,hn,hno=>by
  have ih:¬ (sign (UInt8.ofNat i)=c∧c≠65533)→L n ((i+1:Nat):Int)=ret (put c).1 (put c).2:=fun h=>qpX hL hE hA hB hC d (i+1) n (by omega) (by omega) fun j hj=>by
   by_cases e:j=i
   ·subst e; exact h
   ·exact hno j (by omega)
  rw [hL n i (by omega)]
  by_cases h1:sign (UInt8.ofNat i)=c
  ·by_cases h2:c=65533
   ·rw [beqT h1,bneF h2,yc,yd,ih (fun h=>h.2 h2)]
   ·rw [beqT h1,bneT h2,yc,yc,hA i (by omega) h1 h2]
  ·rw [beqF h1,yd,ih (fun h=>h1 h.1)]
theorem qjf {α β:Type} {t:List α} {dv:α} {f:α→List β} {q:α→Bool} {k0:List β→OA} {R:OA} {L:Nat→List β→Int→OA} {b:Nat} (hf:∀ x,(f x).length≤b)
 (hL:∀ (n i:Nat) (out:List β),i < t.length→out.length+b≤room→L (n+1) out (i:Int)=bif q (t.getD i dv) then L n (out++f (t.getD i dv)) ((i+1:Nat):Int) else R) (hE:∀ n out,L (n+1) out ((t.length:Nat):Int)=k0 out) :
 ∀ (d i n:Nat) (out:List β),i+d=t.length→d < n→out.length+b*d≤room→L n out (i:Int)=bif (t.drop i).all q then k0 (out++(t.drop i).flatMap f) else R
 | d,i,0,out,hi,hn,_=>by omega
 | 0,i,n+1,out,hi,hn,_=>by
  obtain rfl:i=t.length:=by omega
  rw [hE,yA (by omega)];simp
 | d+1,i,n+1,out,hi,hn,hb=>by
  have hlt:i < t.length:=by omega
  have hx:=hf (t.getD i dv);have hb':b*(d+1)=b*d+b:=by rw [Nat.mul_succ]
  have h0:0≤b*d:=Nat.zero_le _;rw [hL n i out hlt (by omega),qjf (α:=α) (β:=β) hf hL hE d (i+1) n _ (by omega) (by omega) (by rw [yn]; omega),qy (d:=dv) hlt];simp only [List.all_cons,List.flatMap_cons,yl];cases q (t.getD i dv) <;> rfl
theorem qKB:∀ (charset0:Int),∃ n,qJy n charset0=qiF (z90 charset0):=fun cs=>⟨0,by
 unfold qJy z90;cases (cs==(1:Int)) <;> cases (cs==(2:Int)) <;> cases (cs==(3:Int)) <;> cases (cs==(4:Int)) <;> cases (cs==(5:Int)) <;> rfl⟩
theorem qKC:∀ (charset0:Int),∃ n,qKn n charset0=qjb (z42 charset0):=fun cs=>⟨0,by
 unfold qKn z42 z90;cases (cs==(1:Int)) <;> cases (cs==(2:Int)) <;> cases (cs==(3:Int)) <;> cases (cs==(4:Int)) <;> cases (cs==(5:Int)) <;> rfl⟩
theorem qKD:∀ (charset0:Int),∃ n,qKo n charset0=qAo (z27 charset0):=fun cs=>⟨0,by
 unfold qKo z27 z42 qe z90;cases (cs==(1:Int)) <;> cases (cs==(2:Int)) <;> cases (cs==(3:Int)) <;> cases (cs==(4:Int)) <;> cases (cs==(5:Int)) <;> rfl⟩
theorem qAu (cs:Int):(qe cs).length≤12:=by
 unfold qe z90;cases (cs==(1:Int)) <;> cases (cs==(2:Int)) <;> cases (cs==(3:Int)) <;> cases (cs==(4:Int)) <;> cases (cs==(5:Int)) <;> decide
theorem qgt {α β:Type} (f:α→β):∀ l:List α,l.flatMap (fun x=>[f x])=l.map f
 | []=>rfl
 | x :: r=>by rw [List.flatMap_cons,qgt f r]; rfl
theorem qlV {α:Type}:∀ l:List α,l.all (fun _=>true)=true
 | []=>rfl
 | _ :: r=>by rw [List.all_cons,qlV r]; rfl
theorem qti {s:LU} {i:Nat} (h:i < s.length):s.drop i=s.getD i 0 :: s.drop (i+1):=by
 rw [List.drop_eq_getElem_cons h,yY,yO h]; rfl
theorem qdZ (c:UInt8):∀ s:LU,(bif decide ((0:Int)≤Lib.indexByte s c) then s.take (Lib.indexByte s c).toNat else s)=s.takeWhile fun x=>x != c
 | []=>rfl
 | x :: s=>by
  have ih:=qdZ c s;have hg:=Lib.indexByte_ge s c;rw [qGZ,List.takeWhile_cons]
  by_cases hx:x=c
  ·subst hx;simp
  ·have h1:(x==c)=false:=beq_eq_false_iff_ne.2 hx;have h2:(x != c)=true:=by rw [bne,h1]; rfl
   rw [h1,h2];simp only [yq,if_false,if_true];rw [← ih]
   by_cases h3:Lib.indexByte s c = -1
   ·rw [h3]; rfl
   ·have h4:(Lib.indexByte s c == -1)=false:=by simpa using h3
    rw [h4];simp only [yq,if_false];rw [dT (by omega),dT (by omega),yc,yc,show (Lib.indexByte s c+1).toNat=(Lib.indexByte s c).toNat+1 by omega,List.take_succ_cons]
theorem qtj (c:UInt8):qp c≤4:=by
 unfold qp;cases decide (c < 128) <;> cases decide (c < 194)||decide (244 < c) <;> cases decide (c < 224) <;> cases decide (c < 240) <;> decide
theorem qKE:∀ (c0:Int),∃ n,qKb n c0=qAg (z34 c0):=fun c=>⟨0,by
 unfold qKb z34;cases decide ((55296:Int)≤c) <;> rfl⟩
theorem qKF:∀ (c0:Int),∃ n,qKc n c0=qsX (z21 c0):=fun c=>⟨0,by
 unfold qKc z21;cases decide ((0:Int)≤c) <;> cases decide (c≤(1114111:Int)) <;> rfl⟩
theorem qKG {p:Int→Bool} {t:LI} {k0:OA} {ret:Int→OA} {x:OA} (h:x=bif qD p (t.drop 0) (0:Nat) == -1 then k0 else ret (qD p (t.drop 0) (0:Nat))) (hk:k0=ret (-1)):x=ret (qD p t 0):=by
 rw [h,yw];cases e:(qD p t (0:Nat) == -1) with
 | true =>
  rw [beq_iff_eq] at e;have e':qD p t 0 = -1:=e;rw [e',hk];rfl
 | false=>rfl
theorem qjg (c:Int):qau c=0∨qau c=1∨qau c=2∨qau c=3∨qau c=4:=by
 unfold qau;cases qS c <;> cases decide (c < (128:Int)) <;> cases decide (c < (2048:Int)) <;> cases decide (c < (65536:Int)) <;> simp
theorem qjs {c:Int} (h0:0≤c) (h1:c≤1114111):IntKind.wrap .i64 c=c:=IntWalk.i64_in c (by omega)
theorem qKH:∀ (c0:Int),∃ n,qKh n c0=qjV (z87 c0):=fun c=>⟨0,by
 unfold qKh qlS qhC z87;cases h:z21 c with
 | false=>rfl
 | true =>
  unfold z21 at h;simp only [yf,ym] at h;have e1:Int.tdiv c 64=c / 64:=Int.tdiv_eq_ediv_of_nonneg h.1;have e2:Int.tdiv c 4096=c / 4096:=Int.tdiv_eq_ediv_of_nonneg h.1;have e3:Int.tdiv c 262144=c / 262144:=Int.tdiv_eq_ediv_of_nonneg h.1;have e4:Int.tmod c 64=c % 64:=Int.tmod_eq_emod_of_nonneg h.1;have e5:Int.tmod (c / 64) 64=c / 64 % 64:=Int.tmod_eq_emod_of_nonneg (by omega);have e6:Int.tmod (c / 4096) 64=c / 4096 % 64:=Int.tmod_eq_emod_of_nonneg (by omega);rw [qjs h.1 h.2.1,e1,e2,e3,e4,qjs (c:=c / 64) (by omega) (by omega),qjs (c:=c / 4096) (by omega) (by omega),qjs (c:=c / 262144) (by omega) (by omega),e5,e6,
   qjs (c:=192+c / 64) (by omega) (by omega),qjs (c:=128+c % 64) (by omega) (by omega),qjs (c:=224+c / 4096) (by omega) (by omega),qjs (c:=128+c / 64 % 64) (by omega) (by omega),
   qjs (c:=240+c / 262144) (by omega) (by omega),qjs (c:=128+c / 4096 % 64) (by omega) (by omega)]
  cases decide (c < (128:Int)) <;> cases decide (c < (2048:Int)) <;> cases decide (c < (65536:Int)) <;> rfl⟩
theorem qFy:∀ (x0:UInt8),∃ n,qGU n x0=qAh (z104 x0):=fun _=>⟨0,rfl⟩
theorem qvo (i:Int) (h0:0≤i) (h1:i < 256):z104 (UInt8.ofNat (Int.toNat (IntKind.wrap .u8 i)))=i:=by
 unfold z104;rw [IntWalk.u8_in i (by omega),UInt8.toNat_ofNat',Nat.mod_eq_of_lt (by omega),IntWalk.i32_in _ (by omega)];omega
theorem qAv (ret:UInt8→Bool→OA) (k0:OA) (c:Int):∀ (d:Nat) (i:Int) (n:Nat),i=256 - d→0≤i→d < n →
 qnR ret k0 n c i=bif decide (i≤c)&&decide (c < 256) then ret (UInt8.ofNat c.toNat) true else k0
 | d,i,0,hi,h0,hn=>by omega
 | 0,i,n+1,hi,h0,hn=>by
  obtain rfl:i=256:=by omega
  have h1:(decide ((256:Int)≤c)&&decide (c < 256))=false:=by
   simp only [Bool.and_eq_false_iff,decide_eq_false_iff_not]; omega
  rw [h1];rfl
 | d+1,i,n+1,hi,h0,hn=>by
  have hlt:i < 256:=by omega
  show qlM ret k0 (qnR ret k0 n) n c i=_;unfold qlM;rw [yo hlt,yc,qvo i h0 hlt,IntWalk.i64_in (i+1) (by omega),qAv ret k0 c d (i+1) n (by omega) (by omega) (by omega)]
  by_cases e:i=c
  ·subst e;have h1:(i != 65533)=true:=by simp only [bne_iff_ne,ne_eq]; omega
   rw [beq_self_eq_true,yc,h1,yc,yo (Int.le_refl i),yo hlt,IntWalk.u8_in i (by omega)];rfl
  ·have h1:(i==c)=false:=by simp [e]
   have h2:decide (i+1≤c)=decide (i≤c):=by simp only [decide_eq_decide]; omega
   rw [h1,yd,h2]
theorem qKI:∀ (c0:Int),∃ n,qFc n c0=qta (z84 c0).1 (z84 c0).2:=fun c=>⟨257,by
 unfold qFc z84;rw [qAv _ _ c 256 0 257 (by omega) (by omega) (by omega)];cases decide (0≤c)&&decide (c < 256) <;> rfl⟩
theorem qAw (i:Nat) (h:i < 256):UInt8.ofNat (Int.toNat (IntKind.wrap .u8 (i:Int)))=UInt8.ofNat i:=by
 rw [IntWalk.u8_in _ (by omega)]; simp
theorem qRM:∀ i:Fin 256,qr (z105 (UInt8.ofNat i.val))=(UInt8.ofNat i.val,true):=by decide +kernel
theorem qRN:∀ i:Fin 256,((qr ((i.val:Nat):Int)).2=true→z105 (qr ((i.val:Nat):Int)).1=((i.val:Nat):Int))∧((qr ((i.val:Nat):Int)).2=false→(qr ((i.val:Nat):Int)).1=0):=by decide +kernel
theorem qRO:∀ c∈([8364,352,353,381,382,338,339,376]:LI),(qr c).2=true∧z105 (qr c).1=c∧c≠65533:=by decide +kernel
theorem qKJ {c:Int} (h:c ∉ ([8364,352,353,381,382,338,339,376]:LI)) (hc:c < 0∨256≤c):qr c=(0,false):=by
 simp only [List.mem_cons,List.not_mem_nil,or_false,not_or] at h;obtain ⟨h1,h2,h3,h4,h5,h6,h7,h8⟩:=h;unfold qr;simp (disch:=omega) only [beqF,yd];rw [show (decide (c < 0)||decide (256≤c))=true by simp; omega];rfl
theorem qob (c:Int):((qr c).2=true→z105 (qr c).1=c∧c≠65533)∧((qr c).2=false→(qr c).1=0):=by
 by_cases h:c∈([8364,352,353,381,382,338,339,376]:LI)
 ·have:=qRO c h;exact ⟨fun _=>this.2,fun e=>by rw [this.1] at e; cases e⟩
 ·by_cases hc:c < 0∨256≤c
  ·rw [qKJ h hc]; exact ⟨(fun e=>by cases e),fun _=>rfl⟩
  ·have hb:=qRN ⟨c.toNat,by omega⟩;simp only [Int.toNat_of_nonneg (show 0≤c by omega)] at hb;exact ⟨fun e=>⟨hb.1 e,by omega⟩,hb.2⟩
theorem qKK:∀ (c0:Int),∃ n,qFd n c0=qnS (z85 c0).1 (z85 c0).2:=fun c=>⟨257,by
 unfold qFd z85;refine qpX (sign:=z105) (put:=qr) (L:=fun n i=>qpM qnS (qiW 257) n c i) (fun n i hi=>?_) (fun n=>rfl) (fun i hi h1 h2=>?_) (qob c).1 (qob c).2 256 0 257 (by omega) (by omega) (fun j hj=>by omega)
 ·show qlO _ _ _ n _ _=_;unfold qlO;simp (disch:=omega) only [dT,yc,qq,qAw]
 ·have:=qRM ⟨i,hi⟩;rw [← h1];exact this⟩
theorem win_A:∀ i:Fin 256,z106 (UInt8.ofNat i.val)≠65533→qC (z106 (UInt8.ofNat i.val))=(UInt8.ofNat i.val,true):=by decide +kernel
theorem win_B:∀ i:Fin 256,((qC ((i.val:Nat):Int)).2=true→z106 (qC ((i.val:Nat):Int)).1=((i.val:Nat):Int))∧((qC ((i.val:Nat):Int)).2=false→(qC ((i.val:Nat):Int)).1=0):=by decide +kernel
theorem win_C:∀ c∈z115,256≤c→(qC c).2=true∧z106 (qC c).1=c∧c≠65533:=by decide +kernel
theorem qAx (c:Int):∀ (l:LI) (i:Int),0≤i→c ∉ l→qD (fun x => !(c==x)) l i = -1
 | [],_,_,_=>rfl
 | x :: r,i,hi,h=>by
  simp only [List.mem_cons,not_or] at h;unfold qD;rw [beqF h.1];exact qAx c r (i+1) (by omega) h.2
theorem qOO {c:Int} (h:c ∉ z115) (hc:c < 0∨256≤c):qC c=(0,false):=by
 unfold qC qv;rw [qAx c _ 0 (by omega) h,show ((decide (0≤c)&&decide (c < 128))||(decide (160≤c)&&decide (c < 256)))=false by simp; omega];cases decide (c < 256) <;> rfl
theorem qtk (c:Int):((qC c).2=true→z106 (qC c).1=c∧c≠65533)∧((qC c).2=false→(qC c).1=0):=by
 by_cases hc:c < 0∨256≤c
 ·by_cases h:c∈z115
  ·by_cases h0:c < 0
   ·have:∀ c∈z115,0≤c:=by decide +kernel
    have:=this c h;omega
   ·have:=win_C c h (by omega);exact ⟨fun _=>this.2,fun e=>by rw [this.1] at e; cases e⟩
  ·rw [qOO h hc]; exact ⟨(fun e=>by cases e),fun _=>rfl⟩
 ·have hb:=win_B ⟨c.toNat,by omega⟩;simp only [Int.toNat_of_nonneg (show 0≤c by omega)] at hb;exact ⟨fun e=>⟨hb.1 e,by omega⟩,hb.2⟩
theorem qKL:∀ (c0:Int),∃ n,qFe n c0=qnT (z86 c0).1 (z86 c0).2:=fun c=>⟨257,by
 unfold qFe z86;refine qpX (sign:=z106) (put:=qC) (L:=fun n i=>qpN qnT (qiY 257) n c i) (fun n i hi=>?_) (fun n=>rfl) (fun i hi h1 h2=>?_) (qtk c).1 (qtk c).2 256 0 257 (by omega) (by omega) (fun j hj=>by omega)
 ·show qlQ _ _ _ n _ _=_;unfold qlQ;simp (disch:=omega) only [dT,yc,qq,qAw]
 ·have:=win_A ⟨i,hi⟩;rw [← h1] at h2 ⊢;exact this h2⟩
theorem qcw {α β:Type} (g:α→β):∀ l:List α,l.flatMap (fun x=>[g x])=l.map g
 | []=>rfl
 | x :: r=>by rw [List.flatMap_cons,qcw g r]; rfl
theorem qKM:∀ (charset0:Int) (c1:Int),∃ n,qKf n charset0 c1=qgN (z83 charset0 c1):=fun cs c=>⟨0,by
 unfold qKf z83;cases (cs==(1:Int)) <;> cases (cs==(2:Int)) <;> cases (cs==(3:Int)) <;> cases (cs==(4:Int)) <;> cases (cs==(5:Int)) <;> cases decide ((0:Int)≤c) <;> rfl⟩
theorem qOP (c:Int):(qde [] c).1.length≤4:=by
 unfold qde;rcases qjg c with e | e | e | e | e <;> rw [e] <;> simp
theorem qKN:∀ (charset0:Int) (c1:Int),∃ n,qKi n charset0 c1=qja (z62 charset0 c1):=fun cs c=>⟨0,by
 unfold qKi z62;cases z83 cs c <;> cases (cs==(1:Int)) <;> cases (cs==(2:Int)) <;> cases (cs==(3:Int)) <;> cases (cs==(4:Int)) <;> rfl⟩
theorem qFz (c:Int):(z87 c).length≤4:=by
 unfold z87;cases z21 c <;> cases decide (c < (128:Int)) <;> cases decide (c < (2048:Int)) <;> cases decide (c < (65536:Int)) <;> simp
theorem qoc (cs c:Int):(z62 cs c).length≤4:=by
 unfold z62;have:=qFz c;cases z83 cs c <;> cases (cs==(1:Int)) <;> cases (cs==(2:Int)) <;> cases (cs==(3:Int)) <;> cases (cs==(4:Int)) <;> simp [this]
theorem qKO:∀ (charset0:Int) (t1:LI),(qBT charset0 t1=true)→∃ n,qFh n charset0 t1=qgO (z39 charset0 t1).1 (z39 charset0 t1).2:=fun cs t h=>⟨t.length+1,by
 have hl:=qk (l:=t) h;unfold qFh z39;cases decide (cs < 1) <;> cases decide (5 < cs)
 ·have:=qjf (t:=t) (dv:=0) (f:=z62 cs) (q:=fun c=>(z62 cs c).length != 0) (b:=4) (k0:=qgo (t.length+1)) (R:=qgO [] 9)
   (L:=fun n out i=>qpP qgO (qgo (t.length+1)) n cs t out i) (qoc cs) (fun n i out hi hb=>by
    show qgn _ _ _ n _ _ _ _=_;unfold qgn;have hp:=qoc cs (t.getD i 0);simp (disch:=omega) only [dT,yc,yi,tn,qq];rw [show ((((z62 cs (t.getD i 0)).length:Nat):Int)==0) = !((z62 cs (t.getD i 0)).length != 0) from by
     cases (z62 cs (t.getD i 0)).length <;> rfl]
    cases (z62 cs (t.getD i 0)).length != 0 <;> rfl) (fun n out=>by
    show qgn _ _ _ n _ _ _ _=_;unfold qgn;rw [dF (by omega)];rfl) t.length 0 (t.length+1) [] (by omega) (by omega) (by unfold room; simp; omega)
  refine this.trans ?_;rw [yw];simp only [Bool.or_self,yd,List.nil_append];cases t.all (fun c=>(z62 cs c).length != 0) <;> rfl
 ·rfl
 ·rfl
 ·rfl⟩
theorem qch {t:LI} (h:i32s t=true) {c:Int} (hc:c∈t) : -2147483648≤c∧c≤2147483647:=by
 unfold i32s at h;rw [List.all_eq_true] at h;simpa using h c hc
theorem qOQ {c:Int} (h : -2147483648≤c∧c≤2147483647):IntKind.wrap .u32 c=if 0≤c then c else c+4294967296:=by
 by_cases h0:0≤c
 ·rw [if_pos h0,IntWalk.u32_in c (by omega)]
 ·rw [if_neg h0];have:IntKind.wrap .u32 c=c % 4294967296:=rfl;rw [this]; omega
theorem qhD {c:Int} (h : -2147483648≤c∧c≤2147483647):qS c=z21 c:=by
 unfold qS z21;rw [show z34 c=qdd c from rfl,← Bool.and_assoc,qOQ h];congr 1;rw [Bool.eq_iff_iff];simp only [yf,ym];split <;> omega
theorem qpY {c:Int} (h : -2147483648≤c∧c≤2147483647):qaT c=(z84 c).2:=by
 unfold qaT z84;rw [qOQ h];have:decide ((if 0≤c then c else c+4294967296) < 256)=(decide (0≤c)&&decide (c < 256)):=by
  rw [Bool.eq_iff_iff];simp only [yf,ym];split <;> omega
 rw [this];cases (decide (0≤c)&&decide (c < 256)) <;> rfl
theorem qKP (cs:Int) {c:Int} (h : -2147483648≤c∧c≤2147483647):qap cs c=z83 cs c:=by
 unfold qap z83;rw [qpY h,qhD h];rfl
theorem qpZ (p:Int→Bool):∀ (t:LI) (i:Int),0≤i→(qD p t i = -1∧t.all p=true)∨(0≤qD p t i∧t.all p=false)
 | [],_,_=>.inl ⟨rfl,rfl⟩
 | x :: r,i,hi=>by
  rw [show qD p (x :: r) i=bif p x then qD p r (i+1) else i from rfl,List.all_cons];cases p x with
  | true=>simpa using qpZ p r (i+1) (by omega)
  | false=>exact .inr ⟨hi,rfl⟩
theorem qqa (p:Int→Bool) (t:LI):(qD p t 0 == -1)=t.all p:=by
 rcases qpZ p t 0 (by omega) with ⟨h1,h2⟩ | ⟨h1,h2⟩
 ·rw [h1,h2]; rfl
 ·rw [h2,beqF (by omega)]
theorem qAy (p:Int→Bool) (t:LI):(qD p t 0 != -1) = !(t.all p):=by rw [← qqa]; rfl
theorem qOR (p:Int→Bool) (t:LI):decide (0≤qD p t 0) = !(t.all p):=by
 rcases qpZ p t 0 (by omega) with ⟨h1,h2⟩ | ⟨h1,h2⟩
 ·rw [h1,h2]; rfl
 ·rw [h2,dT h1]; rfl
theorem qvp {p q:Int→Bool} {t:LI} (h:∀ c∈t,p c=q c):t.all p=t.all q:=by
 rw [Bool.eq_iff_iff,List.all_eq_true,List.all_eq_true];exact ⟨fun k c hc=>by rw [← h c hc]; exact k c hc,fun k c hc=>by rw [h c hc]; exact k c hc⟩
theorem qbm {f g:Int→LU}:∀ {t:LI},(∀ c∈t,f c=g c)→t.flatMap f=t.flatMap g
 | [],_=>rfl
 | x :: r,h=>by rw [List.flatMap_cons,List.flatMap_cons,h x (by simp),qbm fun c hc=>h c (by simp [hc])]
theorem lead2:∀ i:Fin 32,(192:UInt8) ||| oct8 ((i.val:Nat):Int)=oct8 (192+((i.val:Nat):Int)):=by decide +kernel
theorem lead3:∀ i:Fin 16,(224:UInt8) ||| oct8 ((i.val:Nat):Int)=oct8 (224+((i.val:Nat):Int)):=by decide +kernel
theorem lead4:∀ i:Fin 8,(240:UInt8) ||| oct8 ((i.val:Nat):Int)=oct8 (240+((i.val:Nat):Int)):=by decide +kernel
theorem qAz:∀ i:Fin 256,foll ((i.val:Nat):Int)=oct8 (128+((i.val:Nat):Int) % 64):=by decide +kernel
theorem qKQ (n:Int):oct8 n=oct8 (n % 256):=by
 unfold oct8;have:IntKind.wrap .u8 n=n % 256:=rfl;have h2:IntKind.wrap .u8 (n % 256)=n % 256 % 256:=rfl;rw [this,h2]; congr 1; congr 1; omega
theorem qOS (n:Int):foll n=oct8 (128+n % 64):=by
 have h:=qAz ⟨(n % 256).toNat,by omega⟩;simp only [Int.toNat_of_nonneg (show 0≤n % 256 by omega)] at h;rw [show n % 256 % 64=n % 64 by omega] at h;rw [← h];unfold foll;rw [← qKQ]
theorem qRP {c:Int} (h:z21 c=true) (h32 : -2147483648≤c∧c≤2147483647):(qde [] c).1=z87 c:=by
 have hs:=(qhD h32).trans h;have hr:0≤c∧c≤1114111:=by
  unfold z21 at h;simp only [yf,ym] at h;exact ⟨h.1,h.2.1⟩
 unfold qde qau z87;rw [hs,h];simp only [Bool.not_true,yd,qOS,Int.fdiv_eq_ediv_of_nonneg _ (show (0:Int)≤2 ^ 18 by decide),Int.fdiv_eq_ediv_of_nonneg _ (show (0:Int)≤2 ^ 12 by decide),Int.fdiv_eq_ediv_of_nonneg _ (show (0:Int)≤2 ^ 6 by decide),Int.fdiv_eq_ediv_of_nonneg _ (show (0:Int)≤2 ^ 0 by decide)];rw [show (2:Int) ^ 18=262144 from rfl,show (2:Int) ^ 12=4096 from rfl,show (2:Int) ^ 6=64 from rfl,show (2:Int) ^ 0=1 from rfl,Int.ediv_one]
 by_cases h1:c < 128
 ·rw [dT h1];show [(0:UInt8) ||| oct8 c]=[oct8 c];rw [UInt8.zero_or]
 ·rw [dF h1]
  by_cases h2:c < 2048
  ·rw [dT h2];have:=lead2 ⟨(c / 64).toNat,by omega⟩;simp only [Int.toNat_of_nonneg (show 0≤c / 64 by omega)] at this;show [(192:UInt8) ||| oct8 (c / 64),oct8 (128+c % 64)]=_;rw [this]; rfl
  ·rw [dF h2]
   by_cases h3:c < 65536
   ·rw [dT h3];have:=lead3 ⟨(c / 4096).toNat,by omega⟩;simp only [Int.toNat_of_nonneg (show 0≤c / 4096 by omega)] at this;show [(224:UInt8) ||| oct8 (c / 4096),oct8 (128+c / 64 % 64),oct8 (128+c % 64)]=_;rw [this]; rfl
   ·rw [dF h3];have:=lead4 ⟨(c / 262144).toNat,by omega⟩;simp only [Int.toNat_of_nonneg (show 0≤c / 262144 by omega)] at this;show [(240:UInt8) ||| oct8 (c / 262144),oct8 (128+c / 4096 % 64),oct8 (128+c / 64 % 64),oct8 (128+c % 64)]=_;rw [this]; rfl
theorem qlW {cs c:Int} (h:cs=1∨cs=2∨cs=3∨cs=4∨cs=5):((z62 cs c).length != 0)=z83 cs c:=by
 unfold z62;cases hh:z83 cs c with
 | false=>rfl
 | true =>
  rcases h with rfl | rfl | rfl | rfl | rfl
  ·rfl
  ·rfl
  ·rfl
  ·rfl
  ·have h3:z21 c=true:=hh;show ((z87 c).length != 0)=true;unfold z87;rw [h3];cases decide (c < (128:Int)) <;> cases decide (c < (2048:Int)) <;> cases decide (c < (65536:Int)) <;> rfl
theorem qOT {cs:Int} (h:cs=1∨cs=2∨cs=3∨cs=4∨cs=5):0 < qcp cs:=by
 rcases h with rfl | rfl | rfl | rfl | rfl <;> decide
theorem qOU (cs:Int) (t:LI) (h:i32s t=true):qbW cs t=z39 cs t:=by
 by_cases hcs:cs=1∨cs=2∨cs=3∨cs=4∨cs=5
 ·have hsz:=qOT hcs;unfold qbW z39 qkM qjB;rw [beqF (show qcp cs≠0 by omega),dT hsz,qqa,dF (show ¬ cs < 1 by omega),dF (show ¬ 5 < cs by omega),qvp (q:=z83 cs) (fun c hc=>qKP cs (qch h hc)),qvp (p:=fun c=>(z62 cs c).length != 0) (q:=z83 cs) (fun c _=>qlW hcs)];cases ha:t.all (z83 cs) with
  | false=>rfl
  | true =>
   rw [List.all_eq_true] at ha;show (bif cs==5 then qco t else _)=(t.flatMap (z62 cs),0);rcases hcs with rfl | rfl | rfl | rfl | rfl
   ·show qA t=_;have h2:t.all qaT=true:=List.all_eq_true.2 fun c hc=>by
     have:=ha c hc;rw [qpY (qch h hc)];unfold z84;have h3:(decide (0≤c)&&decide (c < 128))=true:=this;simp only [yf,ym] at h3;rw [dT h3.1,dT (show c < 256 by omega)]; rfl
    unfold qA qbv;rw [qAy,h2];show (t.map _,(0:Int))=_;rw [← qcw];congr 1;exact qbm fun c hc=>by
     unfold z62;rw [ha c hc]; rfl
   ·show qA t=_;have h2:t.all qaT=true:=List.all_eq_true.2 fun c hc=>by rw [qpY (qch h hc)]; exact ha c hc
    unfold qA qbv;rw [qAy,h2];show (t.map _,(0:Int))=_;rw [← qcw];congr 1;exact qbm fun c hc=>by
     have h3:(z84 c).2=true:=ha c hc;unfold z62;rw [ha c hc];show _=[(z84 c).1];unfold z84 at h3 ⊢;cases h4:(decide (0≤c)&&decide (c < 256)) with
     | false=>rw [h4] at h3; cases h3
     | true =>
      simp only [yf,ym] at h4;rw [IntWalk.u8_in c (by omega)]; rfl
   ·show qcn t=_;unfold qcn;rw [show t.all qdv=true from List.all_eq_true.2 ha];show (t.map _,(0:Int))=_;rw [← qcw];congr 1;exact qbm fun c hc=>by
     unfold z62;rw [ha c hc]; rfl
   ·show qdf t=_;unfold qdf qej;rw [qOR,show t.all qil=true from List.all_eq_true.2 ha];show (t.map _,(0:Int))=_;rw [← qcw];congr 1;exact qbm fun c hc=>by
     unfold z62;rw [ha c hc]; rfl
   ·show qco t=_;unfold qco qR;rw [qqa,show t.all qS=true from List.all_eq_true.2 fun c hc=>(qhD (qch h hc)).trans (ha c hc)];show (t.flatMap _,(0:Int))=_;congr 1;exact qbm fun c hc=>by
     have h3:z21 c=true:=ha c hc;unfold z62;rw [ha c hc,qRP h3 (qch h hc)]; rfl
 ·simp only [not_or] at hcs;obtain ⟨h1,h2,h3,h4,h5⟩:=hcs;unfold qbW z39 qcp;simp only [beqF h1,beqF h2,beqF h3,beqF h4,beqF h5,yd];rw [show (decide (cs < 1)||decide (5 < cs))=true by simp; omega];rfl
theorem qKR:∀ (charset0:Int) (t1:LI),(qBO charset0 t1=true)→∃ n,qFf n charset0 t1=qnU (z61 charset0 t1):=fun cs t h=>⟨t.length+1,by
 have hl:=qk (l:=t) h;unfold qFf z61;refine qKG (qth (L:=fun n i=>qpO qnU (qiZ (t.length+1)) n cs t i) hl (fun n i hi=>?_) (fun n=>?_) t.length 0 (t.length+1) (by omega) (by omega)) rfl
 ·show qgl _ _ _ n _ _ _=_;unfold qgl;simp (disch:=omega) only [dT,yc,yi,tn,qq];cases z83 cs (t.getD i 0) <;> rfl
 ·show qgl _ _ _ n _ _ _=_;unfold qgl;rw [dF (by omega)];rfl⟩
theorem qKS:∀ (charset0:Int) (t1:LI),(qBP charset0 t1=true)→∃ n,qKg n charset0 t1=qtb (z38 charset0 t1):=fun cs t h=>⟨0,by
 unfold qKg z38;rw [show qBO cs t=true from h];cases decide (1≤cs) <;> cases decide (cs≤5) <;> rfl⟩
theorem qKT:∀ (t0:LI),(qtY t0=true)→∃ n,qFg n t0=qfn (z24 t0).1 (z24 t0).2:=fun t h=>⟨6,by
 have ha:∀ n,qBP n t=true:=fun _=>h;have step:∀ (k:Nat) (i:Int),i≤5→qlR qfn (qer 6) (k+1) t i=bif z38 i t then qfn i 0 else qlR qfn (qer 6) k t (IntKind.wrap .i64 (i+1)):=fun k i hi=>by
  show qgm _ _ _ k _ _=_;unfold qgm;rw [dT hi,ha];rfl
 have last:∀ (k:Nat),qlR qfn (qer 6) (k+1) t 6=qfn 0 7:=fun k=>by
  show qgm _ _ _ k _ _=_;unfold qgm;rw [dF (by omega)];rfl
 unfold qFg z24 selF qtX;rw [step 5 1 (by omega),show IntKind.wrap .i64 (1+1)=2 from rfl,step 4 2 (by omega),show IntKind.wrap .i64 (2+1)=3 from rfl,step 3 3 (by omega),show IntKind.wrap .i64 (3+1)=4 from rfl,step 2 4 (by omega),show IntKind.wrap .i64 (4+1)=5 from rfl,
  step 1 5 (by omega),show IntKind.wrap .i64 (5+1)=6 from rfl,last 0]
 simp only [];cases z38 1 t <;> cases z38 2 t <;> cases z38 3 t <;> cases z38 4 t <;> cases z38 5 t <;> rfl⟩
theorem qod {p:Int→Bool}:∀ (t:LI) (i:Nat),decide (qD p t i < 0)=t.all p
 | [],i=>rfl
 | c :: r,i=>by
  rw [show qD p (c :: r) (i:Int)=bif p c then qD p r ((i+1:Nat):Int) else (i:Int) from rfl,List.all_cons];cases p c with
  | true=>exact qod r (i+1)
  | false=>exact dF (by show ¬ (i:Int) < 0; omega)
theorem qjh (k0:Int→OA) (s:LU) (k:Int) (hl:s.length≤1048576):∀ (d i n m:Nat),i+d=s.length→d < n→m+d≤1048576 →
 qfg k0 n k (m:Nat) s (s.length:Nat) (i:Nat)=k0 ((m+(s.drop i).countP (fun c=>z77 c k):Nat):Int)
 | d,i,0,m,hi,hn,hm=>by omega
 | 0,i,n+1,m,hi,hn,hm=>by
  show qdL k0 (qfg k0 n) n _ _ _ _ _=_;unfold qdL;rw [dF (by omega),yd,yA (by omega)];rfl
 | d+1,i,n+1,m,hi,hn,hm=>by
  show qdL k0 (qfg k0 n) n _ _ _ _ _=_;unfold qdL;have hlt:i < s.length:=by omega
  have ih:=qjh k0 s k hl d (i+1) n m (by omega) (by omega) (by omega);have ih2:=qjh k0 s k hl d (i+1) n (m+1) (by omega) (by omega) (by omega);rw [qy (d:=(0:UInt8)) hlt,List.countP_cons];simp (disch:=omega) only [dT,yc,yi,tn,qq];cases z77 (s.getD i 0) k with
  | true=>rw [yc,ih2]; congr 2; simp; omega
  | false=>rw [yd,ih]; congr 2
theorem qFA:∀ (s0:LU) (kinds1:Int),(qqT s0 kinds1=true)→∃ n,qsW n s0 kinds1=qzY (z101 s0 kinds1):=fun s k h=>⟨s.length+1,by
 have hl:=qk h;unfold qsW;have:=qjh (qfh (s.length+1)) s k hl s.length 0 (s.length+1) 0 (by omega) (by omega) (by omega);refine Eq.trans this ?_;rw [yE,yw];rfl⟩
theorem qKU:∀ (s0:LU) (kinds1:Int),(qud s0 kinds1=true)→∃ n,qJV n s0 kinds1=qzZ (z79 s0 kinds1):=fun s k h=>⟨0,by
 unfold qJV;rw [show qqT s k=true from h];show qzZ (z101 s k==((s.length:Nat):Int))=_;unfold z101;rw [qnZ];rfl⟩
theorem qoe (ret:Int→OA) (k0:OA) (t:LI) (hl:t.length≤1048576):∀ (d i n:Nat),i+d=t.length→d < n →
 qpJ ret k0 n t (i:Int)=bif decide (qD z21 (t.drop i) (i:Int) < 0) then k0 else ret (qD z21 (t.drop i) (i:Int))
 | d,i,0,hi,hn=>by omega
 | 0,i,n+1,hi,hn=>by
  obtain rfl:i=t.length:=by omega
  show qge _ _ _ n _ _=_;unfold qge;rw [dF (by omega),List.drop_length];rfl
 | d+1,i,n+1,hi,hn=>by
  have hlt:i < t.length:=by omega
  show qge _ _ _ n _ _=_;unfold qge;have hg:t.getD i 0=t[i]:=by rw [yY,yO hlt]; rfl
  rw [tn,hg,dT (show (i:Int) < ((t.length:Nat):Int) by omega),dT (show (0:Int)≤(i:Int) by omega),qq (by omega),List.drop_eq_getElem_cons hlt];have hstep:qD z21 (t[i] :: t.drop (i+1)) (i:Int)=bif z21 t[i] then qD z21 (t.drop (i+1)) ((i:Int)+1) else (i:Int):=rfl
  rw [hstep];have ih:=qoe ret k0 t hl d (i+1) n (by omega) (by omega);cases z21 t[i] with
  | true =>
   simp only [Bool.not_true,yc,yd,yi];exact ih
  | false =>
   simp only [Bool.not_false,yc,yd,yi];rw [dF (show ¬ (i:Int) < 0 by omega)];rfl
theorem qtl (p:Int→Bool):∀ (t:LI) (i:Int),0≤i→qD p t i < 0→qD p t i = -1
 | [],_,_,_=>rfl
 | x :: r,i,hi,h=>by
  have e:qD p (x :: r) i=bif p x then qD p r (i+1) else i:=rfl
  rw [e] at h ⊢;cases hp:p x with
  | true=>rw [hp] at h; exact qtl p r (i+1) (by omega) h
  | false=>rw [hp] at h; exact absurd (show i < 0 from h) (by omega)
theorem qKV:∀ (t0:LI),(qGa t0=true)→∃ n,qEW n t0=qiS (z12 t0):=fun t h=>⟨1048577,by
 have hl:=qk (show lenOk t=true from h);unfold qEW z12;have e:=qoe qiS (qiT 1048577) t hl t.length 0 1048577 (yE _) (by omega);rw [yw] at e;refine e.trans ?_
 by_cases hn:qD z21 t ((0:Nat):Int) < 0
 ·rw [dT hn];have:=qtl z21 t ((0:Nat):Int) (by omega) hn;show qiS (-1)=qiS (qD z21 t 0);rw [show qD z21 t 0 = -1 from this]
 ·rw [dF hn];rfl⟩
theorem qcJ {α β:Type} {t:List α} {dv:α} {f:α→List β} {k0:List β→OA} {L:Nat→List β→Int→OA} {b M:Nat} (hf:∀ x∈t,(f x).length≤b)
 (hL:∀ (n i:Nat) (out:List β),i < t.length→out.length+b≤M→L (n+1) out (i:Int)=L n (out++f (t.getD i dv)) ((i+1:Nat):Int)) (hE:∀ n out,L (n+1) out ((t.length:Nat):Int)=k0 out) :
 ∀ (d i n:Nat) (out:List β),i+d=t.length→d < n→out.length+b*d≤M→L n out (i:Int)=k0 (out++(t.drop i).flatMap f)
 | d,i,0,out,hi,hn,_=>by omega
 | 0,i,n+1,out,hi,hn,_=>by
  obtain rfl:i=t.length:=by omega
  rw [hE,yA (by omega)];simp
 | d+1,i,n+1,out,hi,hn,hb=>by
  have hlt:i < t.length:=by omega
  have hx:=hf (t.getD i dv) (by rw [yY,yO hlt]; exact List.getElem_mem hlt);have hb':b*(d+1)=b*d+b:=by rw [Nat.mul_succ]
  have h0:0≤b*d:=Nat.zero_le _;rw [hL n i out hlt (by omega),qcJ hf hL hE d (i+1) n _ (by omega) (by omega) (by rw [yn]; omega),qy (d:=dv) hlt];simp only [List.flatMap_cons,yl]
theorem qcK {α:Type} {l:List α} (h:len1k l=true):l.length≤1000:=by unfold len1k at h; exact of_decide_eq_true h
theorem qci {α:Type} {l:List α} (h:l.length≤1000):len1k l=true:=by unfold len1k; exact dT h
theorem qqb (c:UInt8):(oneC c).length≤3:=by
 unfold oneC qZ;cases z77 c 256 <;> simp
theorem qOV (c:UInt8) (k:Int):z82 c k=z77 c k:=rfl
theorem qKW:∀ (c0:UInt8),∃ n,qKk n c0=qAl (z63 c0):=fun c=>⟨0,by
 unfold qKk z63 oneC;rw [qOV];cases z77 c 256 <;> rfl⟩
theorem qKX:∀ (s0:LU),(qFX s0=true)→∃ n,qFi n s0=qGW (z40 s0):=fun s h=>⟨s.length+1,by
 have hl:=qcK h;unfold qFi z40;have:=qcJ (t:=s) (dv:=0) (f:=oneC) (b:=3) (M:=4000) (k0:=qgq (s.length+1)) (L:=fun n out i=>qpR (qgq (s.length+1)) n s out i) (fun x _=>qqb x) (fun n i out hi hb=>by
  show qgp _ _ n _ _ _=_;unfold qgp;have h3:(z63 (s.getD i 0)).length≤3:=qqb _;unfold room;simp (disch:=omega) only [dT,yc,yi,tn,qq];rfl) (fun n out=>by
  show qgp _ _ n _ _ _=_;unfold qgp;rw [dF (by omega)];rfl) s.length 0 (s.length+1) [] (by omega) (by omega) (by simp; omega)
 refine this.trans ?_;rw [yw];rfl⟩
theorem qAA (c:UInt8):(quoC c).length≤2:=by
 unfold quoC;cases (c==34)||(c==92) <;> simp
theorem qHa (s:LU):(s.flatMap quoC).length≤2*s.length:=by
 induction s with
 | nil=>simp
 | cons c r ih =>
  have:=qAA c;rw [List.flatMap_cons,yn,yg];omega
theorem qKY:∀ (s0:LU),(qAY s0=true)→∃ n,qFa n s0=qGT (z60 s0):=fun s h=>⟨s.length+1,by
 have hl:=qcK h;unfold qFa z60 quoL;have:=qcJ (t:=s) (dv:=0) (f:=quoC) (b:=2) (M:=4000) (k0:=qep (s.length+1)) (L:=fun n out i=>qpK (qep (s.length+1)) n s out i) (fun x _=>qAA x) (fun n i out hi hb=>by
  show qgj _ _ n _ _ _=_;unfold qgj qbg qaL room;simp (disch:=omega) only [dT,yc,yi,tn,qq,yg,List.length_nil,yn];unfold quoC;cases s.getD i 0==34 <;> cases s.getD i 0==92 <;> first | rfl | (simp only [yc,yd,Bool.or_self,Bool.or_true,Bool.or_false,yl,List.cons_append,List.nil_append])) (fun n out=>by
  show qgj _ _ n _ _ _=_;unfold qgj qbg qaL;rw [dF (by omega)];rfl) s.length 0 (s.length+1) [34] (by omega) (by omega) (by simp; omega)
 refine this.trans ?_;have hq:=qHa s;rw [yw];unfold qep room;rw [dT (by simp only [yn,yg,List.length_nil]; omega)];rfl⟩
theorem qOW {α:Type} (s:List α):decide ((0:Int) < ((s.length:Nat):Int)) = !s.isEmpty:=by cases s <;> simp <;> omega
theorem qtm (s:LU) (k:Int):((z59 s k)==((s.length:Nat):Int))=s.all fun c=>z77 c k:=qnZ _ s
theorem qKZ:∀ (s0:LU),(qFY s0=true)→∃ n,qKe n s0=qsZ (z37 s0):=fun s h=>⟨0,by
 have hl:=qcK h;unfold qKe z37 atomL tokB;rw [qOW,show quf s 64=true from qn (by omega),show qAY s=true from h,qtm];cases s.isEmpty <;> cases (s.all fun c=>z77 c 64) <;> rfl⟩
theorem qRQ {n:Int} (h:0≤n∧n < 100):qAZ n=true:=by unfold qAZ; exact dT h
theorem qAB (n:Int):(digI n).length≤2:=by
 unfold digI;cases decide (n < 10) <;> simp
theorem qAC (name:LU) (n:Int) (e:Bool):(nameL name n e).length≤name.length+4:=by
 have hd:=qAB n;unfold nameL;cases decide (0≤n) <;> cases e <;> simp <;> omega
theorem qLa:∀ (p0:LU×(Int×(Bool×(LU×Unit)))),(qvx p0=true)→∃ n,qKl n p0=qnV (z41 p0):=fun p h=>⟨0,by
 unfold qvx at h;simp only [yf,ym] at h;obtain ⟨h1,h2⟩:=h;have hl:=qcK h1;have hd:=qAB p.2.1;unfold qKl qdO z41 nameL room;unfold z64
 by_cases hn:0≤p.2.1
 ·rw [show qBa p.2.1=true from qRQ ⟨hn,h2⟩,dT hn];simp only [yn,yg,List.length_nil,List.nil_append];rw [dT (by omega),dT (by omega),dT (by omega),dT (by omega)];simp only [yi,yc];cases p.2.2.1 with
  | true=>simp only [yc,yl,List.singleton_append]
  | false=>simp only [yd,yl,List.singleton_append,yG]
 ·rw [dF hn];simp only [yn,yg,List.length_nil,List.nil_append];rw [dT (by omega),dT (by omega)];simp only [yi,yc,yd,yG];cases p.2.2.1 <;> simp⟩
theorem qkc (name:LU) (n:Int) (cs:LU):(headL name n cs).length≤name.length+cs.length+7:=by
 have hd:=qAC name n true;unfold headL;cases decide (0 < n) <;> simp <;> omega
theorem qLb:∀ (name0:LU) (n1:Int) (charset2:LU),(qgZ name0 n1 charset2=true)→∃ n,qKm n name0 n1 charset2=qAn (z26 name0 n1 charset2):=fun name n cs h=>⟨0,by
 unfold qgZ at h;simp only [yf,ym] at h;obtain ⟨h1,h2,h3⟩:=h;have hl:=qcK h1;have hd:=qAC name n true;have hc:=qcK h3;unfold qKm qfq z26 headL room;rw [show qvx (name,(n,(true,(([]:LU),()))))=true from by
  unfold qvx;rw [h1,dT h2];rfl]
 unfold z41;simp only [yn,yg,List.length_nil]
 by_cases hn:0 < n
 ·rw [dT hn,dF (show ¬ n≤0 by omega)];simp (disch:=omega) only [dT,yi,yc,yd]
 ·rw [dF hn,dT (show n≤0 by omega)];simp (disch:=omega) only [dT,yi,yc,yd,yl,List.singleton_append,List.cons_append,List.nil_append]⟩
theorem qLc (n k:Nat):decide ((n:Int)≤(k:Int))=decide (n≤k):=by
 by_cases h:n≤k
 ·rw [dT h,dT (by omega)]
 ·rw [dF h,dF (by omega)]
theorem qLd:∀ (name0:LU),(qFZ name0=true)→∃ n,qKd n name0=qsY (z35 name0):=fun s h=>⟨0,by
 unfold qKd z35 mayN;rw [show decide ((1:Int)≤((s.length:Nat):Int))=decide (0 < s.length) from qLc 1 _,show decide (((s.length:Nat):Int)≤30)=decide (s.length≤30) from qLc _ 30,show quf s 256=true from h,qtm];cases decide (0 < s.length) <;> cases decide (s.length≤30) <;> rfl⟩
theorem qji (ret:Bool→OA) (t:LI) (hl:t.length≤1048576):∀ (d i n:Nat),i+d=t.length→d < n→qnP ret (ret true) n t (i:Int)=ret (!((t.drop i).any qaC))
 | d,i,0,hi,hn=>by omega
 | 0,i,n+1,hi,hn=>by
  show qgi _ _ _ n _ _=_;unfold qgi;rw [dF (by omega),yA (by omega)];rfl
 | d+1,i,n+1,hi,hn=>by
  show qgi _ _ _ n _ _=_;unfold qgi;have hlt:i < t.length:=by omega
  rw [qy (d:=(0:Int)) hlt,List.any_cons];simp (disch:=omega) only [dT,yc,yi,tn,qq];unfold qaC;rw [show qnP ret (ret true) n t ((i+1:Nat):Int)=_ from qji ret t hl d (i+1) n (by omega) (by omega)];unfold qaC;cases decide (t.getD i 0 < 32) <;> cases decide (126 < t.getD i 0) <;> rfl
theorem qLe:∀ (t0:LI),(qGb t0=true)→∃ n,qEZ n t0=qnO (z36 t0):=fun t h=>⟨t.length+1,by
 have hl:=qk (l:=t) h;unfold qEZ z36;exact qji qnO t hl t.length 0 (t.length+1) (by omega) (by omega)⟩
theorem qjj (ret:Int→OA) (t:LI) (hl:t.length≤1048576):∀ (d i n:Nat),i+d=t.length→d < n→qlK ret (ret 0) n t (i:Int)=ret (bif (t.drop i).contains 0 then 8 else 0)
 | d,i,0,hi,hn=>by omega
 | 0,i,n+1,hi,hn=>by
  show qgh _ _ _ n _ _=_;unfold qgh;rw [dF (by omega),yA (by omega)];rfl
 | d+1,i,n+1,hi,hn=>by
  show qgh _ _ _ n _ _=_;unfold qgh;have hlt:i < t.length:=by omega
  rw [qy (d:=(0:Int)) hlt,List.contains_cons];simp (disch:=omega) only [dT,yc,yi,tn,qq];rw [show qlK ret (ret 0) n t ((i+1:Nat):Int)=_ from qjj ret t hl d (i+1) n (by omega) (by omega),show ((0:Int)==t.getD i 0)=(t.getD i 0==0) from Bool.beq_comm];cases t.getD i 0==0 <;> rfl
theorem qvq (t:LI) (h:i32s t=true):decide (0≤z12 t) = !(qR t):=by
 have h1:qD qS t 0=qD z21 t 0:=by
  have gen:∀ (t:LI) (i:Int),i32s t=true→qD qS t i=qD z21 t i:=fun t=>by
   induction t with
   | nil=>intro i _; rfl
   | cons c r ih =>
    intro i hi;have hc:=qch hi List.mem_cons_self;have hr:i32s r=true:=by
     unfold i32s at hi ⊢;rw [List.all_cons,yf] at hi;exact hi.2
    show (bif qS c then qD qS r (i+1) else i)=(bif z21 c then qD z21 r (i+1) else i);rw [qhD hc,ih _ hr]
  exact gen t 0 h
 unfold z12 qR;rw [h1];have h2:∀ (t:LI) (i:Nat),qD z21 t i = -1∨0≤qD z21 t i:=fun t=>by
  induction t with
  | nil=>intro i; exact .inl rfl
  | cons c r ih =>
   intro i;show (bif z21 c then qD z21 r ((i+1:Nat):Int) else (i:Int)) = -1∨0≤(bif z21 c then qD z21 r ((i+1:Nat):Int) else (i:Int));cases z21 c with
   | true=>exact ih (i+1)
   | false=>exact .inr (by show (0:Int)≤(i:Int); omega)
 rcases h2 t 0 with e | e
 ·have e':qD z21 t 0 = -1:=e;rw [e'];rfl
 ·have e':0≤qD z21 t 0:=e;rw [dT e',show (qD z21 t 0 == -1)=false from beq_eq_false_iff_ne.2 (by omega)];rfl
theorem qLf:∀ (name0:LU) (t1:LI),(qmc name0 t1=true)→∃ n,qEY n name0 t1=qgM (z22 name0 t1):=fun name t h=>⟨t.length+1,by
 unfold qmc at h;simp only [yf] at h;have hl:=qk h.2.1;unfold qEY z22 qet;rw [show qFZ name=true from h.1,show qGa t=true from h.2.1,qvq t h.2.2,show z35 name=mayN name from rfl,
  show qlK qgM (qiV (t.length+1)) (t.length+1) t 0=_ from qjj qgM t hl t.length 0 (t.length+1) (by omega) (by omega),yw]
 cases mayN name <;> cases qR t <;> cases t.contains 0 <;> rfl⟩
theorem qtn {f:Int→LU} (h:∀ c,(f c).length≤4):∀ t:LI,(t.flatMap f).length≤4*t.length
 | []=>by simp
 | c :: t=>by
  have h1:=qtn h t;have h2:=h c;rw [List.flatMap_cons,yn,yg];omega
theorem qlX (t:LI):(qA t).1.length≤t.length:=by
 unfold qA;cases qbv t != -1 <;> simp
theorem qof (cs:Int) (t:LI):(qbW cs t).1.length≤4*t.length:=by
 have h1:(qco t).1.length≤4*t.length:=by
  unfold qco;have:=qtn qOP t;cases !(qR t) with
  | true=>exact Nat.zero_le _
  | false=>exact this
 have h2:(qcn t).1.length≤4*t.length:=by
  unfold qcn;cases t.all qdv <;> simp <;> omega
 have h3:(qdf t).1.length≤4*t.length:=by
  unfold qdf;cases decide (0≤qej t) <;> simp <;> omega
 have h4:(qA t).1.length≤4*t.length:=by
  have:=qlX t;omega
 unfold qbW;cases (qcp cs==0) <;> cases qkM cs t <;> cases (cs==(5:Int)) <;> cases (cs==(3:Int)) <;> cases (cs==(4:Int)) <;> first | exact Nat.zero_le _ | assumption
theorem qLg (s:LU):(qtv s).length≤3*s.length:=by
 unfold qtv;induction s with
 | nil=>simp
 | cons c r ih =>
  have:=qqb c;rw [List.flatMap_cons,yn,yg];omega
theorem qLh (cs c:Int):(unitL cs c).length≤12:=by
 unfold unitL;have h1:=qLg (qbW cs [c]).1;have h2:=qof cs [c];simp only [yg,List.length_nil] at h2;omega
theorem qAD (s:LU):(atomL s).length≤2*s.length+2:=by
 unfold atomL quoL;have:=qHa s;cases tokB s with
 | true=>simp only [yc]; omega
 | false=>simp only [yd,yn,yg,List.length_nil]; omega
theorem qAE (name:LU) (t:LI):(qdT name t).length≤name.length+2*t.length+3:=by
 unfold qdT;have h1:=qlX t;have h2:=qAD (qA t).1;simp only [yn,yg];omega
theorem qLi {α:Type} {t:List α} {i:Nat} (h:i < t.length) (d:α):List.drop i (List.take (i+1) t)=[t.getD i d]:=by
 rw [List.drop_take,qy (d:=d) h,show i+1 - i=1 by omega];rfl
theorem qAF {α β:Type} (f:α→β) (l:List α):l.flatMap (fun c=>[f c])=l.map f:=qgt f l
structure PutI (name cs:LU) (i:Nat) (st:PutT):Prop where
 e:st.1=true→i=0
 n:st.2.2.length+(bif st.1 then 0 else 1)≤i
 l:st.2.1.length≤name.length+cs.length+100
 l0:st.1=true→st.2.1.length≤name.length+cs.length+7
theorem qAG {name cs:LU} {i:Nat} {st:PutT} (h:PutI name cs i st) {u:LU} (hu:u.length≤75) (hc:cs.length≤20):PutI name cs (i+1) (putU name cs st u):=by
 obtain ⟨e,now,out⟩:=st;obtain ⟨h1,h2,h3,h4⟩:=h;have hh:=qkc name ((out.length+1:Nat):Int) cs;simp only at h1 h2 h3 h4;unfold putU;simp only;cases hq : !e&&decide (74 < now.length+u.length) with
 | true =>
  simp only [yf,Bool.not_eq_true',ym] at hq;obtain ⟨rfl,hlt⟩:=hq;simp only [yd] at h2;refine ⟨(fun hf=>by cases hf),?_,?_,(fun hf=>by cases hf)⟩
  ·simp only [yc,yd,yn,yg,List.length_nil];omega
  ·simp only [yc,yn];omega
 | false =>
  refine ⟨(fun hf=>by cases hf),?_,?_,(fun hf=>by cases hf)⟩
  ·simp only [yd];cases e with
   | true=>have:=h1 rfl; simp only [yc] at h2; omega
   | false=>simp only [yd] at h2; omega
  ·simp only [yd,yn];cases e with
   | true=>have:=h4 rfl; omega
   | false =>
    simp only [Bool.not_false,y6,decide_eq_false_iff_not] at hq;omega
theorem qAH (name cs:LU):∀ (l:List LU) (st:PutT),(l.foldl (putU name cs) st).2.2.length≤st.2.2.length+l.length
 | [],st=>yv _
 | u :: l,st=>by
  have h1:=qAH name cs l (putU name cs st u);have h2:(putU name cs st u).2.2.length≤st.2.2.length+1:=by
   unfold putU;cases !st.1&&decide (74 < st.2.1.length+u.length) <;> simp
  rw [List.foldl_cons,yg];omega
theorem qlY (name cs:LU):PutI name cs 0 (true,(headL name 0 cs,[])) :=
 ⟨fun _=>rfl,yv _,(by have:=qkc name 0 cs; show (headL name 0 cs).length≤_; omega),fun _=>qkc name 0 cs⟩
theorem qto (cs:Int) (t:LI):∀ u∈qH cs t,u.length≤75:=fun u hu=>by
 unfold qH at hu;obtain ⟨c,_,rfl⟩:=List.mem_map.1 hu;have:=qLh cs c;omega
theorem qHb (cs:Int) (t:LI):(qH cs t).length=t.length:=yP _
theorem qAI {name:LU} {t:LI} (h:ok36 name t=true):name.length≤100∧t.length≤100:=by
 unfold ok36 at h;simpa using h
theorem qAJ {name cs:LU} (hc:cs.length≤20):∀ (l:List LU) (i:Nat) (st:PutT),PutI name cs i st→(∀ u∈l,u.length≤75)→PutI name cs (i+l.length) (l.foldl (putU name cs) st)
 | [],i,st,h,_=>h
 | u :: l,i,st,h,hu=>by
  have:=qAJ hc l (i+1) _ (qAG h (hu u List.mem_cons_self) hc) fun v hv=>hu v (List.mem_cons_of_mem _ hv);rw [List.foldl_cons,yg,show i+(l.length+1)=i+1+l.length by omega];exact this
theorem qtp {name cs:LU} (hc:cs.length≤20):∀ (l:List LU) (i:Nat) (st:PutT),PutI name cs i st→(∀ u∈l,u.length≤75)→(∀ x∈st.2.2,x.length≤name.length+cs.length+100)→∀ x∈(l.foldl (putU name cs) st).2.2,x.length≤name.length+cs.length+100
 | [],i,st,h,_,hx=>hx
 | u :: l,i,st,h,hu,hx=>by
  rw [List.foldl_cons];refine qtp hc l (i+1) _ (qAG h (hu u List.mem_cons_self) hc) (fun v hv=>hu v (List.mem_cons_of_mem _ hv)) fun x hx'=>?_;unfold putU at hx';cases hq : !st.1&&decide (74 < st.2.1.length+u.length) with
  | true =>
   rw [hq] at hx';simp only [yc,List.mem_append,List.mem_singleton] at hx';rcases hx' with hx' | rfl
   ·exact hx x hx'
   ·exact h.l
  | false =>
   rw [hq] at hx';exact hx x hx'
theorem qqc {name:LU} {t:LI} (h:ok36 name t=true):(qcx name t).1.length≤101∧∀ x∈(qcx name t).1,x.length≤1000:=by
 obtain ⟨hn,ht⟩:=qAI h;have hun:=qHb (qc t).1 t;have hu:=qto (qc t).1 t;have hc:=qAu (qc t).1;unfold qcx;cases qet name t != 0 with
 | true=>exact ⟨Nat.zero_le _,fun x hx=>by cases hx⟩
 | false =>
  cases hp:(qbP name t).2 with
  | true =>
   refine ⟨by simp,fun x hx=>?_⟩;have hpl:=qAE name t;simp only [yd,yc,List.mem_singleton] at hx;subst hx;omega
  | false =>
   cases (qc t).2 != 0 with
   | true=>exact ⟨Nat.zero_le _,fun x hx=>by cases hx⟩
   | false =>
    cases hw:decide ((headL name (-1) (qe (qc t).1)++(qH (qc t).1 t).flatten).length≤74) with
    | true =>
     refine ⟨by simp,fun x hx=>?_⟩;simp only [yd,yc,List.mem_singleton] at hx;subst hx;have:=of_decide_eq_true hw;omega
    | false =>
     simp only [yd];unfold numL;have h1:=qAH name (qe (qc t).1) (qH (qc t).1 t) (true,(headL name 0 (qe (qc t).1),[]));have h2:=qAJ (by omega) (qH (qc t).1 t) 0 _ (qlY name (qe (qc t).1)) hu;have h3:=qtp (by omega) (qH (qc t).1 t) 0 _ (qlY name (qe (qc t).1)) hu (fun x hx=>by cases hx);simp only [List.length_nil,yE] at h1;refine ⟨by rw [yn,yg,List.length_nil]; omega,fun x hx=>?_⟩;rcases List.mem_append.1 hx with hx | hx
     ·have:=h3 x hx;omega
     ·have hx':=List.mem_singleton.1 hx;subst hx';have:=h2.l;omega
theorem qOX:∀ (name0:LU) (t1:LI),(z6_ok name0 t1=true)→∃ n,z6_sh n name0 t1=qOJ (z6 name0 t1).1 (z6 name0 t1).2:=fun name t h=>⟨(qcx name t).1.length+1,by
 have h':=h;unfold z6_ok at h;simp only [yf] at h;obtain ⟨h1,h2⟩:=qqc h.1;unfold z6_sh z6;rw [show qBb name t=true from h',show z13 name t=qcx name t from rfl];generalize (qcx name t).2=e;revert h1 h2;generalize (qcx name t).1=l;intro h1 h2;have:=qcJ (t:=l) (dv:=([]:LU)) (f:=fun s=>[59,13,10,32]++s) (b:=1004) (M:=200000) (k0:=qjX (l.length+1) e) (L:=fun n out i=>z6_l4 (qjX (l.length+1)) n l e out i) (fun x hx=>by have:=h2 x hx; simp only [yn,yg,List.length_nil]; omega) (fun n i out hi hb=>by
  show qjW _ _ n _ _ _ _=_;unfold qjW qdl room;have hx:=h2 (l.getD i []) (by rw [yY,yO hi]; exact List.getElem_mem hi);simp only [yn,yg,List.length_nil];simp (disch:=omega) only [dT,yc,yi,tn,qq,yl]) (fun n out=>by
  show qjW _ _ n _ _ _ _=_;unfold qjW qdl;rw [dF (by omega)];rfl) l.length 0 (l.length+1) [] (by omega) (by omega) (by simp only [List.length_nil]; omega)
 refine Eq.trans (this:_) ?_;rw [yw];rfl⟩
theorem qOY {p q:Int→Bool} (h1:p 1=q 1) (h2:p 2=q 2) (h3:p 3=q 3) (h4:p 4=q 4) (h5:p 5=q 5):selF p=selF q:=by
 unfold selF qtX;rw [h1,h2,h3,h4,h5]
theorem all12 (n:Int) (t:LI) (h:i32s t=true) (h1:1≤n∧n≤5):z38 n t=t.all (qap n):=by
 unfold z38 z61;rw [dT h1.1,dT h1.2];have:=qod (p:=z83 n) t 0;rw [show decide (qD (z83 n) t 0 < 0)=t.all (z83 n) from this,qvp (q:=qap n) (fun c hc=>(qKP n (qch h hc)).symm)];rfl
theorem qtq (t:LI) (h:i32s t=true):qc t=z24 t :=
 qOY (all12 1 t h (by omega)).symm (all12 2 t h (by omega)).symm (all12 3 t h (by omega)).symm (all12 4 t h (by omega)).symm (all12 5 t h (by omega)).symm
theorem qLj {t:LI} (h:i32s t=true) {i:Nat} (hi:i < t.length):i32s [t.getD i 0]=true:=by
 have:=qch h (c:=t.getD i 0) (by rw [yY,yO hi]; exact List.getElem_mem hi);unfold i32s;simp only [List.all_cons,List.all_nil,yi];exact dT this
theorem qLk:∀ (t0:LI),(qvz t0=true)→∃ n,qFj n t0=qAm (z25 t0).1 (z25 t0).2:=fun t h=>⟨t.length+1,by
 unfold qvz at h;simp only [yf] at h;have hl:=qcK h.1;unfold qFj z25 qjk;rw [← qtq t h.2,show qtY t=true from qn (by omega)];cases (qc t).2 != 0 with
 | true=>rfl
 | false =>
  generalize (qc t).1=cs;have:=qcJ (t:=t) (dv:=0) (f:=fun c=>[unitL cs c]) (b:=1) (M:=4000) (k0:=qgs (t.length+1)) (L:=fun n out i=>qpS (qgs (t.length+1)) n t cs out i) (fun x _=>yv _) (fun n i out hi hb=>by
   show qgr _ _ n _ _ _ _=_;unfold qgr qby room;rw [qq (i:=i) (by omega),tn,tn,qLi hi (0:Int),← qOU cs [t.getD i 0] (qLj h.2 hi)];have h2:=qof cs [t.getD i 0];simp only [yg,List.length_nil] at h2 ⊢;rw [show qBT cs [t.getD i 0]=true from rfl,show qFX (qbW cs [t.getD i 0]).1=true from qci (by omega)];simp (disch:=omega) only [dT,yc,yi];rfl) (fun n out=>by
   show qgr _ _ n _ _ _ _=_;unfold qgr qby
   rw [dF (by omega)];rfl) t.length 0 (t.length+1) [] (by omega) (by omega) (by simp; omega)
  refine Eq.trans (this:_) ?_;rw [yw,qAF];rfl⟩
theorem qtr {t:LI} (h:qai t=true):∀ c∈t,32≤c∧c≤126:=fun c hc=>by
 unfold qai at h;simp only [Bool.not_eq_true',List.any_eq_false] at h;have:=h c hc;unfold qaC at this;simp only [yR,ym,not_or] at this;omega
theorem qvr {t:LI} (h:∀ c∈t,32≤c∧c≤126):qbv t = -1:=by
 unfold qbv;have gen:∀ (t:LI) (i:Int),(∀ c∈t,32≤c∧c≤126)→qD qaT t i = -1:=fun t=>by
  induction t with
  | nil=>intro i _; rfl
  | cons c r ih =>
   intro i hi;obtain ⟨h1,h2⟩:=hi c List.mem_cons_self;show (bif qaT c then qD qaT r (i+1) else i) = -1;rw [show qaT c=true from by
    unfold qaT;rw [IntWalk.u32_in c (by omega)];exact dT (by omega)]
   exact ih _ fun x hx=>hi x (List.mem_cons_of_mem _ hx)
 exact gen t 0 h
theorem qkd {t:LI} (h:qai t=true):(qA t).1=t.map fun c=>UInt8.ofNat (IntKind.wrap .u8 c).toNat:=by
 unfold qA;rw [qvr (qtr h)];rfl
theorem qLl:∀ (name0:LU) (t1:LI),(qvy name0 t1=true)→∃ n,qFb n name0 t1=qnQ (z23 name0 t1):=fun name t h=>⟨t.length+1,by
 unfold qvy at h;simp only [yf] at h;have hn:=qcK h.1;have ht:=qcK h.2.1;unfold qFb z23 qdo qbP;rw [show qmc name t=true from by unfold qmc; rw [qn (by omega),qn (by omega),h.2.2]; rfl,show qGb t=true from qn (by omega),
  show z22 name t=qet name t from rfl,show z36 t=qai t from rfl]
 unfold bne;cases qet name t==0 with
 | false=>rfl
 | true =>
  cases hs:qai t with
  | false=>rfl
  | true =>
   have:=qcJ (t:=t) (dv:=0) (f:=fun c=>[UInt8.ofNat (IntKind.wrap .u8 c).toNat]) (b:=1) (M:=4000) (k0:=qeq (t.length+1) name) (L:=fun n out i=>qpL (qeq (t.length+1)) n name t out i) (fun x _=>yv _) (fun n i out hi hb=>by
    show qgk _ _ n _ _ _ _=_;unfold qgk room;simp only [yg,List.length_nil];simp (disch:=omega) only [dT,yc,yi,tn,qq]) (fun n out=>by
    show qgk _ _ n _ _ _ _=_;unfold qgk;rw [dF (by omega)];rfl) t.length 0 (t.length+1) [] (by omega) (by omega) (by simp only [List.length_nil]; omega)
   refine Eq.trans (this:_) ?_;rw [yw,qAF,List.nil_append,← qkd hs];have h1:=qlX t;have h2:=qAD (qA t).1;unfold qeq room;rw [show qFY (qA t).1=true from qci (by omega),show z37 (qA t).1=atomL (qA t).1 from rfl];have hpl:[]++name++[61]++atomL (qA t).1=qdT name t:=by
    unfold qdT;simp
   rw [hpl];simp only [yn,yg,List.length_nil];simp (disch:=omega) only [dT,yc,yi]
   by_cases hb:(qdT name t).length≤74
   ·rw [dT hb,dF (show ¬ (74:Int) < (((qdT name t).length:Nat):Int) by omega)];rfl
   ·rw [dF hb,dT (show (74:Int) < (((qdT name t).length:Nat):Int) by omega)];rfl⟩
theorem qAK (name:LU) (t:LI):0 < (qdT name t).length:=by
 unfold qdT;simp only [yn,yg];omega
theorem qvs (name:LU) (t:LI):decide ((0:Int) < (((z23 name t).length:Nat):Int))=qdo name t:=by
 have:=qAK name t;unfold z23;cases qdo name t with
 | true=>exact dT (by simp only [yc]; omega)
 | false=>rfl
theorem qFB {t:LI} (h:qR t=true):(qc t).2=0:=by
 have h5:t.all (qap 5)=true:=by
  unfold qR at h;have h':=eq_of_beq h;have gen:∀ (t:LI) (i:Nat),qD qS t i = -1→t.all qS=true:=fun t=>by
   induction t with
   | nil=>intro i _; rfl
   | cons c r ih =>
    intro i hi;have hstep:qD qS (c :: r) (i:Int)=bif qS c then qD qS r ((i+1:Nat):Int) else (i:Int):=rfl
    rw [hstep] at hi;rw [List.all_cons];cases hc:qS c with
    | true=>rw [hc] at hi; rw [ih (i+1) hi]; rfl
    | false=>rw [hc] at hi; simp only [yd] at hi; omega
  exact (qvp (t:=t) (p:=qap 5) (q:=qS) (fun c _=>rfl)).trans (gen t 0 h')
 unfold qc selF qtX;simp only [h5];cases t.all (qap 1) <;> cases t.all (qap 2) <;> cases t.all (qap 3) <;> cases t.all (qap 4) <;> rfl
theorem qLm {name:LU} {n:Int} (cs cs':LU) (h:0 < n):headL name n cs=headL name n cs':=by
 unfold headL;rw [dT h];rfl
theorem qAL (name cs:LU) (l:List LU) (hn:name.length≤100) (hc:cs.length≤20) (hl:l.length≤100) (hu:∀ u∈l,u.length≤75) (k2:List LU→OA):∀ (d i n:Nat) (st:PutT),i+d=l.length→d < n→PutI name cs i st →
 qjc k2 n name l (st.2.2++[st.2.1]) st.1 (i:Int)=k2 (((l.drop i).foldl (putU name cs) st).2.2++[((l.drop i).foldl (putU name cs) st).2.1])
 | d,i,0,st,hi,hd,_=>by omega
 | 0,i,n+1,st,hi,hd,_=>by
  show qdQ _ _ n _ _ _ _ _=_;unfold qdQ qbh qah qaJ qav qaI qL qO;rw [dF (by omega),yA (by omega)];rfl
 | d+1,i,n+1,(e,now,pre),hi,hd,h=>by
  show qdQ _ _ n _ _ _ _ _=_;unfold qdQ qbh qah qaJ qav qaI qL qO;have hlt:i < l.length:=by omega
  have hm:l.getD i []∈l:=by rw [yY,yO hlt]; exact List.getElem_mem hlt
  have hu':=hu _ hm;have h2:=h.n;have h3:=h.l;have ih:=qAL name cs l hn hc hl hu k2 d (i+1) n (putU name cs (e,now,pre) (l.getD i [])) (by omega) (by omega) (qAG h hu' hc);rw [qy (d:=([]:LU)) hlt,List.foldl_cons,← ih];simp only [tn];revert hu';generalize l.getD i []=u;intro hu';simp only at h2 h3;have hk:IntKind.wrap .i64 (((List.length (pre++[now]):Nat):Int) - 1)=((pre.length:Nat):Int):=by
   rw [yn,yg,List.length_nil,wr (by omega)];omega
  have hk1:IntKind.wrap .i64 (((pre.length:Nat):Int)+1)=((pre.length+1:Nat):Int):=by
   rw [wr (by omega)];omega
  have hwr:IntKind.wrap .i64 (((now.length:Nat):Int)+((u.length:Nat):Int))=((now.length+u.length:Nat):Int):=by rw [wr (by omega)]; omega
  have hlen:(pre++[now]).length=pre.length+1:=by simp
  have hlen2:∀ x:LU,(pre++[now]++[x]).length=pre.length+2:=fun x=>by simp
  have hg1:List.getD (pre++[now]) pre.length []=now:=qtg pre now [];have hg2:∀ x:LU,List.getD (pre++[now]++[x]) (pre.length+1) []=x:=fun x=>by rw [← hlen]; exact qtg (pre++[now]) x []
  have hs1:∀ y:LU,List.set (pre++[now]) pre.length y=pre++[y]:=fun y=>qAs pre now y;have hs2:∀ x y:LU,List.set (pre++[now]++[x]) (pre.length+1) y=pre++[now]++[y]:=fun x y=>by rw [← hlen]; exact qAs (pre++[now]) x y
  have hhd:=qkc name ((pre.length+1:Nat):Int) [];simp only [List.length_nil] at hhd;have hho:qgZ name ((pre.length+1:Nat):Int) []=true:=by
   unfold qgZ;rw [qci (by omega),dT (show ((pre.length+1:Nat):Int) < 100 by
    cases e with
    | true=>have:=h.e rfl; simp only [yc] at h2; omega
    | false=>simp only [yd] at h2; omega)]
   rfl
  have hrh:z26 name ((pre.length+1:Nat):Int) []=headL name ((pre.length+1:Nat):Int) cs:=qLm [] cs (by omega);simp only [hk,hk1,tn,hg1,hwr,qq (i:=i) (by omega),hho,hrh];simp only [hlen2,hg2,hs2,hs1,hlen];have hhd':=qkc name ((pre.length+1:Nat):Int) cs;unfold room putU;simp only [beq_self_eq_true,yi,yn,yg,List.length_nil];rw [show decide ((74:Int) < ((now.length+u.length:Nat):Int))=decide (74 < now.length+u.length) from by
   by_cases hx:74 < now.length+u.length
   ·rw [dT hx,dT (by omega)]
   ·rw [dF hx,dF (by omega)]]
  cases e with
  | true =>
   simp (disch:=omega) only [dT,yc,yd,yi,Bool.not_true,Bool.false_and]
  | false =>
   cases hq:decide (74 < now.length+u.length) with
   | true =>
    simp (disch:=omega) only [dT,yc,yd,yi,Bool.not_false,y6]
   | false =>
    simp (disch:=omega) only [dT,yc,yd,yi,Bool.not_false,y6]
theorem qAM (name:LU) (n8:Int) (l:List LU) (hl:l.length≤100) (hu:∀ u∈l,u.length≤75) (w:LU) (hw:w.length≤200) (N:Nat) (k0:LU→Int→List LU→LU→OA) (hN:l.length < N) :
 qgP k0 N name n8 l w 0=k0 name n8 l (w++l.flatten):=by
 have:=qcJ (t:=l) (dv:=([]:LU)) (f:=fun u=>u) (b:=75) (M:=9000) (k0:=k0 name n8 l) (L:=fun n out i=>qgP k0 n name n8 l out i) hu (fun n i out hi hb=>by
  show qdP _ _ n _ _ _ _ _=_;unfold qdP room;have hx:=hu (l.getD i []) (by rw [yY,yO hi]; exact List.getElem_mem hi);simp (disch:=omega) only [dT,yc,yi,tn,qq]) (fun n out=>by
  show qdP _ _ n _ _ _ _ _=_;unfold qdP;rw [dF (by omega)];rfl) l.length 0 N w (by omega) (by omega) (by omega)
 refine Eq.trans (this:_) ?_;rw [yw];simp
theorem qLn:∀ (name0:LU) (t1:LI),(qBb name0 t1=true)→∃ n,qFk n name0 t1=qnW (z13 name0 t1).1 (z13 name0 t1).2:=fun name t h=>⟨t.length+1,by
 unfold qBb at h;simp only [yf] at h;obtain ⟨hn,ht⟩:=qAI h.1;unfold qFk z13 qcx;rw [show qmc name t=true from by unfold qmc; rw [qn (by omega),qn (by omega),h.2]; rfl,
  show qvy name t=true from by unfold qvy; rw [qci (by omega),qci (by omega),h.2]; rfl,
  show qtY t=true from qn (by omega),show qvz t=true from by unfold qvz; rw [qci (by omega),h.2]; rfl,
  ← qtq t h.2,qvs,show z22 name t=qet name t from rfl]
 unfold z23 qdo;cases hq:qet name t != 0 with
 | true=>rfl
 | false =>
  have hq0:(qet name t==0)=true:=by
   unfold bne at hq;simpa using hq
  have hr:qR t=true:=by
   have h0:=eq_of_beq hq0;unfold qet at h0;cases hm:mayN name with
   | false=>rw [hm] at h0; cases h0
   | true =>
    cases hs:qR t with
    | true=>rfl
    | false=>rw [hm,hs] at h0; cases h0
  have hsel:=qFB hr;rw [hq0];simp only [y6,yi,yc,yd];cases hp:(qbP name t).2 with
  | true=>rfl
  | false =>
   simp only [yd];have hun:=qHb (qc t).1 t;have hu:=qto (qc t).1 t;have hcl:=qAu (qc t).1;have hh:=qkc name (-1) (qe (qc t).1);rw [show (z25 t).1=qH (qc t).1 t from by
    unfold z25 qjk;rw [hsel];rfl,
    show qgZ name (-1) (z27 (qc t).1)=true from by
     unfold qgZ;rw [qci (by omega),show len1k (z27 (qc t).1)=true from qci (l:=qe (qc t).1) (by omega)];rfl,
    show z26 name (-1) (z27 (qc t).1)=headL name (-1) (qe (qc t).1) from rfl,hsel]
   rw [qAM name _ _ (by omega) hu _ (by omega) _ _ (by omega)];unfold qdR;rw [show decide (((List.length (headL name (-1) (qe (qc t).1)++(qH (qc t).1 t).flatten):Nat):Int)≤74)=decide ((headL name (-1) (qe (qc t).1)++(qH (qc t).1 t).flatten).length≤74) from qLc _ 74];cases decide ((headL name (-1) (qe (qc t).1)++(qH (qc t).1 t).flatten).length≤74) with
   | true=>rfl
   | false =>
    simp only [yd];rw [show qgZ name 0 (z27 (qc t).1)=true from by
     unfold qgZ;rw [qci (by omega),show len1k (z27 (qc t).1)=true from qci (l:=qe (qc t).1) (by omega)];rfl,
     show z26 name 0 (z27 (qc t).1)=headL name 0 (qe (qc t).1) from rfl]
    have:=qAL name (qe (qc t).1) (qH (qc t).1 t) hn (by omega) (by omega) hu (qfr (t.length+1)) (qH (qc t).1 t).length 0 (t.length+1) (true,(headL name 0 (qe (qc t).1),[])) (by omega) (by omega) (qlY _ _);refine Eq.trans (this:_) ?_;rw [yw];rfl⟩
theorem qAN:∀ i:Fin 256,(bif decide ((65:UInt8)≤UInt8.ofNat i.val) then (bif decide (UInt8.ofNat i.val≤(90:UInt8)) then UInt8.ofNat i.val+32 else UInt8.ofNat i.val) else UInt8.ofNat i.val)=z44 (UInt8.ofNat i.val):=by decide +kernel
theorem qLo:∀ (c0:UInt8),∃ n,qKp n c0=qtd (z16 c0):=fun c=>⟨0,by
 have h:=qlU (P:=fun c=>(bif decide ((65:UInt8)≤c) then (bif decide (c≤(90:UInt8)) then c+32 else c) else c)=z44 c) qAN c;unfold qKp z16;rw [← h];cases decide ((65:UInt8)≤c) <;> cases decide (c≤(90:UInt8)) <;> rfl⟩
theorem qOZ:∀ (s0:LU),(z9_ok s0=true)→∃ n,z9_sh n s0=qOK (z9 s0):=fun s h=>⟨s.length+1,by
 have hl:=qk h;unfold z9_sh;have:=qjf (t:=s) (dv:=0) (f:=fun c=>[z16 c]) (q:=fun _=>true) (b:=1) (k0:=qka (s.length+1)) (R:=none)
  (L:=fun n out i=>z9_l3 (qka (s.length+1)) n s out i) (fun x=>yv 1) (fun n i out hi hb=>by
   show qjZ _ _ n _ _ _=_;unfold qjZ;have hr:out.length+([z16 (s.getD i 0)]:LU).length≤room:=hb;simp (disch:=omega) only [dT,yc,yi,tn,qq];all_goals (rw [dT hr])
   all_goals rfl) (fun n out=>by
   show qjZ _ _ n _ _ _=_;unfold qjZ;rw [dF (by omega)]; rfl) s.length 0 (s.length+1) [] (by omega) (by omega) (by show 0+_≤room; unfold room; omega)
 rw [yw,qlV,yc,List.nil_append,qgt] at this;exact this⟩
theorem qcO (ret:List Bool→Bool→OA) (k0:List Bool→OA) (cs:LU) (ha:ascii cs=true) (hl:cs.length≤1048576):∀ (d i n:Nat) (a:List Bool),i+d=cs.length→d < n →
 qeY ret k0 n cs a (i:Nat)=k0 (setOf (cs.drop i) a)
 | d,i,0,a,hi,hn=>by omega
 | 0,i,n+1,a,hi,hn=>by
  show qdA ret k0 (qeY ret k0 n) n cs a _=_;unfold qdA;rw [yx (by omega),yd,yA (by omega)];rfl
 | d+1,i,n+1,a,hi,hn=>by
  show qdA ret k0 (qeY ret k0 n) n cs a _=_;unfold qdA;have hlt:i < cs.length:=by omega
  have hc:decide ((128:UInt8)≤List.getD cs i 0)=false:=by
   unfold ascii at ha;rw [List.all_eq_true] at ha;have:=ha (cs.getD i 0) (by simp [List.getD,hlt]);rw [decide_eq_false_iff_not];simp only [ym] at this;exact UInt8.not_le.2 this
  rw [qty,yo hlt,yc,qbB,y6,yc,qcy,hc,yd,qbB,qnY,y6,yc,qq (by omega),
   qcO ret k0 cs ha hl d (i+1) n _ (by omega) (by omega),qy (d:=0) hlt]
  rfl
theorem qFC:∀ (chars0:LU),(qin chars0=true)→∃ n,qzu n chars0=qiG (z125 chars0).1 (z125 chars0).2:=fun cs h=>⟨cs.length+1,by
 unfold qin at h;rw [yf] at h;exact qcO qiG (qeZ (cs.length+1)) cs h.1 (qk h.2) cs.length 0 (cs.length+1) _ (by omega) (by omega)⟩
theorem qFD:∀ (as0:List Bool) (c1:UInt8),∃ n,qzw n as0 c1=qzv (z134 as0 c1):=fun as c=>⟨0,by
 unfold qzw;rw [qbB,qnY];rfl⟩
theorem qFE:∀ (s0:LU) (c1:UInt8),(qwS s0 c1=true)→∃ n,qzr n s0 c1=qpx (z123 s0 c1):=fun _ _ h=>by cases h
theorem qFF:∀ (s0:LU) (c1:UInt8),(qwT s0 c1=true)→∃ n,qzt n s0 c1=qzs (z124 s0 c1):=fun _ _ h=>by cases h
theorem qog (k0:LU→OA) (as:List Bool):∀ (d:Nat) (s:LU) (n:Nat),s.length=d→d < n→s.length≤1048576 →
 qgH k0 n s as=k0 (z127 s as)
 | d,s,0,hd,hn,hl=>by omega
 | d,s,n+1,hd,hn,hl=>by
  show qhx k0 (qgH k0 n) n s as=_;unfold qhx qaH z127;rcases List.eq_nil_or_concat s with rfl | ⟨t,x,rfl⟩
  ·rfl
  ·rw [List.concat_eq_append] at *
   have hlen:(t++[x]).length=t.length+1:=by simp
   have ih:=qog k0 as t.length t n rfl (by omega) (by omega);have hg:(t++[x]).getD (Int.toNat (((t++[x]).length:Int) - 1)) 0=x:=by
    rw [show Int.toNat (((t++[x]).length:Int) - 1)=t.length by omega]; simp
   have ht:List.take (Int.toNat (((t++[x]).length:Int) - 1)) (t++[x])=t:=by
    rw [show Int.toNat (((t++[x]).length:Int) - 1)=t.length by omega]; simp
   simp (disch:=omega) only [wr,dT,yc,yi,hg,ht,qAp];cases z134 as x with
   | true=>simpa [z127] using ih
   | false=>rfl
theorem qFG:∀ (s0:LU) (as1:List Bool),(qmQ s0 as1=true)→∃ n,qsR n s0 as1=qzx (z127 s0 as1):=fun s as h=>⟨s.length+1,by
 unfold qsR;rw [qog _ as s.length s _ rfl (by omega) (qk h)];rfl⟩
theorem qoh (k0:LU→OA) (as:List Bool):∀ (d:Nat) (s:LU) (n:Nat),s.length=d→d < n→s.length≤1048576 →
 qgG k0 n s as=k0 (z126 s as)
 | d,s,0,hd,hn,hl=>by omega
 | d,[],n+1,hd,hn,hl=>rfl
 | d,x :: s,n+1,hd,hn,hl=>by
  show qhw k0 (qgG k0 n) n (x :: s) as=_;unfold qhw z126;have hlen:(x :: s).length=s.length+1:=rfl;have ih:=qoh k0 as s.length s n rfl (by omega) (by omega);have hg:(x :: s).getD (Int.toNat 0) 0=x:=rfl;have ht:List.drop (Int.toNat 1) (List.take (Int.toNat ((x :: s).length:Int)) (x :: s))=s:=by
   rw [tn,List.take_length]; rfl
  simp (disch:=omega) only [dT,yc,yi,hg,ht,List.dropWhile_cons];cases z134 as x with
  | true=>simpa [z126] using ih
  | false=>rfl
theorem qFH:∀ (s0:LU) (as1:List Bool),(qmP s0 as1=true)→∃ n,qsQ n s0 as1=qpy (z126 s0 as1):=fun s as h=>⟨s.length+1,by
 unfold qsQ;rw [qoh _ as s.length s _ rfl (by omega) (qk h)];unfold qfa;cases hc:z126 s as with
 | nil=>rfl
 | cons x r=>rfl⟩
theorem qFI:∀ (s0:LU) (cutset1:LU),(qjD s0 cutset1=true)→∃ n,qzy n s0 cutset1=qdg (z112 s0 cutset1):=fun s cs h=>⟨0,by
 unfold qjD at h;simp only [yf,ym] at h;obtain ⟨h1,h2,h3,h4⟩:=h;have hls:=qk h1;unfold qzy qfb qbK;cases s with
 | nil=>rfl
 | cons x r =>
  have hcs:(cs==([]:LU))=false:=by cases cs with
   | nil=>simp at h2
   | cons a b=>rfl
  have hlen:(x :: r).length=r.length+1:=rfl;have hm:qin cs=true:=by unfold qin; rw [h3,h4]; rfl
  have hr:qmP (z127 (x :: r) (z125 cs).1) (z125 cs).1=true:=qn (yL (qAq _ _) hls);rw [bneI (by omega),hcs,bneI (by omega),hm,show (z125 cs).2=true from rfl,show qmQ (x :: r) (z125 cs).1=true from h1,hr,qOM];rfl⟩
theorem qLp:∀ (c0:UInt8),∃ n,qJu n c0=qsM (z44 c0):=fun c=>⟨0,by
 unfold qJu z44;cases decide ((65:UInt8)≤c) <;> cases decide (c≤(90:UInt8)) <;> rfl⟩
theorem qts (k0:LU→OA) (s:LU) (hl:s.length≤1048576):∀ (d i n:Nat),i+d=s.length→d < n →
 qlu k0 n ((s.take i).map z44++s.drop i) (s.length:Nat) (i:Nat)=k0 (s.map z44)
 | d,i,0,hi,hn=>by omega
 | 0,i,n+1,hi,hn=>by
  show qfP k0 (qlu k0 n) n _ _ _=_;unfold qfP;rw [dF (by omega),yd,show i=s.length by omega,List.take_length,List.drop_length,yG]
 | d+1,i,n+1,hi,hn=>by
  show qfP k0 (qlu k0 n) n _ _ _=_;unfold qfP;have hlt:i < s.length:=by omega
  have ih:=qts k0 s hl d (i+1) n (by omega) (by omega);have hlen:((s.take i).map z44++s.drop i).length=s.length:=by simp; omega
  have hg:((s.take i).map z44++s.drop i).getD i 0=s.getD i 0:=by
   rw [qy (d:=(0:UInt8)) hlt];simp [List.getD,Nat.min_eq_left (Nat.le_of_lt hlt)]
  have hs:=qON z44 s i hlt;simp only at hs;simp (disch:=omega) only [dT,yc,yi,tn,qq,hlen,hg];rw [hs];exact ih
theorem qLq:∀ (s0:LU),(qgX s0=true)→∃ n,qEJ n s0=qGz (z28 s0):=fun s h=>⟨s.length+1,by
 unfold qEJ;rw [show qcQ s=true from h,show z43 s=s from rfl];exact qts (qiE (s.length+1)) s (qk h) s.length 0 (s.length+1) (by omega) (by omega)⟩
theorem qLr:∀ (a0:LU) (b1:LU),∃ n,qOE n a0 b1=qGA (z33 a0 b1):=fun _ _=>⟨0,rfl⟩
theorem qLs:∀ (s0:LU),(que s0=true)→∃ n,qJA n s0=qGE (z92 s0):=fun s h=>⟨0,by
 have hl:=qk h;have h1:qjD s [32,9]=true:=by unfold qjD; rw [show lenOk s=true from h]; rfl
 have e:z112 s [32,9]=z92 s:=by unfold z112 z92; rw [qFp]
 unfold qJA;rw [h1,e,show qcQ (z92 s)=true from qn (yL (qtf _ _) hl)];rfl⟩
theorem qFJ:∀ (c0:UInt8),∃ n,qzF n c0=qiH (z138 c0).1 (z138 c0).2:=fun c=>⟨0,by
 unfold qzF z138;have h:=(z44 c - 97).toNat_lt;rw [qAt,qAt,IntWalk.i64_in (((z44 c - 97).toNat:Int)+10) (by omega)];cases z77 (z44 c) 8 <;> cases decide ((97:UInt8)≤z44 c) <;> cases decide (z44 c≤(102:UInt8)) <;> rfl⟩
theorem qFK:∀ (a0:UInt8) (b1:UInt8),∃ n,qzG n a0 b1=qlx (z130 a0 b1).1 (z130 a0 b1).2:=fun a b=>⟨0,by
 unfold qzG z130;have h:=qKx (P:=fun x y=>UInt8.ofNat (Int.toNat (IntKind.wrap .u8 (bits .or .i64 (IntKind.wrap .i64 (x*2 ^ (min (Int.toNat (4:Int)) (IntKind.bits .i64)))) y)))=UInt8.ofNat (Int.toNat (x*16+y))) qKw (qkb a) (qkb b);rw [← h];cases (z138 a).2 <;> cases (z138 b).2 <;> rfl⟩
theorem qFL:∀ (s0:LU) (at1:Int) (sign2:UInt8),(qqP s0 at1 sign2=true)→∃ n,qzH n s0 at1 sign2=qiI (z113 s0 at1 sign2).1 (z113 s0 at1 sign2).2:=fun s at1 sign h=>⟨0,by
 have hl:=qk h;unfold qzH qiJ z113
 by_cases h0:at1 < 0
 ·rw [yo h0,yx (show ¬ 0≤at1 by omega)]; rfl
 by_cases h1:IntKind.wrap .i64 (((List.length s:Nat):Int) - 3) < at1
 ·have h2:¬ at1≤(s.length:Int) - 3:=by rw [IntWalk.i64_in _ (by omega)] at h1; omega
  rw [yx h0,yo h1,yx h2,Bool.and_false]; rfl
 obtain ⟨i,rfl,hi⟩:=qvm s at1 hl h0 h1;rw [yx h0,yx h1,yd,yd,qbB,qty,yo (show i < s.length by omega),yi,yc,qcy,qq (by omega),
  show IntKind.wrap .i64 ((i:Int)+2)=((i+2:Nat):Int) by rw [IntWalk.i64_in _ (by omega)]; omega,qbB,qbB,qty,qty,yo (show i+1 < s.length by omega),yo hi,qcy,qcy,
  yo (show (i:Int)≤(s.length:Int) - 3 by omega),yi,yc]
 unfold qwQ;cases he:(List.getD s i 0==sign) with
 | true=>rw [show (List.getD s i 0 != sign)=false by simp only [bne,he,Bool.not_true]]; rfl
 | false=>rw [show (List.getD s i 0 != sign)=true by simp only [bne,he,Bool.not_false]]; rfl⟩
theorem qFM:∀ (s0:LU) (suffix1:LU),(qqQ s0 suffix1=true)→∃ n,qAa n s0 suffix1=qpG (z102 s0 suffix1):=fun s t h=>⟨0,by
 have hl:=qk h;unfold qAa z102
 by_cases hc:t.length≤s.length
 ·have e:IntKind.wrap .i64 ((s.length:Int) - (t.length:Int))=((s.length - t.length:Nat):Int):=by rw [IntWalk.i64_in _ (by omega)]; omega
  rw [e,tn,tn,List.take_length,dT hc];simp (disch:=omega) only [dT,yc,yi];rfl
 ·rw [dF hc,dF (by omega)]; rfl⟩
theorem qLt:∀ (b0:LU) (c1:UInt8),∃ n,qOF n b0 c1=qGC (z91 b0 c1):=fun _ _=>⟨0,rfl⟩
theorem qAO (m:Nat) (s:LU) (hl:s.length≤1048576):∀ (d i n:Nat),i+d=s.length→d < n →
 qpz (qiL m) n ((s.take i).map (fun c:UInt8=>(c.toNat:Int))++List.replicate (s.length - i) 0) s (s.length:Nat) (i:Nat)=qzO (s.map fun c:UInt8=>(c.toNat:Int))
 | d,i,0,hi,hn=>by omega
 | 0,i,n+1,hi,hn=>by
  obtain rfl:i=s.length:=by omega
  show qfQ _ _ n _ _ _ _=_;unfold qfQ;rw [dF (by omega),Nat.sub_self,List.take_length];simp only [yd,List.replicate_zero,yG];rfl
 | d+1,i,n+1,hi,hn=>by
  show qfQ _ _ n _ _ _ _=_;unfold qfQ;have hlen:((s.take i).map (fun c:UInt8=>(c.toNat:Int))++List.replicate (s.length - i) (0:Int)).length=s.length:=by
   rw [yn,yP,yz,List.length_replicate]; omega
  rw [hlen];simp (disch:=omega) only [dT,yc,yi,tn,qq];rw [qje,qKA (fun c:UInt8=>((UInt8.toNat c:Nat):Int)) s 0 i (by omega) 0];exact qAO m s hl d (i+1) n (by omega) (by omega)
theorem qLu:∀ (s0:LU),(qub s0=true)→∃ n,qEL n s0=qzO (z72 s0):=fun s h=>⟨s.length+1,by
 have hl:=qk h;unfold qEL;have hr:((s.length:Nat):Int)≤(room:Int):=by unfold room; omega
 simp (disch:=omega) only [dT,yc,yi,tn];have:=qAO (s.length+1) s hl s.length 0 (s.length+1) (by omega) (by omega);exact this⟩
theorem qLv:∀ (c0:Int),∃ n,qJJ n c0=qzP (z95 c0):=fun c=>⟨0,by
 unfold qJJ z95;cases decide (128≤c) <;> rfl⟩
theorem qoi (m:Nat) (t:LI) (hl:t.length≤1048576):∀ (d i n:Nat),i+d=t.length→d < n →
 qpA (qiM m) n ((t.take i).map z95++t.drop i) (t.length:Nat) (i:Nat)=qzQ (t.map z95)
 | d,i,0,hi,hn=>by omega
 | 0,i,n+1,hi,hn=>by
  obtain rfl:i=t.length:=by omega
  show qfR _ _ n _ _ _=_;unfold qfR;rw [dF (by omega),List.drop_length,List.take_length,yG];rfl
 | d+1,i,n+1,hi,hn=>by
  show qfR _ _ n _ _ _=_;unfold qfR;have hlt:i < t.length:=by omega
  have hml:((t.take i).map z95).length=i:=by rw [yP,yz]; omega
  have hlen:((t.take i).map z95++t.drop i).length=t.length:=by
   rw [yn,hml,yK]; omega
  rw [hlen];simp (disch:=omega) only [dT,yc,yi,tn,qq];have hg:((t.take i).map z95++t.drop i).getD i 0=t[i]:=by
   rw [yY,yN (by omega),hml,Nat.sub_self,List.getElem?_drop,Nat.add_zero,yO hlt]; rfl
  have hs:((t.take i).map z95++t.drop i).set i (z95 t[i])=(t.take (i+1)).map z95++t.drop (i+1):=by
   rw [List.set_append_right _ _ (by omega),hml,Nat.sub_self,List.drop_eq_getElem_cons hlt,List.set_cons_zero,List.take_succ_eq_append_getElem hlt,List.map_append,yl];rfl
  rw [hg,hs];exact qoi m t hl d (i+1) n (by omega) (by omega)
theorem qLw:∀ (s0:LU),(qBX s0=true)→∃ n,qEM n s0=qzQ (z69 s0):=fun s h=>⟨s.length+1,by
 have hl:=qk h;unfold qEM;rw [show qub s=true from h];have hlen:(z72 s).length=s.length:=by unfold z72; rw [yP]
 have:=qoi (s.length+1) (z72 s) (by omega) s.length 0 (s.length+1) (by omega) (by omega);have e:(z72 s).map z95=z69 s:=by
  unfold z72 z69; rw [List.map_map]; rfl
 rw [e] at this;exact this⟩
theorem qLx:∀ (x0:UInt8),∃ n,qEN n x0=qct (z96 x0):=fun x=>⟨9,by
 have e:qEN 9 x=bif (164:UInt8)==x then qct 8364 else bif (166:UInt8)==x then qct 352 else bif (168:UInt8)==x then qct 353 else bif (180:UInt8)==x then qct 381
  else bif (184:UInt8)==x then qct 382 else bif (188:UInt8)==x then qct 338 else bif (189:UInt8)==x then qct 339 else bif (190:UInt8)==x then qct 376 else qct (IntKind.wrap .i32 ((UInt8.toNat x:Nat):Int)):=by rfl
 rw [e,qje];unfold z96 z105;have hc:∀ k:UInt8,(k==x)=(x==k):=fun k=>by
  cases h:x==k with
  | true=>rw [beq_iff_eq] at h; subst h; simp
  | false=>rw [yB] at h ⊢; exact fun e=>h e.symm
 simp only [hc];cases (x==(164:UInt8)) <;> cases (x==(166:UInt8)) <;> cases (x==(168:UInt8)) <;> cases (x==(180:UInt8)) <;> cases (x==(184:UInt8)) <;> cases (x==(188:UInt8)) <;> cases (x==(189:UInt8)) <;> cases (x==(190:UInt8)) <;> rfl⟩
theorem qLy:∀ (s0:LU),(qBV s0=true)→∃ n,qEO n s0=qGN (z70 s0):=fun s h=>⟨s.length+1,by
 have hl:=qk h;unfold qEO;have:=qjf (t:=s) (dv:=0) (f:=fun c=>[z96 c]) (q:=fun _=>true) (b:=1) (k0:=qfT (s.length+1)) (R:=none)
  (L:=fun n out i=>qpB (qfT (s.length+1)) n out s (s.length:Nat) i) (fun x=>yv 1) (fun n i out hi hb=>by
   show qfS _ _ n _ _ _ _=_;unfold qfS;have hr:out.length+([z96 (s.getD i 0)]:LI).length≤room:=hb;simp (disch:=omega) only [dT,yc,yi,tn,qq];all_goals (rw [dT hr])
   all_goals rfl) (fun n out=>by
   show qfS _ _ n _ _ _ _=_;unfold qfS;rw [dF (by omega)]; rfl) s.length 0 (s.length+1) [] (by omega) (by omega) (by show 0+_≤room; unfold room; omega)
 rw [yw,qlV,yc,List.nil_append,qgt] at this;exact this⟩
theorem qLz:∀ (s0:LU),(qBW s0=true)→∃ n,qEP n s0=qGP (z71 s0):=fun s h=>⟨s.length+1,by
 have hl:=qk h;unfold qEP;have hr:((s.length:Nat):Int)≤(room:Int):=by unfold room; omega
 have:=qjf (t:=s) (dv:=0) (f:=fun c=>[z97 c]) (q:=fun _=>true) (b:=1) (k0:=qfV (s.length+1)) (R:=none)
  (L:=fun n out i=>qpC (qfV (s.length+1)) n out s (s.length:Nat) i) (fun x=>yv 1) (fun n i out hi hb=>by
   show qfU _ _ n _ _ _ _=_;unfold qfU;have hr:out.length+([z97 (s.getD i 0)]:LI).length≤room:=hb;simp (disch:=omega) only [dT,yc,yi,tn,qq];all_goals (rw [dT hr])
   all_goals rfl) (fun n out=>by
   show qfU _ _ n _ _ _ _=_;unfold qfU;rw [dF (by omega)]; rfl) s.length 0 (s.length+1) [] (by omega) (by omega) (by show 0+_≤room; unfold room; omega)
 rw [yw,qlV,yc,List.nil_append,qgt] at this;simp (disch:=omega) only [dT,yc,yi];exact this⟩
theorem qLA:∀ (charset0:Int) (s1:LU),(qBY charset0 s1=true)→∃ n,qJL n charset0 s1=qjQ (z50 charset0 s1):=fun cs s h=>⟨0,by
 have h':lenOk s=true:=h;unfold qJL z50;rw [show qBX s=true from h',show qBV s=true from h',show qBW s=true from h',show qua s=true from h',show qub s=true from h'];cases (cs==(1:Int)) <;> cases (cs==(3:Int)) <;> cases (cs==(4:Int)) <;> cases (cs==(5:Int)) <;> rfl⟩
theorem qLB:∃ n,qJz n  = qGD (z66 ):=⟨10,by kernel_rfl⟩
theorem qLC:∀ (s0:LU),(qBZ s0=true)→∃ n,qJB n s0=qzz (z67 s0):=fun s h=>⟨0,by
 have hl:=qk h;have ht:=qdZ 42 s;have hlt:=ib_lt s 42;unfold qJB z67;rw [← ht]
 by_cases hi:(0:Int)≤Lib.indexByte s 42
 ·rw [show decide ((0:Int)≤z91 s 42)=true from dT hi,dT hi,yc,yc];rw [show z91 s 42=Lib.indexByte s 42 from rfl,dT (show (0:Int)≤((0:Nat):Int) by omega),dT (show ((0:Nat):Int)≤Lib.indexByte s 42 by omega),dT (show Lib.indexByte s 42≤((s.length:Nat):Int) by omega)];have hk:que (List.drop (Int.toNat ((0:Nat):Int)) (List.take (Int.toNat (Lib.indexByte s 42)) s))=true:=qn (by rw [tn,yw,yz]; omega);rw [hk];rfl
 ·rw [show decide ((0:Int)≤z91 s 42)=false from dF hi,dF hi,yd,yd,show que s=true from h];rfl⟩
theorem qFN:∀ (c0:UInt8),∃ n,qzJ n c0=qek (z117 c0):=fun c=>⟨0,by
 unfold qzJ z117 qp;cases decide (c < 128) <;> cases decide (c < 194) <;> cases decide (244 < c) <;> cases decide (c < 224) <;> cases decide (c < 240) <;> rfl⟩
theorem qFO:∀ (first0:UInt8) (c1:UInt8),∃ n,qzM n first0 c1=qcf (z132 first0 c1):=fun f c=>⟨0,by
 unfold qzM z132;cases (f==224) <;> cases (f==237) <;> cases (f==240) <;> cases (f==244) <;> cases decide (160≤c) <;> cases decide (c < 160) <;> cases decide (144≤c) <;> cases decide (c < 144) <;> rfl⟩
theorem qAP (m:Nat) (x:UInt8) (r:LU) (hl:r.length≤1048576):∀ (d i n:Nat),qp x=i+d→1≤i→i≤r.length+1→d < n →
 qgI qbe (qaz m) n (x :: r) (i:Nat)=qbe ((i+runB x d (i==1) (r.drop (i - 1)):Nat):Int)
 | d,i,0,_,_,_,hn=>by omega
 | 0,i,n+1,hs,hi,hr,hn=>by
  show qbZ _ _ _ n _ _=_;unfold qbZ;have e0:z117 (List.getD (x :: r) (Int.toNat 0) 0)=((qp x:Nat):Int):=rfl;have h0:decide ((0:Int) < (((x :: r).length:Nat):Int))=true:=dT (by simp only [yg]; omega);rw [e0,h0,dF (show ¬ ((i:Nat):Int) < ((qp x:Nat):Int) by omega)];have hr0:runB x 0 (i==1) (r.drop (i - 1))=0:=by cases r.drop (i - 1) <;> rfl
  rw [hr0];show qaz m (x :: r) ((i:Nat):Int)=_;unfold qaz;rw [e0,h0];show qbe (bif decide (((qp x:Nat):Int) < ((i:Nat):Int)) then _ else _)=_;rw [dF (by omega)]; rfl
 | d+1,i,n+1,hs,hi,hr,hn=>by
  show qbZ _ _ _ n _ _=_;unfold qbZ;have e0:z117 (List.getD (x :: r) (Int.toNat 0) 0)=((qp x:Nat):Int):=rfl;have h0:decide ((0:Int) < (((x :: r).length:Nat):Int))=true:=dT (by simp only [yg]; omega);rw [e0,h0,dT (show ((i:Nat):Int) < ((qp x:Nat):Int) by omega)];simp only [yc,yi,show decide ((0:Int)≤0)=true from rfl]
  by_cases hlt:i < (x :: r).length
  ·have hlt':i - 1 < r.length:=by simp only [yg] at hlt; omega
   obtain ⟨y,hy⟩:∃ y,r.getD (i - 1) 0=y:=⟨_,rfl⟩;have hg:(x :: r).getD i 0=y:=by
    obtain ⟨k,rfl⟩:∃ k,i=k+1:=⟨i - 1,by omega⟩;exact hy
   have hdr:r.drop (i - 1)=y :: r.drop i:=by
    have:=qti hlt';rw [this,hy,show i - 1+1=i by omega]
   rw [dT (show ((i:Nat):Int) < (((x :: r).length:Nat):Int) by omega),dT (show (0:Int)≤((i:Nat):Int) by omega),tn,hg,hdr];simp only [yc,yi];have hrun:runB x (d+1) (i==1) (y :: r.drop i)=bif z131 y&&(!(i==1)||z132 x y) then runB x d false (r.drop i)+1 else 0:=rfl
   have ih:=qAP m x r hl d (i+1) n (by omega) (by omega) (by simp only [yg] at hlt; omega) (by omega);rw [show i+1 - 1=i by omega,show (i+1==1)=false by simp; omega] at ih;rw [hrun];cases hf:z131 y with
   | false=>simp only [Bool.not_false,yc,Bool.false_and,yd,Nat.add_zero]
   | true =>
    simp only [Bool.not_true,yd,y6];have hfin:qgI qbe (qaz m) n (x :: r) (IntKind.wrap .i64 (((i:Nat):Int)+1))=qbe ((i+(runB x d false (r.drop i)+1):Nat):Int):=by
     rw [qq (by omega),ih,show i+1+runB x d false (r.drop i)=i+(runB x d false (r.drop i)+1) by omega]
    by_cases h1:i=1
    ·subst h1;rw [show (((1:Nat):Int)==1)=true from rfl,show ((1:Nat)==1)=true from rfl,yc,dT (show (1:Int) < (((x :: r).length:Nat):Int) by omega)];simp only [show decide ((0:Int)≤1)=true from rfl,yi,yc];have e1:List.getD (x :: r) (Int.toNat 1) 0=y:=hg;have e2:List.getD (x :: r) (Int.toNat 0) 0=x:=rfl;rw [e1,e2];cases hs2:z132 x y with
     | false=>rfl
     | true =>
      simp only [Bool.not_true,yd,Bool.false_or,yc];exact hfin
    ·rw [show (((i:Nat):Int)==1)=false by simp; omega,show (i==1)=false by simpa using h1];simp only [yd,Bool.not_false,Bool.true_or,yc];exact hfin
  ·have hi2:i=r.length+1:=by simp only [yg] at hlt; omega
   rw [dF (show ¬ ((i:Nat):Int) < (((x :: r).length:Nat):Int) by omega),yd,yA (by omega)];show qaz m (x :: r) ((i:Nat):Int)=qbe ((i+0:Nat):Int);unfold qaz;rw [e0,h0];show qbe (bif decide (((qp x:Nat):Int) < ((i:Nat):Int)) then _ else _)=_;rw [dF (by omega)]; rfl
theorem qFP:∀ (s0:LU),(qjC s0=true)→∃ n,qsT n s0=qbe (z116 s0):=fun s h=>⟨6,by
 unfold qjC at h;rw [yf] at h;have hl:=qk h.1;match s,h.2 with
 | x :: r,_ =>
  simp only [yg] at hl;have h4:=qtj x;have ef:z116 (x :: r)=((bif qp x==0 then 0 else 1+runB x (qp x - 1) true r:Nat):Int):=rfl;unfold qsT;rw [ef]
  by_cases h0:qp x=0
  ·rw [show (qp x==0)=true by simpa using h0,yc];have e0:z117 (List.getD (x :: r) (Int.toNat 0) 0)=((qp x:Nat):Int):=rfl;have h0':decide ((0:Int) < (((x :: r).length:Nat):Int))=true:=dT (by simp only [yg]; omega);show qbZ qbe (qaz 6) _ 5 (x :: r) 1=_;unfold qbZ;rw [e0,h0',dF (show ¬ (1:Int) < ((qp x:Nat):Int) by omega)];show qaz 6 (x :: r) 1=_;unfold qaz;rw [e0,h0'];show qbe (bif decide (((qp x:Nat):Int) < (1:Int)) then ((qp x:Nat):Int) else _)=_;rw [dT (by omega),h0]; rfl
  ·rw [show (qp x==0)=false by simpa using h0,yd];have:=qAP 6 x r (by omega) (qp x - 1) 1 6 (by omega) (yv 1) (by omega) (by omega);rw [show (1:Nat) - 1=0 from rfl,yw] at this;exact this⟩
theorem qLD:∀ (c0:Int) (e1:Int) (x2:LI),(qCc c0 e1 x2=true)→∃ n,qJH n c0 e1 x2=qzI (z74 c0 e1 x2):=fun c e t h=>⟨0,by
 have hl:t.length≤2097152:=of_decide_eq_true h;unfold qJH z74;have hr:∀ y:Int,t.length+([y]:LI).length≤room:=fun y=>by show t.length+1≤room; unfold room; omega
 rw [dT (hr 65533),dT (hr c)];cases (e != 0) <;> rfl⟩
theorem qLE:∀ (s0:LU),(qua s0=true)→∃ n,qJI n s0=qGL (z51 s0):=fun s h=>⟨0,by
 unfold qJI;have hok:qdw s []=true:=by unfold qdw; rw [show lenOk s=true from h]; rfl
 first
  | (rw [hok]; rfl)
  | rfl⟩
theorem qAQ (ret:Bool→OA) (a b:LI) (hab:a.length=b.length) (hl:a.length≤1048576):∀ (d i n:Nat),i+d=a.length→d < n →
 qlG ret (ret true) n a b (i:Nat)=ret (decide (a.drop i=b.drop i))
 | d,i,0,hi,hn=>by omega
 | 0,i,n+1,hi,hn=>by
  show qgc ret (ret true) (qlG ret (ret true) n) n a b _=_;unfold qgc;rw [yx (by omega),yd,yA (by omega),yA (by omega)];rfl
 | d+1,i,n+1,hi,hn=>by
  show qgc ret (ret true) (qlG ret (ret true) n) n a b _=_;unfold qgc;have hlt:i < a.length:=by omega
  have hlt':i < b.length:=by omega
  have ih:=qAQ ret a b hab hl d (i+1) n (by omega) (by omega);simp (disch:=omega) only [dT,yc,yi,tn,qq];rw [ih,qte hlt hlt' 0];cases (a.getD i 0 != b.getD i 0) <;> rfl
theorem qLF:∀ (a0:LI) (b1:LI),(quc a0 b1=true)→∃ n,qEV n a0 b1=qjU (z10 a0 b1):=fun a b h=>⟨a.length+1,by
 unfold qEV z10
 by_cases hab:a.length=b.length
 ·rw [show (((a.length:Nat):Int) != ((b.length:Nat):Int))=false by simp [hab],yd];exact qAQ qjU a b hab (qk h) a.length 0 (a.length+1) (by omega) (by omega)
 ·rw [show (((a.length:Nat):Int) != ((b.length:Nat):Int))=true by simp only [bne_iff_ne,ne_eq]; omega,yc,yx (fun e=>hab (by rw [e]))]⟩
theorem qLG:∀ (s0:LU) (sep1:LU),(qmO s0 sep1=true)→∃ n,qJw n s0 sep1=qzp (z65 s0 sep1).1 (z65 s0 sep1).2.1 (z65 s0 sep1).2.2:=fun s sep h=>⟨0,by
 have h0:=h;unfold qmO at h;rw [yf] at h;have hl:=qk h.1;have hl2:=qk (yf _ _ ▸ h.2).1;unfold qJw z65 z89;rw [show qwR s sep=true from h0]
 by_cases h1:0≤Lib.index s sep
 ·have hr:=Lib.index_room s sep h1;have e:IntKind.wrap .i64 (Lib.index s sep+((sep.length:Nat):Int))=Lib.index s sep+((sep.length:Nat):Int):=IntWalk.i64_in _ (by omega);rw [e,yo h1,yo (show (0:Int)≤((0:Nat):Int) by omega),yo (show ((0:Nat):Int)≤Lib.index s sep by omega),yo (show Lib.index s sep≤((s.length:Nat):Int) by omega),
   yo (show (0:Int)≤Lib.index s sep+((sep.length:Nat):Int) by omega),yo (show Lib.index s sep+((sep.length:Nat):Int)≤((s.length:Nat):Int) by omega),yo (Int.le_refl ((s.length:Nat):Int)),qcy,qcy,List.take_length,
   show Int.toNat (Lib.index s sep+((sep.length:Nat):Int))=(Lib.index s sep).toNat+sep.length by omega]
  rfl
 ·rw [yx h1]; rfl⟩
theorem qLH:∀ (a0:LU) (b1:LU),(qoK a0 b1=true)→∃ n,qJv n a0 b1=qGB (z19 a0 b1):=fun a b h=>⟨0,by
 unfold qoK at h;simp only [yf] at h;unfold qJv;rw [show qgX a=true from h.1,show qgX b=true from h.2];rfl⟩
theorem qLI:∀ (s0:LU) (suffix1:LU),(qEd s0 suffix1=true)→∃ n,qJW n s0 suffix1=qAb (z80 s0 suffix1).1 (z80 s0 suffix1).2:=fun s t h=>⟨0,by
 have hl:=qk h;unfold qJW z80;rw [show qqQ s t=true from h]
 by_cases hc:t.length≤s.length
 ·have e:IntKind.wrap .i64 ((s.length:Int) - (t.length:Int))=((s.length - t.length:Nat):Int):=by rw [IntWalk.i64_in _ (by omega)]; omega
  rw [e,tn];simp (disch:=omega) only [dT,yc,yi];cases z102 s t <;> rfl
 ·have e:z102 s t=false:=by unfold z102; rw [dF hc]; rfl
  rw [e]; rfl⟩
def qLJ (x:UInt8):Bool:=decide (x < 128)||(decide (160≤x)||((decide ((0:Int)≤((UInt8.toNat (x - (128:UInt8)):Nat):Int)))&&(decide (((UInt8.toNat (x - (128:UInt8)):Nat):Int) < (List.length z115:Nat))) &&
 ((bif ((List.getD z115 (Int.toNat ((UInt8.toNat (x - (128:UInt8)):Nat):Int)) (0:Int)) != (0:Int)) then (List.getD z115 (Int.toNat ((UInt8.toNat (x - (128:UInt8)):Nat):Int)) (0:Int)) else 65533)==z106 x)))
theorem qAR:∀ i:Fin 256,qLJ (UInt8.ofNat i.val)=true:=by decide +kernel
theorem qLK:∀ (x0:UInt8),∃ n,qJK n x0=qnG (z97 x0):=fun x=>⟨0,by
 have hm:=qqR (P:=fun x=>qLJ x=true) qAR x;unfold qJK qff z97;rw [qje];cases h1:decide (x < (128:UInt8)) with
 | true=>unfold z106; rw [h1]; rfl
 | false =>
  cases h2:decide ((160:UInt8)≤x) with
  | true =>
   have h3:decide ((159:UInt8) < x)=true:=by
    have h2':=of_decide_eq_true h2;apply yo;rw [UInt8.le_iff_toNat_le] at h2';rw [UInt8.lt_iff_toNat_lt];exact h2'
   unfold z106; rw [h1,h3]; rfl
  | false =>
   unfold qLJ at hm;rw [h1,h2,Bool.false_or,Bool.false_or,yf,beq_iff_eq] at hm;rw [yd,yd,hm.1,yc,← hm.2];cases ((List.getD z115 (Int.toNat ((UInt8.toNat (x - (128:UInt8)):Nat):Int)) (0:Int)) != (0:Int)) <;> rfl⟩
theorem qtt (k:LU):∀ l:List (LU×Int),@findM .str (.int .i64) k l=qCa k l
 | []=>rfl
 | p :: l=>by
  show (bif k==p.1 then some p.2 else @findM .str (.int .i64) k l)=_;rw [qtt k l]; rfl
theorem qPa (s:LU):(z67 s).length≤s.length:=by
 unfold z67 z92;exact yL (qtf _ _) (qgz _ _)
theorem qLL:∀ (s0:LU),(qCb s0=true)→∃ n,qJC n s0=qzA (z47 s0).1 (z47 s0).2:=fun s h=>⟨0,by
 have hl:=qk h;have hb:=qPa s;unfold qJC z47;rw [show qBZ s=true from h,show qgX (z67 s)=true from qn (by omega),qtt];cases qCa (z28 (z67 s)) z66 <;> rfl⟩
theorem qoj:∀ i:Fin 256,(((UInt8.ofNat i.val) &&& ~~~ (63:UInt8))==(128:UInt8))=z131 (UInt8.ofNat i.val):=by decide +kernel
theorem qFQ:∀ (c0:UInt8),∃ n,qzL n c0=qzK (z131 c0):=fun c=>⟨0,by
 unfold qzL;rw [qqR (P:=fun c=>((c &&& ~~~ (63:UInt8))==(128:UInt8))=z131 c) qoj c]⟩
theorem qHc:∀ (f:UInt8) (n:Nat) (one:Bool) (s:LU),runB f n one s≤n∧runB f n one s≤s.length
 | f,0,one,s=>by cases s <;> exact ⟨yv _,Nat.zero_le _⟩
 | f,n+1,one,[]=>⟨Nat.zero_le _,Nat.zero_le _⟩
 | f,n+1,one,x :: r=>by
  have ih:=qHc f n false r;show (bif z131 x&&(!one||z132 f x) then runB f n false r+1 else 0)≤n+1∧(bif z131 x&&(!one||z132 f x) then runB f n false r+1 else 0)≤r.length+1;cases z131 x&&(!one||z132 f x)
  ·exact ⟨Nat.zero_le _,Nat.zero_le _⟩
  ·simp only [yc]; omega
theorem qLM (a b:Nat) (hb:b < 64) (h:a*64+b < 2147483648):bits .or .i32 ((a*64:Nat):Int) (b:Int)=((a*64+b:Nat):Int):=by
 have h1:(BitVec.ofInt 32 ((a*64:Nat):Int)).toNat=a*64:=by rw [BitVec.toNat_ofInt]; omega
 have h2:(BitVec.ofInt 32 ((b:Nat):Int)).toNat=b:=by rw [BitVec.toNat_ofInt]; omega
 have h3:(BitVec.ofInt 32 ((a*64:Nat):Int) ||| BitVec.ofInt 32 (b:Int)).toNat=a*64+b:=by
  rw [BitVec.toNat_or,h1,h2];have:=Nat.shiftLeft_add_eq_or_of_lt (i:=6) hb a;rw [Nat.shiftLeft_eq] at this;exact this.symm
 show IntKind.wrap .i32 (((BitVec.ofInt 32 ((a*64:Nat):Int) ||| BitVec.ofInt 32 (b:Int)).toNat:Nat):Int)=_;rw [h3,IntWalk.i32_in _ (by omega)]
def foldS (t:LU) (c:Int):Int:=t.foldl (fun c y=>c*64+((y &&& 63).toNat:Int)) c
theorem qAS:∀ i:Fin 256,((UInt8.ofNat i.val) &&& (63:UInt8)).toNat < 64:=by decide +kernel
theorem low6 (y:UInt8):(y &&& 63).toNat < 64:=qqR (P:=fun y=>(y &&& 63).toNat < 64) qAS y
theorem qke (m:Nat) (t:LU) (n5:Int) (hl:t.length≤1048576):∀ (d i n b c:Nat),i+d=t.length→d < n→c < b→b*64 ^ d≤67108864 →
 qgJ (qdD m) n n5 (c:Int) t (t.length:Nat) (i:Nat)=qfd (foldS (t.drop i) c) n5 0
 | d,i,0,b,c,hi,hn,_,_=>by omega
 | 0,i,n+1,b,c,hi,hn,_,_=>by
  obtain rfl:i=t.length:=by omega
  show qdC _ _ n _ _ _ _ _=_;unfold qdC;rw [dF (by omega),yd,List.drop_length];rfl
 | d+1,i,n+1,b,c,hi,hn,hc,hb=>by
  show qdC _ _ n _ _ _ _ _=_;unfold qdC;have hlt:i < t.length:=by omega
  have h64:0 < 64 ^ d:=Nat.pow_pos (by decide);have hb':b*64*64 ^ d≤67108864:=by rw [Nat.pow_succ] at hb; rwa [Nat.mul_assoc,Nat.mul_comm 64]
  have hb2:b*64≤b*64*64 ^ d:=Nat.le_mul_of_pos_right _ h64;have hy:=low6 (t.getD i 0);simp (disch:=omega) only [dT,yc,yi,tn];have e1:IntKind.wrap .i32 ((c:Int)*2 ^ (min (Int.toNat (6:Int)) (IntKind.bits .i32)))=((c*64:Nat):Int):=by
   show IntKind.wrap .i32 ((c:Int)*64)=_;rw [IntWalk.i32_in _ (by omega)]; omega
  rw [e1,IntWalk.i32_in _ (by omega),qLM _ _ hy (by omega),qq (by omega),qke m t n5 hl d (i+1) n (b*64) _ (by omega) (by omega) (by omega) hb',qti hlt];show _=qfd (foldS (t.drop (i+1)) ((c:Int)*64+(((t.getD i 0) &&& 63).toNat:Int))) n5 0;congr 2
theorem qAT:∀ i:Fin 256,∀ n:Fin 5,((UInt8.ofNat i.val) &&& ~~~ (z118 ((n.val:Nat):Int)))=((UInt8.ofNat i.val) &&& (255 ^^^ (z118 ((n.val:Nat):Int)))):=by decide +kernel
theorem qPb (x:UInt8) (n:Nat) (hn:n < 5):(x &&& ~~~ (z118 ((n:Nat):Int)))=(x &&& (255 ^^^ (z118 ((n:Nat):Int)))):=qqR (P:=fun x=>∀ n:Fin 5,(x &&& ~~~ (z118 ((n.val:Nat):Int)))=(x &&& (255 ^^^ (z118 ((n.val:Nat):Int))))) qAT x ⟨n,hn⟩
theorem qHd (x:UInt8) (r:LU):farN (x :: r)≤qp x∧farN (x :: r)≤r.length+1:=by
 show (bif qp x==0 then 0 else 1+runB x (qp x - 1) true r)≤_∧(bif qp x==0 then 0 else 1+runB x (qp x - 1) true r)≤_;have:=qHc x (qp x - 1) true r;cases h:qp x==0 with
 | true=>exact ⟨Nat.zero_le _,Nat.zero_le _⟩
 | false =>
  rw [yB] at h;simp only [yd]; omega
theorem qLN:∀ (s0:LU),(qBU s0=true)→∃ n,qEK n s0=qfd (z98 s0).1 (z98 s0).2.1 (z98 s0).2.2:=fun s h=>⟨s.length+5,by
 have hl:=qk h;match s with
 | []=>rfl
 | x :: r =>
  simp only [yg] at hl;have hf:=qHd x r;have h4:=qtj x;obtain ⟨N,hN⟩:∃ N,farN (x :: r)=N:=⟨_,rfl⟩;have eT:z98 (x :: r)=bif farN (x :: r)==0 then ((0:Int),((1:Int),(3:Int))) else bif decide (farN (x :: r) < qp x)&&(farN (x :: r)==(x :: r).length) then (0,(farN (x :: r):Nat),4)
   else bif decide (farN (x :: r) < qp x) then (0,(farN (x :: r):Nat),3) else (signN (farN (x :: r)) (x :: r),(farN (x :: r):Nat),0):=rfl
  have eF:z116 (x :: r)=(N:Int):=by rw [← hN]; rfl
  have eS:z117 (List.getD (x :: r) (Int.toNat 0) 0)=((qp x:Nat):Int):=rfl;have hok:qjC (x :: r)=true:=by
   unfold qjC;rw [qn (show (x :: r).length≤1048576 by simp only [yg]; omega)]; rfl
  have h0:decide ((0:Int) < (((x :: r).length:Nat):Int))=true:=dT (by simp only [yg]; omega);have h00:((((x :: r).length:Nat):Int)==0)=false:=by rw [yB]; simp only [yg]; omega
  rw [eT,hN];rw [hN] at hf;unfold qEK qhA qhz qfe qdE qcH;rw [eF,eS,hok,h0,h00];simp only [yi,yc,yd,show decide ((0:Int)≤0)=true from rfl]
  by_cases hz:N=0
  ·subst hz; rfl
  ·rw [show (((N:Nat):Int)==0)=false by rw [yB]; omega,show (N==0)=false by simpa using hz];simp only [yd]
   by_cases hs:N < qp x
   ·rw [dT (show ((N:Nat):Int) < ((qp x:Nat):Int) by omega),yo hs];simp only [yc,y6]
    by_cases hlN:N=(x :: r).length
    ·rw [show (((N:Nat):Int)==(((x :: r).length:Nat):Int))=true by rw [beq_iff_eq]; omega,show (N==(x :: r).length)=true by simpa using hlN];rfl
    ·rw [show (((N:Nat):Int)==(((x :: r).length:Nat):Int))=false by rw [yB]; omega,show (N==(x :: r).length)=false by simpa using hlN];rfl
   ·rw [dF (show ¬ ((N:Nat):Int) < ((qp x:Nat):Int) by omega),yx hs];simp only [yd,Bool.false_and];rw [dT (show (1:Int)≤((N:Nat):Int) by omega),dT (show ((N:Nat):Int)≤(((x :: r).length:Nat):Int) by simp only [yg]; omega)];simp only [show decide ((0:Int)≤1)=true from rfl,yi,yc,tn];have e1:List.drop (Int.toNat 1) (List.take N (x :: r))=r.take (N - 1):=by
     obtain ⟨k,rfl⟩:∃ k,N=k+1:=⟨N - 1,by omega⟩;rfl
    have e2:List.getD (x :: r) (Int.toNat 0) 0=x:=rfl;rw [e1,e2,qPb x N (by omega)];have hx:=(x &&& (255 ^^^ z118 ((N:Nat):Int))).toNat_lt;have ht:(r.take (N - 1)).length=N - 1:=by rw [yz]; omega
    rw [IntWalk.i32_in _ (by omega)];have:=qke ((x :: r).length+5) (r.take (N - 1)) (N:Int) (by omega) (r.take (N - 1)).length 0 ((x :: r).length+5) 256 _ (by omega) (by simp only [yg]; omega) hx (by
     rw [ht];have:N - 1=0∨N - 1=1∨N - 1=2∨N - 1=3:=by omega
     rcases this with e | e | e | e <;> rw [e] <;> decide)
    rw [yw] at this;exact this⟩
theorem qPc (x:UInt8) (r:LU):(z98 (x :: r)).2.1=((z98 (x :: r)).2.1.toNat:Int)∧(z98 (x :: r)).2.1.toNat≤r.length+1:=by
 have hf:=qHd x r;show ((bif farN (x :: r)==0 then ((0:Int),((1:Int),(3:Int))) else bif decide (farN (x :: r) < qp x)&&(farN (x :: r)==(x :: r).length) then (0,(farN (x :: r):Nat),4)
  else bif decide (farN (x :: r) < qp x) then (0,(farN (x :: r):Nat),3) else (signN (farN (x :: r)) (x :: r),(farN (x :: r):Nat),0)).2.1=(((bif farN (x :: r)==0 then ((0:Int),((1:Int),(3:Int))) else bif decide (farN (x :: r) < qp x)&&(farN (x :: r)==(x :: r).length) then (0,(farN (x :: r):Nat),4)
  else bif decide (farN (x :: r) < qp x) then (0,(farN (x :: r):Nat),3) else (signN (farN (x :: r)) (x :: r),(farN (x :: r):Nat),0)).2.1.toNat:Nat):Int))∧(bif farN (x :: r)==0 then ((0:Int),((1:Int),(3:Int))) else bif decide (farN (x :: r) < qp x)&&(farN (x :: r)==(x :: r).length) then (0,(farN (x :: r):Nat),4)
  else bif decide (farN (x :: r) < qp x) then (0,(farN (x :: r):Nat),3) else (signN (farN (x :: r)) (x :: r),(farN (x :: r):Nat),0)).2.1.toNat≤r.length+1
 cases farN (x :: r)==0
 ·cases decide (farN (x :: r) < qp x)&&(farN (x :: r)==(x :: r).length)
  ·cases decide (farN (x :: r) < qp x)
   ·exact ⟨rfl,hf.2⟩
   ·exact ⟨rfl,hf.2⟩
  ·exact ⟨rfl,hf.2⟩
 ·exact ⟨rfl,by show 1≤_; omega⟩
theorem qAU (m:Nat):∀ (n k:Nat) (s:LU) (t:LI),s.length < n→s.length < k→s.length≤1048576→t.length+s.length≤2097152 →
 qca (qbw m) n s t=qbM (t++utfR k s)
 | 0,k,s,t,hn,_,_,_=>by omega
 | n+1,0,s,t,_,hk,_,_=>by omega
 | n+1,k+1,[],t,_,_,_,_=>by
  show qbM t=qbM (t++[]);rw [yG]
 | n+1,k+1,x :: r,t,hn,hk,hl,ht=>by
  show qdF _ (qca (qbw m) n) n _ _=_;unfold qdF;simp only [yg] at hn hk hl ht;obtain ⟨e1,e2⟩:=qPc x r;have e3:=qHY x r;rw [dT (show (0:Int) < (((x :: r).length:Nat):Int) by simp only [yg]; omega),show qBU (x :: r)=true from qn (by simp only [yg]; omega),
   show qCc (z98 (x :: r)).1 (z98 (x :: r)).2.2 t=true from yo (by omega)]
  generalize hw:(z98 (x :: r)).2.1.toNat=w at e1 e2 e3;rw [e1,dT (show (0:Int)≤(w:Int) by omega),dT (show (w:Int)≤(((x :: r).length:Nat):Int) by simp only [yg]; omega),dT (Int.le_refl _)];simp only [yc,yi,tn,List.take_length];have hd:((x :: r).drop w).length≤r.length:=by rw [yK,yg]; omega
  have hd2:((x :: r).drop w).length+1≤r.length+1:=by omega
  rw [qAU m n k ((x :: r).drop w) (z74 (z98 (x :: r)).1 (z98 (x :: r)).2.2 t) (by omega) (by omega) (by omega) (by unfold z74; rw [yn]; show t.length+1+_≤_; omega)];show qbM _=qbM (t++((bif (z98 (x :: r)).2.2 != 0 then 65533 else (z98 (x :: r)).1) :: utfR k ((x :: r).drop (z98 (x :: r)).2.1.toNat)));rw [hw];unfold z74;rw [yl]; rfl
theorem qvt:∀ (s0:LU) (f1:LI),(qdw s0 f1=true)→∃ n,qlz n s0 f1=qbM (qIb s0 f1):=fun s t h=>⟨s.length+1,by
 unfold qdw at h;rw [yf,ym] at h;have hl:=qk h.1;exact qAU (s.length+1) (s.length+1) (s.length+1) s t (by omega) (by omega) hl (by omega)⟩
end Go.Av
