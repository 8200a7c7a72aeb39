import Derived.Test.YtcbimkaeoojceaaGreatDoorPjSh
import Derived.Test.YtcbimkaeoojceaaGreatDoorEfL
import Derived.Test.YtcbimkaeoojceaaGreatDoorAvE
import Derived.Lib.IndexAny
import Derived.Lib.IndexMore
import Derived.Lib.IndexBytes
import Derived.IntWalk
import Derived.KernelRfl
namespace Go.Av
theorem qoR {α:Type} [DecidableEq α] {a b:List α} {i:Nat} (ha:i < a.length) (hb:i < b.length) (d:α):decide (a.drop i=b.drop i)=bif a.getD i d != b.getD i d then false else decide (a.drop (i+1)=b.drop (i+1)):=by
 rw [qz (d:=d) ha,qz (d:=d) hb];generalize a.getD i d=x;generalize b.getD i d=y
 by_cases h:x=y
 ·subst h; simp
 ·simp [h]
theorem qyW (ret:Bool→Option AV) (a b:List UInt8) (hab:a.length=b.length) (hl:a.length≤1048576):∀ (d i n:Nat),i+d=a.length→d < n →
 z8_l4 ret (ret true) n a b (i:Nat)=ret (decide (a.drop i=b.drop i))
 | d,i,0,hi,hn=>by omega
 | 0,i,n+1,hi,hn=>by
  show qhN ret (ret true) (z8_l4 ret (ret true) n) n a b _=_;unfold qhN;rw [yx (by omega),yd,yA (by omega),yA (by omega)];rfl
 | d+1,i,n+1,hi,hn=>by
  show qhN ret (ret true) (z8_l4 ret (ret true) n) n a b _=_;unfold qhN;have hlt:i < a.length:=by omega
  have hlt':i < b.length:=by omega
  have ih:=qyW ret a b hab hl d (i+1) n (by omega) (by omega);rw [qpb,yo hlt,yc,qaV,y4,yc,y4,qpb,yo hlt',yc,qv (by omega),qbH,ih,qoR hlt hlt' 0];cases (a.getD i 0 != b.getD i 0) <;> rfl
theorem qET:∀ (a0:List UInt8) (b1:List UInt8),(z8_ok a0 b1=true)→∃ n,z8_sh n a0 b1=qqt (z8 a0 b1):=fun a b h=>⟨a.length+1,by
 unfold z8_sh z8
 by_cases hab:a.length=b.length
 ·rw [show (((a.length:Nat):Int) != ((b.length:Nat):Int))=false by simp [hab],yd];exact qyW qqt a b hab (qm h) a.length 0 (a.length+1) (by omega) (by omega)
 ·rw [show (((a.length:Nat):Int) != ((b.length:Nat):Int))=true by simp only [bne_iff_ne,ne_eq]; omega,yc,yx (fun e=>hab (by rw [e]))]⟩
theorem qkV (c:UInt8):decide (((UInt8.toNat c:Nat):Int) < (256:Nat))=true:=by
 have:=c.toNat_lt;rw [yo];omega
theorem qxM:∀ (c0:UInt8),∃ n,qtT n c0=qg (z119 c0):=fun c=>⟨0,by
 unfold qtT qco qS z119 qns orI;cases decide (c < (32:UInt8)) <;> cases (c==(127:UInt8)) <;> cases (c==(32:UInt8)) <;> cases (c==(9:UInt8)) <;> cases decide ((48:UInt8)≤c) <;> cases decide (c≤(57:UInt8)) <;> cases decide ((65:UInt8)≤c) <;> cases decide (c≤(90:UInt8)) <;> cases decide ((97:UInt8)≤c) <;> cases decide (c≤(122:UInt8)) <;> rfl⟩
theorem qxN:∀ (s0:List UInt8) (c1:UInt8),∃ n,qyL n s0 c1=qtU (z139 s0 c1):=fun _ _=>⟨0,rfl⟩
theorem qxO:∀ (s0:List UInt8) (c1:UInt8),∃ n,qyM n s0 c1=qtV (z133 s0 c1):=fun _ _=>⟨0,rfl⟩
theorem qxP:∀ (s0:List UInt8) (c1:UInt8),∃ n,qyN n s0 c1=qtW (z120 s0 c1):=fun _ _=>⟨0,rfl⟩
theorem qBG:∀ (c0:UInt8),∃ n,qBh n c0=qbd (z99 c0):=fun c=>⟨0,by
 unfold qBh qbN qdU qbp z99 qvN orI;cases decide (c < (33:UInt8)) <;> cases decide ((126:UInt8) < c) <;> cases z120 [33,42,43,45,47] c <;> cases z120 [43,47] c <;> cases z120 [40,41,60,62,64,44,59,58,92,34,47,91,93,63,61] c <;> cases z120 [42,39,37] c <;> rfl⟩
theorem qBH:∀ (c0:UInt8) (kinds1:Int),∃ n,qER n c0 kinds1=qyO (z77 c0 kinds1):=fun _ _=>⟨0,rfl⟩
theorem qyX (c:UInt8):c.toNat < 256:=c.toNat_lt
theorem qBI (cs:List UInt8) (x:UInt8):∀ (a:List Bool),a.length=256→(setOf cs a).getD x.toNat false=(cs.contains x||a.getD x.toNat false):=by
 induction cs with
 | nil=>intro a _; simp [setOf]
 | cons c cs ih =>
  intro a hl;show (setOf cs (List.set a c.toNat true)).getD x.toNat false=_;rw [ih _ (by simpa using hl)];have hx:=qyX x;have hc:=qyX c
  by_cases e:c=x
  ·subst e;have:(List.set a c.toNat true).getD c.toNat false=true:=by simp [List.getD,hl,hc]
   rw [this];simp
  ·have hne:c.toNat≠x.toNat:=fun h=>e (UInt8.toNat_inj.1 h);have:(List.set a c.toNat true).getD x.toNat false=a.getD x.toNat false:=by simp [List.getD,List.getElem?_set_ne hne]
   rw [this];have hb:¬ x=c:=fun h=>e h.symm;simp [hb]
theorem dT {p:Prop} [Decidable p] (h:p):decide p=true:=yo h
theorem dF {p:Prop} [Decidable p] (h:¬ p):decide p=false:=yx h
theorem wr {x:Int} (h : -9223372036854775808≤x∧x≤9223372036854775807):IntKind.wrap .i64 x=x:=IntWalk.i64_in x h
theorem tn (i:Nat):Int.toNat (i:Int)=i:=Int.toNat_natCast i
theorem bneI {a b:Int} (h:a≠b):(a==b)=false:=by simp [h]
theorem qn {α:Type} {l:List α} (h:l.length≤1048576):lenOk l=true:=by unfold lenOk; rw [ym]; exact h
theorem quA (p:UInt8→Bool) (t:List UInt8) (x:UInt8):dropR p (t++[x])=bif p x then dropR p t else t++[x]:=by
 unfold dropR;rw [List.reverse_append,List.reverse_singleton,List.singleton_append,List.dropWhile_cons];cases p x <;> simp
theorem qdl (p:UInt8→Bool):∀ s:List UInt8,(s.dropWhile p).length≤s.length
 | []=>by simp
 | c :: s=>by
  rw [List.dropWhile_cons];split
  ·have:=qdl p s; simp only [yg]; omega
  ·exact yv _
theorem quB (p:UInt8→Bool) (s:List UInt8):(dropR p s).length≤s.length:=by
 have:=qdl p s.reverse;unfold dropR;simpa using this
theorem qoS (p:UInt8→Bool) (s:List UInt8):(qvO p s).length≤s.length:=yL (qdl p _) (quB p s)
theorem qmx (cs:List UInt8) (c:UInt8):z134 (z125 cs).1 c=cs.contains c:=by
 have:=qBI cs c (List.replicate 256 false) List.length_replicate;unfold z134 z125;have hc:c.toNat < 256:=c.toNat_lt;rw [this,yY,List.getElem?_replicate,if_pos hc];exact Bool.or_false _
theorem qEU (cs s:List UInt8):z126 (z127 s (z125 cs).1) (z125 cs).1=z112 s cs:=by
 unfold z126 z127 z112 qvO;have e:(fun c=>z134 (z125 cs).1 c)=fun c=>cs.contains c:=funext fun c=>qmx cs c;rw [e]
theorem qEV (f:UInt8→UInt8) (s:List UInt8) (i:Nat) (h:i < s.length):List.set (s.take i |>.map f |> fun l=>l++s.drop i) i (f (s.getD i 0))=(s.take (i+1)).map f++s.drop (i+1):=by
 have hg:=qz (d:=(0:UInt8)) h;have hl:((s.take i).map f).length=i:=by simp; omega
 rw [hg,List.set_append_right _ _ (by omega),hl,Nat.sub_self,List.set_cons_zero];rw [show s.take (i+1)=s.take i++[s.getD i 0] by
  rw [List.take_add_one]; simp [List.getD,h]]
 simp
theorem quC (p:UInt8→Bool) (s:List UInt8):(((s.countP p:Nat):Int)==((s.length:Nat):Int))=s.all p:=by
 rw [Bool.eq_iff_iff];simp only [beq_iff_eq,List.all_eq_true];have:=List.countP_eq_length (p:=p) (l:=s);constructor
 ·intro h; exact this.1 (by omega)
 ·intro h; have:=this.2 h; omega
theorem qxQ:(fun c:UInt8=>([32,9]:List UInt8).contains c)=blank:=by
 funext c;unfold blank;simp only [List.contains_cons,List.contains_nil,Bool.or_false]
theorem qBJ {P:UInt8→Prop} (h:∀ i:Fin 256,P (UInt8.ofNat i.val)) (c:UInt8):P c:=by
 have:=h ⟨c.toNat,c.toNat_lt⟩;simpa using this
theorem qyY (x:UInt8) (s:List UInt8) (c:UInt8):Lib.indexByte (x :: s) c=if (x==c)=true then 0 else if (Lib.indexByte s c == -1)=true then -1 else Lib.indexByte s c+1:=rfl
theorem ib_lt:∀ (s:List UInt8) (c:UInt8),Lib.indexByte s c < (s.length:Int)
 | [],c=>by show (-1:Int) < ((0:Nat):Int); omega
 | x :: s,c=>by
  have:=ib_lt s c;have hg:=Lib.indexByte_ge s c;rw [qyY];simp only [yg];split
  ·omega
  ·split <;> omega
theorem quD (c:UInt8):IntKind.wrap .i64 ((UInt8.toNat c:Nat):Int)=((UInt8.toNat c:Nat):Int):=by
 have:=c.toNat_lt;exact IntWalk.i64_in _ (by omega)
theorem qmy:∀ i:Fin 256,0≤(z138 (UInt8.ofNat i.val)).1∧(z138 (UInt8.ofNat i.val)).1 < 16:=by decide +kernel
theorem qGK {P:UInt8→Prop} (h:∀ i:Fin 256,P (UInt8.ofNat i.val)) (c:UInt8):P c:=by
 have:=h ⟨c.toNat,c.toNat_lt⟩;simpa using this
theorem qhP (c:UInt8):0≤(z138 c).1∧(z138 c).1 < 16:=qGK (P:=fun c=>0≤(z138 c).1∧(z138 c).1 < 16) qmy c
theorem qBK:∀ a b:Fin 16,UInt8.ofNat (Int.toNat (IntKind.wrap .u8 (bits .or .i64 (IntKind.wrap .i64 (((a.val:Nat):Int)*2 ^ (min (Int.toNat (4:Int)) (IntKind.bits .i64)))) ((b.val:Nat):Int))))=UInt8.ofNat (Int.toNat (((a.val:Nat):Int)*16+((b.val:Nat):Int))):=by decide +kernel
theorem qBL {P:Int→Int→Prop} (h:∀ a b:Fin 16,P ((a.val:Nat):Int) ((b.val:Nat):Int)) {x y:Int} (hx:0≤x∧x < 16) (hy:0≤y∧y < 16):P x y:=by
 have:=h ⟨x.toNat,by omega⟩ ⟨y.toNat,by omega⟩;simp only [Int.toNat_of_nonneg hx.1,Int.toNat_of_nonneg hy.1] at this;exact this
theorem qqu (s:List UInt8) (at1:Int) (hl:s.length≤1048576) (h0:¬ at1 < 0) (h1:¬ IntKind.wrap .i64 (((List.length s:Nat):Int) - 3) < at1):∃ i:Nat,at1=i∧i+2 < s.length:=by
 rw [IntWalk.i64_in _ (by omega)] at h1;exact ⟨at1.toNat,by omega,by omega⟩
set_option linter.unusedSimpArgs false
theorem qxR:∀ (n0:Int),∃ n,quf n n0=qgU (z118 n0):=fun c=>⟨0,by
 unfold quf z118;cases (c==(2:Int)) <;> cases (c==(3:Int)) <;> cases (c==(4:Int)) <;> rfl⟩
theorem qxS:∃ n,qyR n  = quj z114:=⟨0,rfl⟩
theorem qxT:∃ n,qyT n  = qul z115:=⟨0,rfl⟩
theorem qBM {α β:Type} (f:α→β) (t:List α) (z:β) (i:Nat) (h:i < t.length) (d:α) :
 ((t.take i).map f++List.replicate (t.length - i) z).set i (f (t.getD i d))=(t.take (i+1)).map f++List.replicate (t.length - (i+1)) z:=by
 rw [List.set_append_right _ _ (by simp; omega)];have h1:((t.take i).map f).length=i:=by simp; omega
 rw [h1,Nat.sub_self,show t.length - i=(t.length - (i+1))+1 by omega,List.replicate_succ,List.set_cons_zero,List.take_succ_eq_append_getElem h,List.map_append,yl];simp [List.getD,h]
theorem qmz (x:UInt8):IntKind.wrap .i32 ((UInt8.toNat x:Nat):Int)=((UInt8.toNat x:Nat):Int):=IntWalk.i32_in _ (by have:=x.toNat_lt; omega)
theorem qmA {α β:Type} {t:List α} {dv:α} {f:α→List β} {q:α→Bool} {k0:List β→Option AV} {R:Option AV} {L:Nat→List β→Int→Option AV} {b:Nat} (hf:∀ x,(f x).length≤b)
 (hL:∀ (n i:Nat) (out:List β),i < t.length→out.length+b≤room→L (n+1) out (i:Int)=bif q (t.getD i dv) then L n (out++f (t.getD i dv)) ((i+1:Nat):Int) else R) (hE:∀ n out,L (n+1) out ((t.length:Nat):Int)=k0 out) :
 ∀ (d i n:Nat) (out:List β),i+d=t.length→d < n→out.length+b*d≤room→L n out (i:Int)=bif (t.drop i).all q then k0 (out++(t.drop i).flatMap f) else R
 | d,i,0,out,hi,hn,_=>by omega
 | 0,i,n+1,out,hi,hn,_=>by
  obtain rfl:i=t.length:=by omega
  rw [hE,yA (by omega)];simp
 | d+1,i,n+1,out,hi,hn,hb=>by
  have hlt:i < t.length:=by omega
  have hx:=hf (t.getD i dv);have hb':b*(d+1)=b*d+b:=by rw [Nat.mul_succ]
  have h0:0≤b*d:=Nat.zero_le _;rw [hL n i out hlt (by omega),qmA (α:=α) (β:=β) hf hL hE d (i+1) n _ (by omega) (by omega) (by rw [yn]; omega),qz (d:=dv) hlt];simp only [List.all_cons,List.flatMap_cons,yl];cases q (t.getD i dv) <;> rfl
theorem qBN:∀ (charset0:Int),∃ n,qBb n charset0=qgP (z90 charset0):=fun cs=>⟨0,by
 unfold qBb z90;cases (cs==(1:Int)) <;> cases (cs==(2:Int)) <;> cases (cs==(3:Int)) <;> cases (cs==(4:Int)) <;> cases (cs==(5:Int)) <;> rfl⟩
theorem qmB {α β:Type} (f:α→β):∀ l:List α,l.flatMap (fun x=>[f x])=l.map f
 | []=>rfl
 | x :: r=>by rw [List.flatMap_cons,qmB f r]; rfl
theorem qmC {α:Type}:∀ l:List α,l.all (fun _=>true)=true
 | []=>rfl
 | _ :: r=>by rw [List.all_cons,qmC r]; rfl
theorem qoT {s:List UInt8} {i:Nat} (h:i < s.length):s.drop i=s.getD i 0 :: s.drop (i+1):=by
 rw [List.drop_eq_getElem_cons h,yY,yO h]; rfl
theorem qcV (c:UInt8):∀ s:List UInt8,(bif decide ((0:Int)≤Lib.indexByte s c) then s.take (Lib.indexByte s c).toNat else s)=s.takeWhile fun x=>x != c
 | []=>rfl
 | x :: s=>by
  have ih:=qcV c s;have hg:=Lib.indexByte_ge s c;rw [qyY,List.takeWhile_cons]
  by_cases hx:x=c
  ·subst hx;simp
  ·have h1:(x==c)=false:=beq_eq_false_iff_ne.2 hx;have h2:(x != c)=true:=by rw [bne,h1]; rfl
   rw [h1,h2];simp only [yq,if_false,if_true];rw [← ih]
   by_cases h3:Lib.indexByte s c = -1
   ·rw [h3]; rfl
   ·have h4:(Lib.indexByte s c == -1)=false:=by simpa using h3
    rw [h4];simp only [yq,if_false];rw [dT (by omega),dT (by omega),yc,yc,show (Lib.indexByte s c+1).toNat=(Lib.indexByte s c).toNat+1 by omega,List.take_succ_cons]
theorem qoU (c:UInt8):qe c≤4:=by
 unfold qe;cases decide (c < 128) <;> cases decide (c < 194)||decide (244 < c) <;> cases decide (c < 224) <;> cases decide (c < 240) <;> decide
theorem qBO:∀ (c0:Int),∃ n,qBE n c0=quz (z34 c0):=fun c=>⟨0,by
 unfold qBE z34;cases decide ((55296:Int)≤c) <;> rfl⟩
theorem qBP:∀ (c0:Int),∃ n,qBF n c0=qoQ (z21 c0):=fun c=>⟨0,by
 unfold qBF z21;cases decide ((0:Int)≤c) <;> cases decide (c≤(1114111:Int)) <;> rfl⟩
theorem qhg (k0:Int→Option AV) (s:List UInt8) (k:Int) (hl:s.length≤1048576):∀ (d i n m:Nat),i+d=s.length→d < n→m+d≤1048576 →
 qdY k0 n k (m:Nat) s (s.length:Nat) (i:Nat)=k0 ((m+(s.drop i).countP (fun c=>z77 c k):Nat):Int)
 | d,i,0,m,hi,hn,hm=>by omega
 | 0,i,n+1,m,hi,hn,hm=>by
  show qcN k0 (qdY k0 n) n _ _ _ _ _=_;unfold qcN;rw [dF (by omega),yd,yA (by omega)];rfl
 | d+1,i,n+1,m,hi,hn,hm=>by
  show qcN k0 (qdY k0 n) n _ _ _ _ _=_;unfold qcN;have hlt:i < s.length:=by omega
  have ih:=qhg k0 s k hl d (i+1) n m (by omega) (by omega) (by omega);have ih2:=qhg k0 s k hl d (i+1) n (m+1) (by omega) (by omega) (by omega);rw [qz (d:=(0:UInt8)) hlt,List.countP_cons];simp (disch:=omega) only [dT,yc,yi,tn,qv];cases z77 (s.getD i 0) k with
  | true=>rw [yc,ih2]; congr 2; simp; omega
  | false=>rw [yd,ih]; congr 2
theorem qxU:∀ (s0:List UInt8) (kinds1:Int),(qnt s0 kinds1=true)→∃ n,qoO n s0 kinds1=qur (z101 s0 kinds1):=fun s k h=>⟨s.length+1,by
 have hl:=qm h;unfold qoO;have:=qhg (qdZ (s.length+1)) s k hl s.length 0 (s.length+1) 0 (by omega) (by omega) (by omega);refine Eq.trans this ?_;rw [yE,yw];rfl⟩
theorem qBQ:∀ (s0:List UInt8) (kinds1:Int),(qpE s0 kinds1=true)→∃ n,qBy n s0 kinds1=qus (z79 s0 kinds1):=fun s k h=>⟨0,by
 unfold qBy;rw [show qnt s k=true from h];show qus (z101 s k==((s.length:Nat):Int))=_;unfold z101;rw [quC];rfl⟩
theorem qkW (ret:Int→Option AV) (k0:Option AV) (t:List Int) (hl:t.length≤1048576):∀ (d i n:Nat),i+d=t.length→d < n →
 qmv ret k0 n t (i:Int)=bif decide (qdf z21 (t.drop i) (i:Int) < 0) then k0 else ret (qdf z21 (t.drop i) (i:Int))
 | d,i,0,hi,hn=>by omega
 | 0,i,n+1,hi,hn=>by
  obtain rfl:i=t.length:=by omega
  show qeM _ _ _ n _ _=_;unfold qeM;rw [dF (by omega),List.drop_length];rfl
 | d+1,i,n+1,hi,hn=>by
  have hlt:i < t.length:=by omega
  show qeM _ _ _ n _ _=_;unfold qeM;have hg:t.getD i 0=t[i]:=by rw [yY,yO hlt]; rfl
  rw [tn,hg,dT (show (i:Int) < ((t.length:Nat):Int) by omega),dT (show (0:Int)≤(i:Int) by omega),qv (by omega),List.drop_eq_getElem_cons hlt];have hstep:qdf z21 (t[i] :: t.drop (i+1)) (i:Int)=bif z21 t[i] then qdf z21 (t.drop (i+1)) ((i:Int)+1) else (i:Int):=rfl
  rw [hstep];have ih:=qkW ret k0 t hl d (i+1) n (by omega) (by omega);cases z21 t[i] with
  | true =>
   simp only [Bool.not_true,yc,yd,yi];exact ih
  | false =>
   simp only [Bool.not_false,yc,yd,yi];rw [dF (show ¬ (i:Int) < 0 by omega)];rfl
theorem qoV (p:Int→Bool):∀ (t:List Int) (i:Int),0≤i→qdf p t i < 0→qdf p t i = -1
 | [],_,_,_=>rfl
 | x :: r,i,hi,h=>by
  have e:qdf p (x :: r) i=bif p x then qdf p r (i+1) else i:=rfl
  rw [e] at h ⊢;cases hp:p x with
  | true=>rw [hp] at h; exact qoV p r (i+1) (by omega) h
  | false=>rw [hp] at h; exact absurd (show i < 0 from h) (by omega)
theorem qBR:∀ (t0:List Int),(qyq t0=true)→∃ n,qxL n t0=qhc (z12 t0):=fun t h=>⟨1048577,by
 have hl:=qm (show lenOk t=true from h);unfold qxL z12;have e:=qkW qhc (qhd 1048577) t hl t.length 0 1048577 (yE _) (by omega);rw [yw] at e;refine e.trans ?_
 by_cases hn:qdf z21 t ((0:Nat):Int) < 0
 ·rw [dT hn];have:=qoV z21 t ((0:Nat):Int) (by omega) hn;show qhc (-1)=qhc (qdf z21 t 0);rw [show qdf z21 t 0 = -1 from this]
 ·rw [dF hn];rfl⟩
set_option linter.unusedSimpArgs false
set_option linter.unusedVariables false
set_option linter.unusedSimpArgs false
set_option linter.unusedVariables false
set_option linter.unusedSimpArgs false
set_option linter.unusedVariables false
structure PutI (name cs:List UInt8) (i:Nat) (st:PutT):Prop where
 e:st.1=true→i=0
 n:st.2.2.length+(bif st.1 then 0 else 1)≤i
 l:st.2.1.length≤name.length+cs.length+100
 l0:st.1=true→st.2.1.length≤name.length+cs.length+7
set_option linter.unusedSimpArgs false
set_option linter.unusedVariables false
set_option linter.unusedSimpArgs false
set_option linter.unusedVariables false
set_option linter.unusedSimpArgs false
set_option linter.unusedVariables false
set_option linter.unusedSimpArgs false
set_option linter.unusedVariables false
theorem qbW (ret:List Bool→Bool→Option AV) (k0:List Bool→Option AV) (cs:List UInt8) (ha:ascii cs=true) (hl:cs.length≤1048576):∀ (d i n:Nat) (a:List Bool),i+d=cs.length→d < n →
 qdQ ret k0 n cs a (i:Nat)=k0 (setOf (cs.drop i) a)
 | d,i,0,a,hi,hn=>by omega
 | 0,i,n+1,a,hi,hn=>by
  show qcC ret k0 (qdQ ret k0 n) n cs a _=_;unfold qcC;rw [yx (by omega),yd,yA (by omega)];rfl
 | d+1,i,n+1,a,hi,hn=>by
  show qcC ret k0 (qdQ ret k0 n) n cs a _=_;unfold qcC;have hlt:i < cs.length:=by omega
  have hc:decide ((128:UInt8)≤List.getD cs i 0)=false:=by
   unfold ascii at ha;rw [List.all_eq_true] at ha;have:=ha (cs.getD i 0) (by simp [List.getD,hlt]);rw [decide_eq_false_iff_not];simp only [ym] at this;exact UInt8.not_le.2 this
  rw [qpb,yo hlt,yc,qaV,y4,yc,qbH,hc,yd,qaV,qkV,y4,yc,qv (by omega),
   qbW ret k0 cs ha hl d (i+1) n _ (by omega) (by omega),qz (d:=0) hlt]
  rfl
theorem qxV:∀ (chars0:List UInt8),(qgx chars0=true)→∃ n,qtM n chars0=qgQ (z125 chars0).1 (z125 chars0).2:=fun cs h=>⟨cs.length+1,by
 unfold qgx at h;rw [yf] at h;exact qbW qgQ (qdR (cs.length+1)) cs h.1 (qm h.2) cs.length 0 (cs.length+1) _ (by omega) (by omega)⟩
theorem qxW:∀ (as0:List Bool) (c1:UInt8),∃ n,qtO n as0 c1=qtN (z134 as0 c1):=fun as c=>⟨0,by
 unfold qtO;rw [qaV,qkV];rfl⟩
theorem qxX:∀ (s0:List UInt8) (c1:UInt8),(qrS s0 c1=true)→∃ n,qtJ n s0 c1=qmj (z123 s0 c1):=fun _ _ h=>by cases h
theorem qxY:∀ (s0:List UInt8) (c1:UInt8),(qrT s0 c1=true)→∃ n,qtL n s0 c1=qtK (z124 s0 c1):=fun _ _ h=>by cases h
theorem qkX (k0:List UInt8→Option AV) (as:List Bool):∀ (d:Nat) (s:List UInt8) (n:Nat),s.length=d→d < n→s.length≤1048576 →
 qfa k0 n s as=k0 (z127 s as)
 | d,s,0,hd,hn,hl=>by omega
 | d,s,n+1,hd,hn,hl=>by
  show qfK k0 (qfa k0 n) n s as=_;unfold qfK qap z127;rcases List.eq_nil_or_concat s with rfl | ⟨t,x,rfl⟩
  ·rfl
  ·rw [List.concat_eq_append] at *
   have hlen:(t++[x]).length=t.length+1:=by simp
   have ih:=qkX k0 as t.length t n rfl (by omega) (by omega);have hg:(t++[x]).getD (Int.toNat (((t++[x]).length:Int) - 1)) 0=x:=by
    rw [show Int.toNat (((t++[x]).length:Int) - 1)=t.length by omega]; simp
   have ht:List.take (Int.toNat (((t++[x]).length:Int) - 1)) (t++[x])=t:=by
    rw [show Int.toNat (((t++[x]).length:Int) - 1)=t.length by omega]; simp
   simp (disch:=omega) only [wr,dT,yc,yi,hg,ht,quA];cases z134 as x with
   | true=>simpa [z127] using ih
   | false=>rfl
theorem qxZ:∀ (s0:List UInt8) (as1:List Bool),(qkl s0 as1=true)→∃ n,qoJ n s0 as1=qtP (z127 s0 as1):=fun s as h=>⟨s.length+1,by
 unfold qoJ;rw [qkX _ as s.length s _ rfl (by omega) (qm h)];rfl⟩
theorem qkY (k0:List UInt8→Option AV) (as:List Bool):∀ (d:Nat) (s:List UInt8) (n:Nat),s.length=d→d < n→s.length≤1048576 →
 qeZ k0 n s as=k0 (z126 s as)
 | d,s,0,hd,hn,hl=>by omega
 | d,[],n+1,hd,hn,hl=>rfl
 | d,x :: s,n+1,hd,hn,hl=>by
  show qfJ k0 (qeZ k0 n) n (x :: s) as=_;unfold qfJ z126;have hlen:(x :: s).length=s.length+1:=rfl;have ih:=qkY k0 as s.length s n rfl (by omega) (by omega);have hg:(x :: s).getD (Int.toNat 0) 0=x:=rfl;have ht:List.drop (Int.toNat 1) (List.take (Int.toNat ((x :: s).length:Int)) (x :: s))=s:=by
   rw [tn,List.take_length]; rfl
  simp (disch:=omega) only [dT,yc,yi,hg,ht,List.dropWhile_cons];cases z134 as x with
  | true=>simpa [z126] using ih
  | false=>rfl
theorem qya:∀ (s0:List UInt8) (as1:List Bool),(qkk s0 as1=true)→∃ n,qoI n s0 as1=qmk (z126 s0 as1):=fun s as h=>⟨s.length+1,by
 unfold qoI;rw [qkY _ as s.length s _ rfl (by omega) (qm h)];unfold qdS;cases hc:z126 s as with
 | nil=>rfl
 | cons x r=>rfl⟩
theorem qyb:∀ (s0:List UInt8) (cutset1:List UInt8),(qhy s0 cutset1=true)→∃ n,qtQ n s0 cutset1=qcn (z112 s0 cutset1):=fun s cs h=>⟨0,by
 unfold qhy at h;simp only [yf,ym] at h;obtain ⟨h1,h2,h3,h4⟩:=h;have hls:=qm h1;unfold qtQ qdT qbc;cases s with
 | nil=>rfl
 | cons x r =>
  have hcs:(cs==([]:List UInt8))=false:=by cases cs with
   | nil=>simp at h2
   | cons a b=>rfl
  have hlen:(x :: r).length=r.length+1:=rfl;have hm:qgx cs=true:=by unfold qgx; rw [h3,h4]; rfl
  have hr:qkk (z127 (x :: r) (z125 cs).1) (z125 cs).1=true:=qn (yL (quB _ _) hls);rw [bneI (by omega),hcs,bneI (by omega),hm,show (z125 cs).2=true from rfl,show qkl (x :: r) (z125 cs).1=true from h1,hr,qEU];rfl⟩
theorem qBS:∀ (c0:UInt8),∃ n,qAX n c0=qoE (z44 c0):=fun c=>⟨0,by
 unfold qAX z44;cases decide ((65:UInt8)≤c) <;> cases decide (c≤(90:UInt8)) <;> rfl⟩
theorem qoW (k0:List UInt8→Option AV) (s:List UInt8) (hl:s.length≤1048576):∀ (d i n:Nat),i+d=s.length→d < n →
 qjg k0 n ((s.take i).map z44++s.drop i) (s.length:Nat) (i:Nat)=k0 (s.map z44)
 | d,i,0,hi,hn=>by omega
 | 0,i,n+1,hi,hn=>by
  show qex k0 (qjg k0 n) n _ _ _=_;unfold qex;rw [dF (by omega),yd,show i=s.length by omega,List.take_length,List.drop_length,yG]
 | d+1,i,n+1,hi,hn=>by
  show qex k0 (qjg k0 n) n _ _ _=_;unfold qex;have hlt:i < s.length:=by omega
  have ih:=qoW k0 s hl d (i+1) n (by omega) (by omega);have hlen:((s.take i).map z44++s.drop i).length=s.length:=by simp; omega
  have hg:((s.take i).map z44++s.drop i).getD i 0=s.getD i 0:=by
   rw [qz (d:=(0:UInt8)) hlt];simp [List.getD,Nat.min_eq_left (Nat.le_of_lt hlt)]
  have hs:=qEV z44 s i hlt;simp only at hs;simp (disch:=omega) only [dT,yc,yi,tn,qv,hlen,hg];rw [hs];exact ih
theorem qBT:∀ (s0:List UInt8),(qfm s0=true)→∃ n,qxy n s0=qyE (z28 s0):=fun s h=>⟨s.length+1,by
 unfold qxy;rw [show qbY s=true from h,show z43 s=s from rfl];exact qoW (qgO (s.length+1)) s (qm h) s.length 0 (s.length+1) (by omega) (by omega)⟩
theorem qBU:∀ (a0:List UInt8) (b1:List UInt8),∃ n,qEP n a0 b1=qyF (z33 a0 b1):=fun _ _=>⟨0,rfl⟩
theorem qBV:∀ (s0:List UInt8),(qpF s0=true)→∃ n,qBd n s0=qyJ (z92 s0):=fun s h=>⟨0,by
 have hl:=qm h;have h1:qhy s [32,9]=true:=by unfold qhy; rw [show lenOk s=true from h]; rfl
 have e:z112 s [32,9]=z92 s:=by unfold z112 z92; rw [qxQ]
 unfold qBd;rw [h1,e,show qbY (z92 s)=true from qn (yL (qoS _ _) hl)];rfl⟩
theorem qyc:∀ (c0:UInt8),∃ n,qtX n c0=qgR (z138 c0).1 (z138 c0).2:=fun c=>⟨0,by
 unfold qtX z138;have h:=(z44 c - 97).toNat_lt;rw [quD,quD,IntWalk.i64_in (((z44 c - 97).toNat:Int)+10) (by omega)];cases z77 (z44 c) 8 <;> cases decide ((97:UInt8)≤z44 c) <;> cases decide (z44 c≤(102:UInt8)) <;> rfl⟩
theorem qyd:∀ (a0:UInt8) (b1:UInt8),∃ n,qtY n a0 b1=qjj (z130 a0 b1).1 (z130 a0 b1).2:=fun a b=>⟨0,by
 unfold qtY z130;have h:=qBL (P:=fun x y=>UInt8.ofNat (Int.toNat (IntKind.wrap .u8 (bits .or .i64 (IntKind.wrap .i64 (x*2 ^ (min (Int.toNat (4:Int)) (IntKind.bits .i64)))) y)))=UInt8.ofNat (Int.toNat (x*16+y))) qBK (qhP a) (qhP b);rw [← h];cases (z138 a).2 <;> cases (z138 b).2 <;> rfl⟩
theorem qye:∀ (s0:List UInt8) (at1:Int) (sign2:UInt8),(qnp s0 at1 sign2=true)→∃ n,qtZ n s0 at1 sign2=qgS (z113 s0 at1 sign2).1 (z113 s0 at1 sign2).2:=fun s at1 sign h=>⟨0,by
 have hl:=qm h;unfold qtZ qgT z113
 by_cases h0:at1 < 0
 ·rw [yo h0,yx (show ¬ 0≤at1 by omega)]; rfl
 by_cases h1:IntKind.wrap .i64 (((List.length s:Nat):Int) - 3) < at1
 ·have h2:¬ at1≤(s.length:Int) - 3:=by rw [IntWalk.i64_in _ (by omega)] at h1; omega
  rw [yx h0,yo h1,yx h2,Bool.and_false]; rfl
 obtain ⟨i,rfl,hi⟩:=qqu s at1 hl h0 h1;rw [yx h0,yx h1,yd,yd,qaV,qpb,yo (show i < s.length by omega),yi,yc,qbH,qv (by omega),
  show IntKind.wrap .i64 ((i:Int)+2)=((i+2:Nat):Int) by rw [IntWalk.i64_in _ (by omega)]; omega,qaV,qaV,qpb,qpb,yo (show i+1 < s.length by omega),yo hi,qbH,qbH,
  yo (show (i:Int)≤(s.length:Int) - 3 by omega),yi,yc]
 unfold qzX;cases he:(List.getD s i 0==sign) with
 | true=>rw [show (List.getD s i 0 != sign)=false by simp only [bne,he,Bool.not_true]]; rfl
 | false=>rw [show (List.getD s i 0 != sign)=true by simp only [bne,he,Bool.not_false]]; rfl⟩
theorem qyf:∀ (s0:List UInt8) (suffix1:List UInt8),(qnq s0 suffix1=true)→∃ n,qut n s0 suffix1=qms (z102 s0 suffix1):=fun s t h=>⟨0,by
 have hl:=qm h;unfold qut z102
 by_cases hc:t.length≤s.length
 ·have e:IntKind.wrap .i64 ((s.length:Int) - (t.length:Int))=((s.length - t.length:Nat):Int):=by rw [IntWalk.i64_in _ (by omega)]; omega
  rw [e,tn,tn,List.take_length,dT hc];simp (disch:=omega) only [dT,yc,yi];rfl
 ·rw [dF hc,dF (by omega)]; rfl⟩
theorem qBW:∀ (b0:List UInt8) (c1:UInt8),∃ n,qEQ n b0 c1=qyH (z91 b0 c1):=fun _ _=>⟨0,rfl⟩
theorem quE (m:Nat) (s:List UInt8) (hl:s.length≤1048576):∀ (d i n:Nat),i+d=s.length→d < n →
 qml (qgV m) n ((s.take i).map (fun c:UInt8=>(c.toNat:Int))++List.replicate (s.length - i) 0) s (s.length:Nat) (i:Nat)=qug (s.map fun c:UInt8=>(c.toNat:Int))
 | d,i,0,hi,hn=>by omega
 | 0,i,n+1,hi,hn=>by
  obtain rfl:i=s.length:=by omega
  show qey _ _ n _ _ _ _=_;unfold qey;rw [dF (by omega),Nat.sub_self,List.take_length];simp only [yd,List.replicate_zero,yG];rfl
 | d+1,i,n+1,hi,hn=>by
  show qey _ _ n _ _ _ _=_;unfold qey;have hlen:((s.take i).map (fun c:UInt8=>(c.toNat:Int))++List.replicate (s.length - i) (0:Int)).length=s.length:=by
   rw [yn,yP,yz,List.length_replicate]; omega
  rw [hlen];simp (disch:=omega) only [dT,yc,yi,tn,qv];rw [qmz,qBM (fun c:UInt8=>((UInt8.toNat c:Nat):Int)) s 0 i (by omega) 0];exact quE m s hl d (i+1) n (by omega) (by omega)
theorem qBX:∀ (s0:List UInt8),(qpC s0=true)→∃ n,qxA n s0=qug (z72 s0):=fun s h=>⟨s.length+1,by
 have hl:=qm h;unfold qxA;have hr:((s.length:Nat):Int)≤(room:Int):=by unfold room; omega
 simp (disch:=omega) only [dT,yc,yi,tn];have:=quE (s.length+1) s hl s.length 0 (s.length+1) (by omega) (by omega);exact this⟩
theorem qBY:∀ (c0:Int),∃ n,qBm n c0=quh (z95 c0):=fun c=>⟨0,by
 unfold qBm z95;cases decide (128≤c) <;> rfl⟩
theorem qkZ (m:Nat) (t:List Int) (hl:t.length≤1048576):∀ (d i n:Nat),i+d=t.length→d < n →
 qmm (qgW m) n ((t.take i).map z95++t.drop i) (t.length:Nat) (i:Nat)=qui (t.map z95)
 | d,i,0,hi,hn=>by omega
 | 0,i,n+1,hi,hn=>by
  obtain rfl:i=t.length:=by omega
  show qez _ _ n _ _ _=_;unfold qez;rw [dF (by omega),List.drop_length,List.take_length,yG];rfl
 | d+1,i,n+1,hi,hn=>by
  show qez _ _ n _ _ _=_;unfold qez;have hlt:i < t.length:=by omega
  have hml:((t.take i).map z95).length=i:=by rw [yP,yz]; omega
  have hlen:((t.take i).map z95++t.drop i).length=t.length:=by
   rw [yn,hml,yK]; omega
  rw [hlen];simp (disch:=omega) only [dT,yc,yi,tn,qv];have hg:((t.take i).map z95++t.drop i).getD i 0=t[i]:=by
   rw [yY,yN (by omega),hml,Nat.sub_self,List.getElem?_drop,Nat.add_zero,yO hlt]; rfl
  have hs:((t.take i).map z95++t.drop i).set i (z95 t[i])=(t.take (i+1)).map z95++t.drop (i+1):=by
   rw [List.set_append_right _ _ (by omega),hml,Nat.sub_self,List.drop_eq_getElem_cons hlt,List.set_cons_zero,List.take_succ_eq_append_getElem hlt,List.map_append,yl];rfl
  rw [hg,hs];exact qkZ m t hl d (i+1) n (by omega) (by omega)
theorem qBZ:∀ (s0:List UInt8),(qvH s0=true)→∃ n,qxB n s0=qui (z69 s0):=fun s h=>⟨s.length+1,by
 have hl:=qm h;unfold qxB;rw [show qpC s=true from h];have hlen:(z72 s).length=s.length:=by unfold z72; rw [yP]
 have:=qkZ (s.length+1) (z72 s) (by omega) s.length 0 (s.length+1) (by omega) (by omega);have e:(z72 s).map z95=z69 s:=by
  unfold z72 z69; rw [List.map_map]; rfl
 rw [e] at this;exact this⟩
theorem qCa:∀ (x0:UInt8),∃ n,qxC n x0=qbE (z96 x0):=fun x=>⟨9,by
 have e:qxC 9 x=bif (164:UInt8)==x then qbE 8364 else bif (166:UInt8)==x then qbE 352 else bif (168:UInt8)==x then qbE 353 else bif (180:UInt8)==x then qbE 381
  else bif (184:UInt8)==x then qbE 382 else bif (188:UInt8)==x then qbE 338 else bif (189:UInt8)==x then qbE 339 else bif (190:UInt8)==x then qbE 376 else qbE (IntKind.wrap .i32 ((UInt8.toNat x:Nat):Int)):=by rfl
 rw [e,qmz];unfold z96 z105;have hc:∀ k:UInt8,(k==x)=(x==k):=fun k=>by
  cases h:x==k with
  | true=>rw [beq_iff_eq] at h; subst h; simp
  | false=>rw [beq_eq_false_iff_ne] at h ⊢; exact fun e=>h e.symm
 simp only [hc];cases (x==(164:UInt8)) <;> cases (x==(166:UInt8)) <;> cases (x==(168:UInt8)) <;> cases (x==(180:UInt8)) <;> cases (x==(184:UInt8)) <;> cases (x==(188:UInt8)) <;> cases (x==(189:UInt8)) <;> cases (x==(190:UInt8)) <;> rfl⟩
theorem qCb:∀ (s0:List UInt8),(qvF s0=true)→∃ n,qxD n s0=qyS (z70 s0):=fun s h=>⟨s.length+1,by
 have hl:=qm h;unfold qxD;have:=qmA (t:=s) (dv:=0) (f:=fun c=>[z96 c]) (q:=fun _=>true) (b:=1) (k0:=qeB (s.length+1)) (R:=none)
  (L:=fun n out i=>qmn (qeB (s.length+1)) n out s (s.length:Nat) i) (fun x=>yv 1) (fun n i out hi hb=>by
   show qeA _ _ n _ _ _ _=_;unfold qeA;have hr:out.length+([z96 (s.getD i 0)]:List Int).length≤room:=hb;simp (disch:=omega) only [dT,yc,yi,tn,qv];all_goals (rw [dT hr])
   all_goals rfl) (fun n out=>by
   show qeA _ _ n _ _ _ _=_;unfold qeA;rw [dF (by omega)]; rfl) s.length 0 (s.length+1) [] (by omega) (by omega) (by show 0+_≤room; unfold room; omega)
 rw [yw,qmC,yc,List.nil_append,qmB] at this;exact this⟩
theorem qCc:∀ (s0:List UInt8),(qvG s0=true)→∃ n,qxE n s0=qyU (z71 s0):=fun s h=>⟨s.length+1,by
 have hl:=qm h;unfold qxE;have hr:((s.length:Nat):Int)≤(room:Int):=by unfold room; omega
 have:=qmA (t:=s) (dv:=0) (f:=fun c=>[z97 c]) (q:=fun _=>true) (b:=1) (k0:=qeD (s.length+1)) (R:=none)
  (L:=fun n out i=>qmo (qeD (s.length+1)) n out s (s.length:Nat) i) (fun x=>yv 1) (fun n i out hi hb=>by
   show qeC _ _ n _ _ _ _=_;unfold qeC;have hr:out.length+([z97 (s.getD i 0)]:List Int).length≤room:=hb;simp (disch:=omega) only [dT,yc,yi,tn,qv];all_goals (rw [dT hr])
   all_goals rfl) (fun n out=>by
   show qeC _ _ n _ _ _ _=_;unfold qeC;rw [dF (by omega)]; rfl) s.length 0 (s.length+1) [] (by omega) (by omega) (by show 0+_≤room; unfold room; omega)
 rw [yw,qmC,yc,List.nil_append,qmB] at this;simp (disch:=omega) only [dT,yc,yi];exact this⟩
theorem qCd:∀ (charset0:Int) (s1:List UInt8),(qvI charset0 s1=true)→∃ n,qBo n charset0 s1=qhI (z50 charset0 s1):=fun cs s h=>⟨0,by
 have h':lenOk s=true:=h;unfold qBo z50;rw [show qvH s=true from h',show qvF s=true from h',show qvG s=true from h',show qpB s=true from h',show qpC s=true from h'];cases (cs==(1:Int)) <;> cases (cs==(3:Int)) <;> cases (cs==(4:Int)) <;> cases (cs==(5:Int)) <;> rfl⟩
theorem qCe:∃ n,qBc n  = qyI (z66 ):=⟨10,by kernel_rfl⟩
theorem qCf:∀ (s0:List UInt8),(qvJ s0=true)→∃ n,qBe n s0=qtR (z67 s0):=fun s h=>⟨0,by
 have hl:=qm h;have ht:=qcV 42 s;have hlt:=ib_lt s 42;unfold qBe z67;rw [← ht]
 by_cases hi:(0:Int)≤Lib.indexByte s 42
 ·rw [show decide ((0:Int)≤z91 s 42)=true from dT hi,dT hi,yc,yc];rw [show z91 s 42=Lib.indexByte s 42 from rfl,dT (show (0:Int)≤((0:Nat):Int) by omega),dT (show ((0:Nat):Int)≤Lib.indexByte s 42 by omega),dT (show Lib.indexByte s 42≤((s.length:Nat):Int) by omega)];have hk:qpF (List.drop (Int.toNat ((0:Nat):Int)) (List.take (Int.toNat (Lib.indexByte s 42)) s))=true:=qn (by rw [tn,yw,yz]; omega);rw [hk];rfl
 ·rw [show decide ((0:Int)≤z91 s 42)=false from dF hi,dF hi,yd,yd,show qpF s=true from h];rfl⟩
theorem qyg:∀ (c0:UInt8),∃ n,qub n c0=qdg (z117 c0):=fun c=>⟨0,by
 unfold qub z117 qe;cases decide (c < 128) <;> cases decide (c < 194) <;> cases decide (244 < c) <;> cases decide (c < 224) <;> cases decide (c < 240) <;> rfl⟩
theorem qyh:∀ (first0:UInt8) (c1:UInt8),∃ n,que n first0 c1=qbw (z132 first0 c1):=fun f c=>⟨0,by
 unfold que z132;cases (f==224) <;> cases (f==237) <;> cases (f==240) <;> cases (f==244) <;> cases decide (160≤c) <;> cases decide (c < 160) <;> cases decide (144≤c) <;> cases decide (c < 144) <;> rfl⟩
theorem quF (m:Nat) (x:UInt8) (r:List UInt8) (hl:r.length≤1048576):∀ (d i n:Nat),qe x=i+d→1≤i→i≤r.length+1→d < n →
 qfb qaD (qah m) n (x :: r) (i:Nat)=qaD ((i+runB x d (i==1) (r.drop (i - 1)):Nat):Int)
 | d,i,0,_,_,_,hn=>by omega
 | 0,i,n+1,hs,hi,hr,hn=>by
  show qbq _ _ _ n _ _=_;unfold qbq;have e0:z117 (List.getD (x :: r) (Int.toNat 0) 0)=((qe x:Nat):Int):=rfl;have h0:decide ((0:Int) < (((x :: r).length:Nat):Int))=true:=dT (by simp only [yg]; omega);rw [e0,h0,dF (show ¬ ((i:Nat):Int) < ((qe x:Nat):Int) by omega)];have hr0:runB x 0 (i==1) (r.drop (i - 1))=0:=by cases r.drop (i - 1) <;> rfl
  rw [hr0];show qah m (x :: r) ((i:Nat):Int)=_;unfold qah;rw [e0,h0];show qaD (bif decide (((qe x:Nat):Int) < ((i:Nat):Int)) then _ else _)=_;rw [dF (by omega)]; rfl
 | d+1,i,n+1,hs,hi,hr,hn=>by
  show qbq _ _ _ n _ _=_;unfold qbq;have e0:z117 (List.getD (x :: r) (Int.toNat 0) 0)=((qe x:Nat):Int):=rfl;have h0:decide ((0:Int) < (((x :: r).length:Nat):Int))=true:=dT (by simp only [yg]; omega);rw [e0,h0,dT (show ((i:Nat):Int) < ((qe x:Nat):Int) by omega)];simp only [yc,yi,show decide ((0:Int)≤0)=true from rfl]
  by_cases hlt:i < (x :: r).length
  ·have hlt':i - 1 < r.length:=by simp only [yg] at hlt; omega
   obtain ⟨y,hy⟩:∃ y,r.getD (i - 1) 0=y:=⟨_,rfl⟩;have hg:(x :: r).getD i 0=y:=by
    obtain ⟨k,rfl⟩:∃ k,i=k+1:=⟨i - 1,by omega⟩;exact hy
   have hdr:r.drop (i - 1)=y :: r.drop i:=by
    have:=qoT hlt';rw [this,hy,show i - 1+1=i by omega]
   rw [dT (show ((i:Nat):Int) < (((x :: r).length:Nat):Int) by omega),dT (show (0:Int)≤((i:Nat):Int) by omega),tn,hg,hdr];simp only [yc,yi];have hrun:runB x (d+1) (i==1) (y :: r.drop i)=bif z131 y&&(!(i==1)||z132 x y) then runB x d false (r.drop i)+1 else 0:=rfl
   have ih:=quF m x r hl d (i+1) n (by omega) (by omega) (by simp only [yg] at hlt; omega) (by omega);rw [show i+1 - 1=i by omega,show (i+1==1)=false by simp; omega] at ih;rw [hrun];cases hf:z131 y with
   | false=>simp only [Bool.not_false,yc,Bool.false_and,yd,Nat.add_zero]
   | true =>
    simp only [Bool.not_true,yd,y4];have hfin:qfb qaD (qah m) n (x :: r) (IntKind.wrap .i64 (((i:Nat):Int)+1))=qaD ((i+(runB x d false (r.drop i)+1):Nat):Int):=by
     rw [qv (by omega),ih,show i+1+runB x d false (r.drop i)=i+(runB x d false (r.drop i)+1) by omega]
    by_cases h1:i=1
    ·subst h1;rw [show (((1:Nat):Int)==1)=true from rfl,show ((1:Nat)==1)=true from rfl,yc,dT (show (1:Int) < (((x :: r).length:Nat):Int) by omega)];simp only [show decide ((0:Int)≤1)=true from rfl,yi,yc];have e1:List.getD (x :: r) (Int.toNat 1) 0=y:=hg;have e2:List.getD (x :: r) (Int.toNat 0) 0=x:=rfl;rw [e1,e2];cases hs2:z132 x y with
     | false=>rfl
     | true =>
      simp only [Bool.not_true,yd,Bool.false_or,yc];exact hfin
    ·rw [show (((i:Nat):Int)==1)=false by simp; omega,show (i==1)=false by simpa using h1];simp only [yd,Bool.not_false,Bool.true_or,yc];exact hfin
  ·have hi2:i=r.length+1:=by simp only [yg] at hlt; omega
   rw [dF (show ¬ ((i:Nat):Int) < (((x :: r).length:Nat):Int) by omega),yd,yA (by omega)];show qah m (x :: r) ((i:Nat):Int)=qaD ((i+0:Nat):Int);unfold qah;rw [e0,h0];show qaD (bif decide (((qe x:Nat):Int) < ((i:Nat):Int)) then _ else _)=_;rw [dF (by omega)]; rfl
theorem qyi:∀ (s0:List UInt8),(qhx s0=true)→∃ n,qoL n s0=qaD (z116 s0):=fun s h=>⟨6,by
 unfold qhx at h;rw [yf] at h;have hl:=qm h.1;match s,h.2 with
 | x :: r,_ =>
  simp only [yg] at hl;have h4:=qoU x;have ef:z116 (x :: r)=((bif qe x==0 then 0 else 1+runB x (qe x - 1) true r:Nat):Int):=rfl;unfold qoL;rw [ef]
  by_cases h0:qe x=0
  ·rw [show (qe x==0)=true by simpa using h0,yc];have e0:z117 (List.getD (x :: r) (Int.toNat 0) 0)=((qe x:Nat):Int):=rfl;have h0':decide ((0:Int) < (((x :: r).length:Nat):Int))=true:=dT (by simp only [yg]; omega);show qbq qaD (qah 6) _ 5 (x :: r) 1=_;unfold qbq;rw [e0,h0',dF (show ¬ (1:Int) < ((qe x:Nat):Int) by omega)];show qah 6 (x :: r) 1=_;unfold qah;rw [e0,h0'];show qaD (bif decide (((qe x:Nat):Int) < (1:Int)) then ((qe x:Nat):Int) else _)=_;rw [dT (by omega),h0]; rfl
  ·rw [show (qe x==0)=false by simpa using h0,yd];have:=quF 6 x r (by omega) (qe x - 1) 1 6 (by omega) (yv 1) (by omega) (by omega);rw [show (1:Nat) - 1=0 from rfl,yw] at this;exact this⟩
theorem qCg:∀ (c0:Int) (e1:Int) (x2:List Int),(qvM c0 e1 x2=true)→∃ n,qBk n c0 e1 x2=qua (z74 c0 e1 x2):=fun c e t h=>⟨0,by
 have hl:t.length≤2097152:=of_decide_eq_true h;unfold qBk z74;have hr:∀ y:Int,t.length+([y]:List Int).length≤room:=fun y=>by show t.length+1≤room; unfold room; omega
 rw [dT (hr 65533),dT (hr c)];cases (e != 0) <;> rfl⟩
theorem qCh:∀ (s0:List UInt8),(qpB s0=true)→∃ n,qBl n s0=qyQ (z51 s0):=fun s h=>⟨0,by
 unfold qBl;have hok:qcA s []=true:=by unfold qcA; rw [show lenOk s=true from h]; rfl
 first
  | (rw [hok]; rfl)
  | rfl⟩
theorem quG (ret:Bool→Option AV) (a b:List Int) (hab:a.length=b.length) (hl:a.length≤1048576):∀ (d i n:Nat),i+d=a.length→d < n →
 qjs ret (ret true) n a b (i:Nat)=ret (decide (a.drop i=b.drop i))
 | d,i,0,hi,hn=>by omega
 | 0,i,n+1,hi,hn=>by
  show qeK ret (ret true) (qjs ret (ret true) n) n a b _=_;unfold qeK;rw [yx (by omega),yd,yA (by omega),yA (by omega)];rfl
 | d+1,i,n+1,hi,hn=>by
  show qeK ret (ret true) (qjs ret (ret true) n) n a b _=_;unfold qeK;have hlt:i < a.length:=by omega
  have hlt':i < b.length:=by omega
  have ih:=quG ret a b hab hl d (i+1) n (by omega) (by omega);simp (disch:=omega) only [dT,yc,yi,tn,qv];rw [ih,qoR hlt hlt' 0];cases (a.getD i 0 != b.getD i 0) <;> rfl
theorem qCi:∀ (a0:List Int) (b1:List Int),(qpD a0 b1=true)→∃ n,qxK n a0 b1=qhM (z10 a0 b1):=fun a b h=>⟨a.length+1,by
 unfold qxK z10
 by_cases hab:a.length=b.length
 ·rw [show (((a.length:Nat):Int) != ((b.length:Nat):Int))=false by simp [hab],yd];exact quG qhM a b hab (qm h) a.length 0 (a.length+1) (by omega) (by omega)
 ·rw [show (((a.length:Nat):Int) != ((b.length:Nat):Int))=true by simp only [bne_iff_ne,ne_eq]; omega,yc,yx (fun e=>hab (by rw [e]))]⟩
theorem qCj:∀ (s0:List UInt8) (sep1:List UInt8),(qkj s0 sep1=true)→∃ n,qAZ n s0 sep1=qtH (z65 s0 sep1).1 (z65 s0 sep1).2.1 (z65 s0 sep1).2.2:=fun s sep h=>⟨0,by
 have h0:=h;unfold qkj at h;rw [yf] at h;have hl:=qm h.1;have hl2:=qm (yf _ _ ▸ h.2).1;unfold qAZ z65 z89;rw [show qrR s sep=true from h0]
 by_cases h1:0≤Lib.index s sep
 ·have hr:=Lib.index_room s sep h1;have e:IntKind.wrap .i64 (Lib.index s sep+((sep.length:Nat):Int))=Lib.index s sep+((sep.length:Nat):Int):=IntWalk.i64_in _ (by omega);rw [e,yo h1,yo (show (0:Int)≤((0:Nat):Int) by omega),yo (show ((0:Nat):Int)≤Lib.index s sep by omega),yo (show Lib.index s sep≤((s.length:Nat):Int) by omega),
   yo (show (0:Int)≤Lib.index s sep+((sep.length:Nat):Int) by omega),yo (show Lib.index s sep+((sep.length:Nat):Int)≤((s.length:Nat):Int) by omega),yo (Int.le_refl ((s.length:Nat):Int)),qbH,qbH,List.take_length,
   show Int.toNat (Lib.index s sep+((sep.length:Nat):Int))=(Lib.index s sep).toNat+sep.length by omega]
  rfl
 ·rw [yx h1]; rfl⟩
theorem qCk:∀ (a0:List UInt8) (b1:List UInt8),(qlC a0 b1=true)→∃ n,qAY n a0 b1=qyG (z19 a0 b1):=fun a b h=>⟨0,by
 unfold qlC at h;simp only [yf] at h;unfold qAY;rw [show qfm a=true from h.1,show qfm b=true from h.2];rfl⟩
theorem qCl:∀ (s0:List UInt8) (suffix1:List UInt8),(qxh s0 suffix1=true)→∃ n,qBz n s0 suffix1=quu (z80 s0 suffix1).1 (z80 s0 suffix1).2:=fun s t h=>⟨0,by
 have hl:=qm h;unfold qBz z80;rw [show qnq s t=true from h]
 by_cases hc:t.length≤s.length
 ·have e:IntKind.wrap .i64 ((s.length:Int) - (t.length:Int))=((s.length - t.length:Nat):Int):=by rw [IntWalk.i64_in _ (by omega)]; omega
  rw [e,tn];simp (disch:=omega) only [dT,yc,yi];cases z102 s t <;> rfl
 ·have e:z102 s t=false:=by unfold z102; rw [dF hc]; rfl
  rw [e]; rfl⟩
def qCm (x:UInt8):Bool:=decide (x < 128)||(decide (160≤x)||((decide ((0:Int)≤((UInt8.toNat (x - (128:UInt8)):Nat):Int)))&&(decide (((UInt8.toNat (x - (128:UInt8)):Nat):Int) < (List.length z115:Nat))) &&
 ((bif ((List.getD z115 (Int.toNat ((UInt8.toNat (x - (128:UInt8)):Nat):Int)) (0:Int)) != (0:Int)) then (List.getD z115 (Int.toNat ((UInt8.toNat (x - (128:UInt8)):Nat):Int)) (0:Int)) else 65533)==z106 x)))
theorem quH:∀ i:Fin 256,qCm (UInt8.ofNat i.val)=true:=by decide +kernel
theorem qCn:∀ (x0:UInt8),∃ n,qBn n x0=qkO (z97 x0):=fun x=>⟨0,by
 have hm:=qnr (P:=fun x=>qCm x=true) quH x;unfold qBn qdX z97;rw [qmz];cases h1:decide (x < (128:UInt8)) with
 | true=>unfold z106; rw [h1]; rfl
 | false =>
  cases h2:decide ((160:UInt8)≤x) with
  | true =>
   have h3:decide ((159:UInt8) < x)=true:=by
    have h2':=of_decide_eq_true h2;apply yo;rw [UInt8.le_iff_toNat_le] at h2';rw [UInt8.lt_iff_toNat_lt];exact h2'
   unfold z106; rw [h1,h3]; rfl
  | false =>
   unfold qCm at hm;rw [h1,h2,Bool.false_or,Bool.false_or,yf,beq_iff_eq] at hm;rw [yd,yd,hm.1,yc,← hm.2];cases ((List.getD z115 (Int.toNat ((UInt8.toNat (x - (128:UInt8)):Nat):Int)) (0:Int)) != (0:Int)) <;> rfl⟩
theorem qoX (k:List UInt8):∀ l:List (List UInt8×Int),@findM .str (.int .i64) k l=qvK k l
 | []=>rfl
 | p :: l=>by
  show (bif k==p.1 then some p.2 else @findM .str (.int .i64) k l)=_;rw [qoX k l]; rfl
theorem qEW (s:List UInt8):(z67 s).length≤s.length:=by
 unfold z67 z92;exact yL (qoS _ _) (qeV _ _)
theorem qCo:∀ (s0:List UInt8),(qvL s0=true)→∃ n,qBf n s0=qtS (z47 s0).1 (z47 s0).2:=fun s h=>⟨0,by
 have hl:=qm h;have hb:=qEW s;unfold qBf z47;rw [show qvJ s=true from h,show qfm (z67 s)=true from qn (by omega),qoX];cases qvK (z28 (z67 s)) z66 <;> rfl⟩
theorem qla:∀ i:Fin 256,(((UInt8.ofNat i.val) &&& ~~~ (63:UInt8))==(128:UInt8))=z131 (UInt8.ofNat i.val):=by decide +kernel
theorem qyj:∀ (c0:UInt8),∃ n,qud n c0=quc (z131 c0):=fun c=>⟨0,by
 unfold qud;rw [qnr (P:=fun c=>((c &&& ~~~ (63:UInt8))==(128:UInt8))=z131 c) qla c]⟩
theorem qyZ:∀ (f:UInt8) (n:Nat) (one:Bool) (s:List UInt8),runB f n one s≤n∧runB f n one s≤s.length
 | f,0,one,s=>by cases s <;> exact ⟨yv _,Nat.zero_le _⟩
 | f,n+1,one,[]=>⟨Nat.zero_le _,Nat.zero_le _⟩
 | f,n+1,one,x :: r=>by
  have ih:=qyZ f n false r;show (bif z131 x&&(!one||z132 f x) then runB f n false r+1 else 0)≤n+1∧(bif z131 x&&(!one||z132 f x) then runB f n false r+1 else 0)≤r.length+1;cases z131 x&&(!one||z132 f x)
  ·exact ⟨Nat.zero_le _,Nat.zero_le _⟩
  ·simp only [yc]; omega
theorem qCp (a b:Nat) (hb:b < 64) (h:a*64+b < 2147483648):bits .or .i32 ((a*64:Nat):Int) (b:Int)=((a*64+b:Nat):Int):=by
 have h1:(BitVec.ofInt 32 ((a*64:Nat):Int)).toNat=a*64:=by rw [BitVec.toNat_ofInt]; omega
 have h2:(BitVec.ofInt 32 ((b:Nat):Int)).toNat=b:=by rw [BitVec.toNat_ofInt]; omega
 have h3:(BitVec.ofInt 32 ((a*64:Nat):Int) ||| BitVec.ofInt 32 (b:Int)).toNat=a*64+b:=by
  rw [BitVec.toNat_or,h1,h2];have:=Nat.shiftLeft_add_eq_or_of_lt (i:=6) hb a;rw [Nat.shiftLeft_eq] at this;exact this.symm
 show IntKind.wrap .i32 (((BitVec.ofInt 32 ((a*64:Nat):Int) ||| BitVec.ofInt 32 (b:Int)).toNat:Nat):Int)=_;rw [h3,IntWalk.i32_in _ (by omega)]
def foldS (t:List UInt8) (c:Int):Int:=t.foldl (fun c y=>c*64+((y &&& 63).toNat:Int)) c
theorem quI:∀ i:Fin 256,((UInt8.ofNat i.val) &&& (63:UInt8)).toNat < 64:=by decide +kernel
theorem low6 (y:UInt8):(y &&& 63).toNat < 64:=qnr (P:=fun y=>(y &&& 63).toNat < 64) quI y
theorem qhQ (m:Nat) (t:List UInt8) (n5:Int) (hl:t.length≤1048576):∀ (d i n b c:Nat),i+d=t.length→d < n→c < b→b*64 ^ d≤67108864 →
 qfc (qcF m) n n5 (c:Int) t (t.length:Nat) (i:Nat)=qdV (foldS (t.drop i) c) n5 0
 | d,i,0,b,c,hi,hn,_,_=>by omega
 | 0,i,n+1,b,c,hi,hn,_,_=>by
  obtain rfl:i=t.length:=by omega
  show qcE _ _ n _ _ _ _ _=_;unfold qcE;rw [dF (by omega),yd,List.drop_length];rfl
 | d+1,i,n+1,b,c,hi,hn,hc,hb=>by
  show qcE _ _ n _ _ _ _ _=_;unfold qcE;have hlt:i < t.length:=by omega
  have h64:0 < 64 ^ d:=Nat.pow_pos (by decide);have hb':b*64*64 ^ d≤67108864:=by rw [Nat.pow_succ] at hb; rwa [Nat.mul_assoc,Nat.mul_comm 64]
  have hb2:b*64≤b*64*64 ^ d:=Nat.le_mul_of_pos_right _ h64;have hy:=low6 (t.getD i 0);simp (disch:=omega) only [dT,yc,yi,tn];have e1:IntKind.wrap .i32 ((c:Int)*2 ^ (min (Int.toNat (6:Int)) (IntKind.bits .i32)))=((c*64:Nat):Int):=by
   show IntKind.wrap .i32 ((c:Int)*64)=_;rw [IntWalk.i32_in _ (by omega)]; omega
  rw [e1,IntWalk.i32_in _ (by omega),qCp _ _ hy (by omega),qv (by omega),qhQ m t n5 hl d (i+1) n (b*64) _ (by omega) (by omega) (by omega) hb',qoT hlt];show _=qdV (foldS (t.drop (i+1)) ((c:Int)*64+(((t.getD i 0) &&& 63).toNat:Int))) n5 0;congr 2
theorem quJ:∀ i:Fin 256,∀ n:Fin 5,((UInt8.ofNat i.val) &&& ~~~ (z118 ((n.val:Nat):Int)))=((UInt8.ofNat i.val) &&& (255 ^^^ (z118 ((n.val:Nat):Int)))):=by decide +kernel
theorem qEX (x:UInt8) (n:Nat) (hn:n < 5):(x &&& ~~~ (z118 ((n:Nat):Int)))=(x &&& (255 ^^^ (z118 ((n:Nat):Int)))):=qnr (P:=fun x=>∀ n:Fin 5,(x &&& ~~~ (z118 ((n.val:Nat):Int)))=(x &&& (255 ^^^ (z118 ((n.val:Nat):Int))))) quJ x ⟨n,hn⟩
theorem qza (x:UInt8) (r:List UInt8):farN (x :: r)≤qe x∧farN (x :: r)≤r.length+1:=by
 show (bif qe x==0 then 0 else 1+runB x (qe x - 1) true r)≤_∧(bif qe x==0 then 0 else 1+runB x (qe x - 1) true r)≤_;have:=qyZ x (qe x - 1) true r;cases h:qe x==0 with
 | true=>exact ⟨Nat.zero_le _,Nat.zero_le _⟩
 | false =>
  rw [beq_eq_false_iff_ne] at h;simp only [yd]; omega
theorem qCq:∀ (s0:List UInt8),(qvE s0=true)→∃ n,qxz n s0=qdV (z98 s0).1 (z98 s0).2.1 (z98 s0).2.2:=fun s h=>⟨s.length+5,by
 have hl:=qm h;match s with
 | []=>rfl
 | x :: r =>
  simp only [yg] at hl;have hf:=qza x r;have h4:=qoU x;obtain ⟨N,hN⟩:∃ N,farN (x :: r)=N:=⟨_,rfl⟩;have eT:z98 (x :: r)=bif farN (x :: r)==0 then ((0:Int),((1:Int),(3:Int))) else bif decide (farN (x :: r) < qe x)&&(farN (x :: r)==(x :: r).length) then (0,(farN (x :: r):Nat),4)
   else bif decide (farN (x :: r) < qe x) then (0,(farN (x :: r):Nat),3) else (signN (farN (x :: r)) (x :: r),(farN (x :: r):Nat),0):=rfl
  have eF:z116 (x :: r)=(N:Int):=by rw [← hN]; rfl
  have eS:z117 (List.getD (x :: r) (Int.toNat 0) 0)=((qe x:Nat):Int):=rfl;have hok:qhx (x :: r)=true:=by
   unfold qhx;rw [qn (show (x :: r).length≤1048576 by simp only [yg]; omega)]; rfl
  have h0:decide ((0:Int) < (((x :: r).length:Nat):Int))=true:=dT (by simp only [yg]; omega);have h00:((((x :: r).length:Nat):Int)==0)=false:=by rw [beq_eq_false_iff_ne]; simp only [yg]; omega
  rw [eT,hN];rw [hN] at hf;unfold qxz qfN qfM qdW qcG qbP;rw [eF,eS,hok,h0,h00];simp only [yi,yc,yd,show decide ((0:Int)≤0)=true from rfl]
  by_cases hz:N=0
  ·subst hz; rfl
  ·rw [show (((N:Nat):Int)==0)=false by rw [beq_eq_false_iff_ne]; omega,show (N==0)=false by simpa using hz];simp only [yd]
   by_cases hs:N < qe x
   ·rw [dT (show ((N:Nat):Int) < ((qe x:Nat):Int) by omega),yo hs];simp only [yc,y4]
    by_cases hlN:N=(x :: r).length
    ·rw [show (((N:Nat):Int)==(((x :: r).length:Nat):Int))=true by rw [beq_iff_eq]; omega,show (N==(x :: r).length)=true by simpa using hlN];rfl
    ·rw [show (((N:Nat):Int)==(((x :: r).length:Nat):Int))=false by rw [beq_eq_false_iff_ne]; omega,show (N==(x :: r).length)=false by simpa using hlN];rfl
   ·rw [dF (show ¬ ((N:Nat):Int) < ((qe x:Nat):Int) by omega),yx hs];simp only [yd,Bool.false_and];rw [dT (show (1:Int)≤((N:Nat):Int) by omega),dT (show ((N:Nat):Int)≤(((x :: r).length:Nat):Int) by simp only [yg]; omega)];simp only [show decide ((0:Int)≤1)=true from rfl,yi,yc,tn];have e1:List.drop (Int.toNat 1) (List.take N (x :: r))=r.take (N - 1):=by
     obtain ⟨k,rfl⟩:∃ k,N=k+1:=⟨N - 1,by omega⟩;rfl
    have e2:List.getD (x :: r) (Int.toNat 0) 0=x:=rfl;rw [e1,e2,qEX x N (by omega)];have hx:=(x &&& (255 ^^^ z118 ((N:Nat):Int))).toNat_lt;have ht:(r.take (N - 1)).length=N - 1:=by rw [yz]; omega
    rw [IntWalk.i32_in _ (by omega)];have:=qhQ ((x :: r).length+5) (r.take (N - 1)) (N:Int) (by omega) (r.take (N - 1)).length 0 ((x :: r).length+5) 256 _ (by omega) (by simp only [yg]; omega) hx (by
     rw [ht];have:N - 1=0∨N - 1=1∨N - 1=2∨N - 1=3:=by omega
     rcases this with e | e | e | e <;> rw [e] <;> decide)
    rw [yw] at this;exact this⟩
theorem qEY (x:UInt8) (r:List UInt8):(z98 (x :: r)).2.1=((z98 (x :: r)).2.1.toNat:Int)∧(z98 (x :: r)).2.1.toNat≤r.length+1:=by
 have hf:=qza x r;show ((bif farN (x :: r)==0 then ((0:Int),((1:Int),(3:Int))) else bif decide (farN (x :: r) < qe x)&&(farN (x :: r)==(x :: r).length) then (0,(farN (x :: r):Nat),4)
  else bif decide (farN (x :: r) < qe x) then (0,(farN (x :: r):Nat),3) else (signN (farN (x :: r)) (x :: r),(farN (x :: r):Nat),0)).2.1=(((bif farN (x :: r)==0 then ((0:Int),((1:Int),(3:Int))) else bif decide (farN (x :: r) < qe x)&&(farN (x :: r)==(x :: r).length) then (0,(farN (x :: r):Nat),4)
  else bif decide (farN (x :: r) < qe x) then (0,(farN (x :: r):Nat),3) else (signN (farN (x :: r)) (x :: r),(farN (x :: r):Nat),0)).2.1.toNat:Nat):Int))∧(bif farN (x :: r)==0 then ((0:Int),((1:Int),(3:Int))) else bif decide (farN (x :: r) < qe x)&&(farN (x :: r)==(x :: r).length) then (0,(farN (x :: r):Nat),4)
  else bif decide (farN (x :: r) < qe x) then (0,(farN (x :: r):Nat),3) else (signN (farN (x :: r)) (x :: r),(farN (x :: r):Nat),0)).2.1.toNat≤r.length+1
 cases farN (x :: r)==0
 ·cases decide (farN (x :: r) < qe x)&&(farN (x :: r)==(x :: r).length)
  ·cases decide (farN (x :: r) < qe x)
   ·exact ⟨rfl,hf.2⟩
   ·exact ⟨rfl,hf.2⟩
  ·exact ⟨rfl,hf.2⟩
 ·exact ⟨rfl,by show 1≤_; omega⟩
theorem quK (m:Nat):∀ (n k:Nat) (s:List UInt8) (t:List Int),s.length < n→s.length < k→s.length≤1048576→t.length+s.length≤2097152 →
 qbr (qaT m) n s t=qbe (t++utfR k s)
 | 0,k,s,t,hn,_,_,_=>by omega
 | n+1,0,s,t,_,hk,_,_=>by omega
 | n+1,k+1,[],t,_,_,_,_=>by
  show qbe t=qbe (t++[]);rw [yG]
 | n+1,k+1,x :: r,t,hn,hk,hl,ht=>by
  show qcH _ (qbr (qaT m) n) n _ _=_;unfold qcH;simp only [yg] at hn hk hl ht;obtain ⟨e1,e2⟩:=qEY x r;have e3:=qrQ x r;rw [dT (show (0:Int) < (((x :: r).length:Nat):Int) by simp only [yg]; omega),show qvE (x :: r)=true from qn (by simp only [yg]; omega),
   show qvM (z98 (x :: r)).1 (z98 (x :: r)).2.2 t=true from yo (by omega)]
  generalize hw:(z98 (x :: r)).2.1.toNat=w at e1 e2 e3;rw [e1,dT (show (0:Int)≤(w:Int) by omega),dT (show (w:Int)≤(((x :: r).length:Nat):Int) by simp only [yg]; omega),dT (Int.le_refl _)];simp only [yc,yi,tn,List.take_length];have hd:((x :: r).drop w).length≤r.length:=by rw [yK,yg]; omega
  have hd2:((x :: r).drop w).length+1≤r.length+1:=by omega
  rw [quK m n k ((x :: r).drop w) (z74 (z98 (x :: r)).1 (z98 (x :: r)).2.2 t) (by omega) (by omega) (by omega) (by unfold z74; rw [yn]; show t.length+1+_≤_; omega)];show qbe _=qbe (t++((bif (z98 (x :: r)).2.2 != 0 then 65533 else (z98 (x :: r)).1) :: utfR k ((x :: r).drop (z98 (x :: r)).2.1.toNat)));rw [hw];unfold z74;rw [yl]; rfl
theorem qqv:∀ (s0:List UInt8) (f1:List Int),(qcA s0 f1=true)→∃ n,qjl n s0 f1=qbe (qzZ s0 f1):=fun s t h=>⟨s.length+1,by
 unfold qcA at h;rw [yf,ym] at h;have hl:=qm h.1;exact quK (s.length+1) (s.length+1) (s.length+1) s t (by omega) (by omega) hl (by omega)⟩
end Go.Av
