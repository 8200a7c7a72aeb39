import Derived.Test.YtmageajchmoomaaGreatDoorCtSh
import Derived.Test.YtmageajchmoomaaGreatDoorAvE
import Derived.Lib.IndexAny
import Derived.Lib.IndexMore
import Derived.Lib.IndexBytes
import Derived.Lib.TrimUEq
import Derived.Lib.MapLaws
import Derived.IntWalk
import Derived.KernelRfl
namespace Go.Av
set_option linter.unusedSimpArgs false
set_option linter.unusedVariables false
section
theorem qmz {α:Type} [DecidableEq α] {a b:List α} {i:Nat} (ha:i < a.length) (hb:i < b.length) (d:α):decide (a.drop i=b.drop i)=bif a.getD i d != b.getD i d then false else decide (a.drop (i+1)=b.drop (i+1)):=by
 rw [qbW (d:=d) ha,qbW (d:=d) hb];generalize a.getD i d=x;generalize b.getD i d=y
 by_cases h:x=y
 ·subst h; simp
 ·simp [h]
theorem qmS (ret:Bool→Option AV) (a b:List UInt8) (hab:a.length=b.length) (hl:a.length≤1048576):∀ (d i n:Nat),i+d=a.length→d < n →
 z7_l4 ret (ret true) n a b (i:Nat)=ret (decide (a.drop i=b.drop i))
 | d,i,0,hi,hn=>by omega
 | 0,i,n+1,hi,hn=>by
  show qer ret (ret true) (z7_l4 ret (ret true) n) n a b _=_;unfold qer;rw [decide_eq_false (by omega),yd,yA (by omega),yA (by omega)];rfl
 | d+1,i,n+1,hi,hn=>by
  show qer ret (ret true) (z7_l4 ret (ret true) n) n a b _=_;unfold qer;have hlt:i < a.length:=by omega
  have hlt':i < b.length:=by omega
  have ih:=qmS ret a b hab hl d (i+1) n (by omega) (by omega);rw [qoD,decide_eq_true hlt,yc,qiG,Bool.true_and,yc,Bool.true_and,qoD,decide_eq_true hlt',yc,qgj (by omega),qlc,ih,qmz hlt hlt' 0];cases (a.getD i 0 != b.getD i 0) <;> rfl
theorem qqT:∀ (a0:List UInt8) (b1:List UInt8),(z7_ok a0 b1=true)→∃ n,z7_sh n a0 b1=qin (z7 a0 b1):=fun a b h=>⟨a.length+1,by
 unfold z7_sh z7
 by_cases hab:a.length=b.length
 ·rw [show (((a.length:Nat):Int) != ((b.length:Nat):Int))=false by simp [hab],yd];exact qmS qin a b hab (qaV h) a.length 0 (a.length+1) (by omega) (by omega)
 ·rw [show (((a.length:Nat):Int) != ((b.length:Nat):Int))=true by simp only [bne_iff_ne,ne_eq]; omega,yc,decide_eq_false (fun e=>hab (by rw [e]))]⟩
theorem dT {p:Prop} [Decidable p] (h:p):decide p=true:=decide_eq_true h
theorem dF {p:Prop} [Decidable p] (h:¬ p):decide p=false:=decide_eq_false h
theorem tn (i:Nat):Int.toNat (i:Int)=i:=Int.toNat_natCast i
theorem qqU (f:UInt8→UInt8) (s:List UInt8) (i:Nat) (h:i < s.length):List.set (s.take i |>.map f |> fun l=>l++s.drop i) i (f (s.getD i 0))=(s.take (i+1)).map f++s.drop (i+1):=by
 have hg:=qbW (d:=(0:UInt8)) h;have hl:((s.take i).map f).length=i:=by simp; omega
 rw [hg,List.set_append_right _ _ (by omega),hl,Nat.sub_self,List.set_cons_zero];rw [show s.take (i+1)=s.take i++[s.getD i 0] by
  rw [List.take_add_one]; simp [List.getD,h]]
 simp
theorem qsp {P:UInt8→Prop} (h:∀ i:Fin 256,P (UInt8.ofNat i.val)) (c:UInt8):P c:=by
 have:=h ⟨c.toNat,c.toNat_lt⟩;simpa using this
theorem qkF {α β:Type} {t:List α} {dv:α} {f:α→List β} {q:α→Bool} {k0:List β→Option AV} {R:Option AV} {L:Nat→List β→Int→Option AV} {b:Nat} (hf:∀ x,(f x).length≤b)
 (hL:∀ (n i:Nat) (out:List β),i < t.length→out.length+b≤room→L (n+1) out (i:Int)=bif q (t.getD i dv) then L n (out++f (t.getD i dv)) ((i+1:Nat):Int) else R) (hE:∀ n out,L (n+1) out ((t.length:Nat):Int)=k0 out) :
 ∀ (d i n:Nat) (out:List β),i+d=t.length→d < n→out.length+b*d≤room→L n out (i:Int)=bif (t.drop i).all q then k0 (out++(t.drop i).flatMap f) else R
 | d,i,0,out,hi,hn,_=>by omega
 | 0,i,n+1,out,hi,hn,_=>by
  obtain rfl:i=t.length:=by omega
  rw [hE,yA (by omega)];simp
 | d+1,i,n+1,out,hi,hn,hb=>by
  have hlt:i < t.length:=by omega
  have hx:=hf (t.getD i dv);have hb':b*(d+1)=b*d+b:=by rw [Nat.mul_succ]
  have h0:0≤b*d:=Nat.zero_le _;rw [hL n i out hlt (by omega),qkF (α:=α) (β:=β) hf hL hE d (i+1) n _ (by omega) (by omega) (by rw [yn]; omega),qbW (d:=dv) hlt];simp only [List.all_cons,List.flatMap_cons,yl];cases q (t.getD i dv) <;> rfl
theorem qoh:∀ (charset0:Int),∃ n,qqQ n charset0=qeb (z61 charset0):=fun cs=>⟨0,by
 unfold qqQ z61;cases (cs==(1:Int)) <;> cases (cs==(2:Int)) <;> cases (cs==(3:Int)) <;> cases (cs==(4:Int)) <;> cases (cs==(5:Int)) <;> rfl⟩
theorem qkG {α β:Type} (f:α→β):∀ l:List α,l.flatMap (fun x=>[f x])=l.map f
 | []=>rfl
 | x :: r=>by rw [List.flatMap_cons,qkG f r]; rfl
theorem qkH {α:Type}:∀ l:List α,l.all (fun _=>true)=true
 | []=>rfl
 | _ :: r=>by rw [List.all_cons,qkH r]; rfl
structure PutI (name cs:List UInt8) (i:Nat) (st:PutT):Prop where
 e:st.1=true→i=0
 n:st.2.2.length+(bif st.1 then 0 else 1)≤i
 l:st.2.1.length≤name.length+cs.length+100
 l0:st.1=true→st.2.1.length≤name.length+cs.length+7
theorem qkI:∀ i:Fin 256,(bif decide ((65:UInt8)≤UInt8.ofNat i.val) then (bif decide (UInt8.ofNat i.val≤(90:UInt8)) then UInt8.ofNat i.val+32 else UInt8.ofNat i.val) else UInt8.ofNat i.val)=z30 (UInt8.ofNat i.val):=by decide +kernel
theorem qoi:∀ (c0:UInt8),∃ n,qqR n c0=qhF (z17 c0):=fun c=>⟨0,by
 have h:=qsp (P:=fun c=>(bif decide ((65:UInt8)≤c) then (bif decide (c≤(90:UInt8)) then c+32 else c) else c)=z30 c) qkI c;unfold qqR z17;rw [← h];cases decide ((65:UInt8)≤c) <;> cases decide (c≤(90:UInt8)) <;> rfl⟩
theorem qqV:∀ (s0:List UInt8),(z8_ok s0=true)→∃ n,z8_sh n s0=qqS (z8 s0):=fun s h=>⟨s.length+1,by
 have hl:=qaV h;unfold z8_sh;have:=qkF (t:=s) (dv:=0) (f:=fun c=>[z17 c]) (q:=fun _=>true) (b:=1) (k0:=qhG (s.length+1)) (R:=none)
  (L:=fun n out i=>z8_l3 (qhG (s.length+1)) n s out i) (fun x=>yv 1) (fun n i out hi hb=>by
   show qes _ _ n _ _ _=_;unfold qes;have hr:out.length+([z17 (s.getD i 0)]:List UInt8).length≤room:=hb;simp (disch:=omega) only [dT,yc,Bool.and_true,tn,qgj];all_goals (rw [dT hr])
   all_goals rfl) (fun n out=>by
   show qes _ _ n _ _ _=_;unfold qes;rw [dF (by omega)]; rfl) s.length 0 (s.length+1) [] (by omega) (by omega) (by show 0+_≤room; unfold room; omega)
 rw [yw,qkH,yc,List.nil_append,qkG] at this;exact this⟩
theorem qoj:∀ (c0:UInt8),∃ n,qqO n c0=qhE (z30 c0):=fun c=>⟨0,by
 unfold qqO z30;cases decide ((65:UInt8)≤c) <;> cases decide (c≤(90:UInt8)) <;> rfl⟩
theorem qhH (k0:List UInt8→Option AV) (s:List UInt8) (hl:s.length≤1048576):∀ (d i n:Nat),i+d=s.length→d < n →
 qfZ k0 n ((s.take i).map z30++s.drop i) (s.length:Nat) (i:Nat)=k0 (s.map z30)
 | d,i,0,hi,hn=>by omega
 | 0,i,n+1,hi,hn=>by
  show qcO k0 (qfZ k0 n) n _ _ _=_;unfold qcO;rw [dF (by omega),yd,show i=s.length by omega,List.take_length,List.drop_length,yF]
 | d+1,i,n+1,hi,hn=>by
  show qcO k0 (qfZ k0 n) n _ _ _=_;unfold qcO;have hlt:i < s.length:=by omega
  have ih:=qhH k0 s hl d (i+1) n (by omega) (by omega);have hlen:((s.take i).map z30++s.drop i).length=s.length:=by simp; omega
  have hg:((s.take i).map z30++s.drop i).getD i 0=s.getD i 0:=by
   rw [qbW (d:=(0:UInt8)) hlt];simp [List.getD,Nat.min_eq_left (Nat.le_of_lt hlt)]
  have hs:=qqU z30 s i hlt;simp only at hs;simp (disch:=omega) only [dT,yc,Bool.and_true,tn,qgj,hlen,hg];rw [hs];exact ih
theorem qok:∀ (s0:List UInt8),(qio s0=true)→∃ n,qmy n s0=qmM (z37 s0):=fun s h=>⟨s.length+1,by
 unfold qmy;rw [show qop s=true from h,show z20 s=s from rfl];exact qhH (qgF (s.length+1)) s (qaV h) s.length 0 (s.length+1) (by omega) (by omega)⟩
theorem qol:∀ (a0:List UInt8) (b1:List UInt8),∃ n,qsn n a0 b1=qmN (z60 a0 b1):=fun _ _=>⟨0,rfl⟩
theorem qom:∀ (b0:List UInt8) (c1:UInt8),∃ n,qso n b0 c1=qmQ (z62 b0 c1):=fun _ _=>⟨0,rfl⟩
theorem qon:∃ n,qof n  = qmP (z44 ):=⟨10,by kernel_rfl⟩
theorem qoo:∀ (a0:List UInt8) (b1:List UInt8),(qkK a0 b1=true)→∃ n,qqP n a0 b1=qmO (z42 a0 b1):=fun a b h=>⟨0,by
 unfold qkK at h;simp only [yf] at h;unfold qqP;rw [show qio a=true from h.1,show qio b=true from h.2];rfl⟩
end
section
theorem qaE {α:Type} {l:List α} (h:l.length≤1048576):lenOk l=true:=by unfold lenOk; rw [ym]; exact h
theorem wrC {x:Int} (h : -9223372036854775808≤x∧x≤9223372036854775807):IntKind.wrap .i64 x=x:=IntWalk.i64_in x h
theorem qqK {t:List UInt8} {i:Nat} (h:(t.getD i 0).toNat < 128):decL t i=(((t.getD i 0).toNat:Int),1):=by
 unfold decL;rw [Lib.decode_N,Lib.decodeN_ascii _ _ _ _ _ (by simpa using h)]
theorem qnY {t:List UInt8} {i:Nat} (h:128≤(t.getD i 0).toNat):128≤(decL t i).1:=by
 unfold decL;rw [Lib.decode_N];show (128:Int)≤((Lib.decodeN (t.length - i) (t.getD i 0).toNat (t.getD (i+1) 0).toNat (t.getD (i+2) 0).toNat (t.getD (i+3) 0).toNat).1:Int);rcases Lib.decodeN_shape (t.length - i) (t.getD i 0).toNat (t.getD (i+1) 0).toNat (t.getD (i+2) 0).toNat (t.getD (i+3) 0).toNat with ⟨h1,_⟩ | ⟨h1,h2,h3,h4,e⟩ | ⟨h1,h2,h3,h4,h5,_,e⟩ | ⟨h1,h2,h3,h4,h5,h6,h7,e⟩ | e
 ·omega
 all_goals
  rw [e];dsimp only;omega
theorem qcr {α:Type} {l:List α} {i:Nat} (h:i < l.length) (d:α):l.drop i=l.getD i d :: l.drop (i+1):=by
 rw [List.drop_eq_getElem_cons h,List.getD_eq_getElem?_getD,yN h];rfl
theorem qmx (s:List UInt8):sameC s []=(s.length==0):=by cases s <;> rfl
theorem qnZ {x:UInt8} (h:x.toNat < 128):UInt8.ofNat (Int.toNat (IntKind.wrap .u8 ((x.toNat:Nat):Int)))=x:=by
 have:=x.toNat_lt;have e:IntKind.wrap .u8 ((x.toNat:Nat):Int)=((x.toNat:Nat):Int):=by
  show ((x.toNat:Nat):Int) % 256=_;omega
 rw [e,tn];exact UInt8.ofNat_toNat
theorem qhD (m:Nat) (s t:List UInt8) (hs:s.length≤1048576) (ht:t.length≤1048576):∀ (d i n:Nat),i+d=t.length→d < n→i≤s.length →
 qfY qbG (qbu m) n s (i:Int) t i=qbG (sameC (s.drop i) (t.drop i))
 | d,i,0,_,h,_=>absurd h (by omega)
 | 0,i,n+1,hi,_,his=>by
  show qcN qbG (qbu m) (qfY qbG (qbu m) n) n s (i:Int) t i=_;unfold qcN qbu;rw [dF (by omega),yA (by omega:t.length≤i),qmx,yJ];simp only [yd];congr 1;rw [Bool.eq_iff_iff];simp only [beq_iff_eq];omega
 | d+1,i,n+1,hi,hn,his=>by
  show qcN qbG (qbu m) (qfY qbG (qbu m) n) n s (i:Int) t i=_;unfold qcN;have hit:i < t.length:=by omega
  rw [dT hit,qcr hit 0];simp only [yc]
  by_cases hsi:i=s.length
  ·rw [dT (show ((s.length:Nat):Int)≤((i:Nat):Int) by omega),yA (by omega:s.length≤i)];rfl
  ·have hs':i < s.length:=by omega
   rw [dF (show ¬ ((s.length:Nat):Int)≤((i:Nat):Int) by omega),dT (show (0:Int)≤((i:Nat):Int) by omega),dT (show ((i:Nat):Int) < (s.length:Nat) by omega),qcr hs' 0,tn];simp only [yc,yd,Bool.and_true]
   by_cases hl:(t.getD i 0).toNat < 128
   ·rw [qqK hl,qnZ hl];have e:sameC (s.getD i 0 :: s.drop (i+1)) (t.getD i 0 :: t.drop (i+1))=(decide ((t.getD i 0).toNat < 128)&&((z30 (s.getD i 0)==z30 (t.getD i 0))&&sameC (s.drop (i+1)) (t.drop (i+1)))):=rfl;rw [e,dT hl,dF (show ¬ (128:Int)≤(((t.getD i 0).toNat:Nat):Int) by omega),wrC (by omega)];simp only [yc,yd,Bool.true_and];cases hb:z30 (s.getD i 0)==z30 (t.getD i 0) with
    | true =>
     rw [show (z30 (s.getD i 0) != z30 (t.getD i 0))=false by unfold bne; rw [hb]; rfl];simp only [yd,Bool.true_and];have:=qhD m s t hs ht d (i+1) n (by omega) (by omega) (by omega);rw [show ((i:Nat):Int)+1=((i+1:Nat):Int) by omega];exact this
    | false =>
     rw [show (z30 (s.getD i 0) != z30 (t.getD i 0))=true by unfold bne; rw [hb]; rfl];rfl
   ·have e:sameC (s.getD i 0 :: s.drop (i+1)) (t.getD i 0 :: t.drop (i+1))=(decide ((t.getD i 0).toNat < 128)&&((z30 (s.getD i 0)==z30 (t.getD i 0))&&sameC (s.drop (i+1)) (t.drop (i+1)))):=rfl;rw [e,dF hl,dT (qnY (by omega:128≤(t.getD i 0).toNat))];cases z30 (s.getD i 0) != z30 (UInt8.ofNat (Int.toNat (IntKind.wrap .u8 (decL t i).1))) <;> rfl
theorem qoa:∀ (s0:List UInt8) (text1:List UInt8),(qgE s0 text1=true)→∃ n,qod n s0 text1=qbG (z18 s0 text1):=fun s t h=>⟨t.length+1,by
 unfold qgE at h;rw [yf] at h;exact qhD (t.length+1) s t (qaV h.1) (qaV h.2) t.length 0 (t.length+1) (by omega) (by omega) (Nat.zero_le _)⟩
theorem qqL:∀ (t0:(List UInt8)×((List UInt8)×((List ((List UInt8)×((List Int)×Unit)))×Unit))) (a1:List UInt8) (b2:List UInt8),(z9_ok t0 a1 b2=true)→∃ n,z9_sh n t0 a1 b2=qoe (z9 t0 a1 b2):=fun t a b h=>⟨0,by
 unfold z9_ok at h;rw [yf] at h;unfold z9_sh z9;rw [show qgE t.1 a=true from h.1,show qgE t.2.1 b=true from h.2];unfold z18;cases sameC t.1 a <;> rfl⟩
theorem qkx (m:Nat) (t:CtT) (l:List (List UInt8×(List Int×Unit))) (hl:l.length≤1048576):∀ (d i n:Nat),i+d=l.length→d < n →
 z5_l2 qcL (qbF m) n t l ((l.length:Nat):Int) (i:Int)=bif (l.drop i).any farP then qcL true else qbF m t
 | d,i,0,_,h=>absurd h (by omega)
 | 0,i,n+1,hi,_=>by
  show qeq qcL (qbF m) (z5_l2 qcL (qbF m) n) n t l ((l.length:Nat):Int) (i:Int)=_;unfold qeq;rw [dF (by omega),yA (by omega)];rfl
 | d+1,i,n+1,hi,hn=>by
  show qeq qcL (qbF m) (z5_l2 qcL (qbF m) n) n t l ((l.length:Nat):Int) (i:Int)=_;unfold qeq;have hit:i < l.length:=by omega
  rw [dT (show ((i:Nat):Int) < ((l.length:Nat):Int) by omega),dT (show (0:Int)≤((i:Nat):Int) by omega),qcr hit (([]:List UInt8),(([]:List Int),())),tn,List.any_cons,wrC (by omega)];simp only [yc,Bool.and_true];rw [show ((i:Nat):Int)+1=((i+1:Nat):Int) by omega,qkx m t l hl d (i+1) n (by omega) (by omega)];unfold farP;cases decide ((100:Int) < (((l.getD i (([]:List UInt8),(([]:List Int),()))).1.length:Nat):Int)) <;> cases decide ((80:Int) < (((l.getD i (([]:List UInt8),(([]:List Int),()))).2.1.length:Nat):Int)) <;> rfl
theorem qqM:∀ (t0:(List UInt8)×((List UInt8)×((List ((List UInt8)×((List Int)×Unit)))×Unit))),∃ n,z5_sh n t0=qcL (z5 t0):=fun t=>⟨7,by
 unfold z5_sh qcM;have hk:(bif decide ((6:Int) < ((t.2.2.1.length:Nat):Int)) then (6:Int) else ((t.2.2.1.length:Nat):Int))=((min 6 t.2.2.1.length:Nat):Int):=by
  by_cases h:(6:Int) < ((t.2.2.1.length:Nat):Int)
  ·rw [dT h];show (6:Int)=_;omega
  ·rw [dF h];show ((t.2.2.1.length:Nat):Int)=_;omega
 have htk:t.2.2.1.take (min 6 t.2.2.1.length)=t.2.2.1.take 6:=by
  rcases Nat.le_total 6 t.2.2.1.length with h | h
  ·rw [Nat.min_eq_left h]
  ·rw [Nat.min_eq_right h,List.take_of_length_le (yv _),List.take_of_length_le h]
 rw [hk,dT (show (0:Int)≤((0:Nat):Int) by omega),dT (show ((0:Nat):Int)≤((min 6 t.2.2.1.length:Nat):Int) by omega),dT (show ((min 6 t.2.2.1.length:Nat):Int)≤((t.2.2.1.length:Nat):Int) by omega),tn,tn,yw,htk];have h6:(t.2.2.1.take 6).length≤6:=by rw [yz]; omega
 have:=qkx 7 t (t.2.2.1.take 6) (by omega) (t.2.2.1.take 6).length 0 7 (by omega) (by omega);rw [yw] at this;show z5_l2 qcL (qbF 7) 7 t (t.2.2.1.take 6) (((t.2.2.1.take 6).length:Nat):Int) ((0:Nat):Int)=_;rw [this];unfold z5 qbF;cases (t.2.2.1.take 6).any farP <;> cases decide ((6:Int) < ((t.2.2.1.length:Nat):Int)) <;> cases decide ((100:Int) < ((t.1.length:Nat):Int)) <;> rfl⟩
theorem qep (m:Nat) (s2:CtT) (l:List (List UInt8×(List Int×Unit))) (hl:l.length≤1048576):∀ (d i:Nat) (x:CtT) (n:Nat),i+d=l.length→d < n→x.2.2.1.length≤i →
 qga (qbR m) n s2 x l ((l.length:Nat):Int) (i:Int)=qkE (x.1,(x.2.1,(x.2.2.1++l.drop i,())))
 | d,i,x,0,_,h,_=>absurd h (by omega)
 | 0,i,x,n+1,hi,_,_=>by
  show qcP (qbR m) (qga (qbR m) n) n s2 x l ((l.length:Nat):Int) (i:Int)=_;unfold qcP;rw [dF (by omega),yA (by omega),yF];rfl
 | d+1,i,x,n+1,hi,hn,hx=>by
  show qcP (qbR m) (qga (qbR m) n) n s2 x l ((l.length:Nat):Int) (i:Int)=_;unfold qcP;have hit:i < l.length:=by omega
  rw [dT (show ((i:Nat):Int) < ((l.length:Nat):Int) by omega),dT (show (0:Int)≤((i:Nat):Int) by omega),qcr hit (([]:List UInt8),(([]:List Int),())),tn,wrC (by omega),dT (show x.2.2.1.length+([l.getD i (([]:List UInt8),(([]:List Int),()))]:List (List UInt8×(List Int×Unit))).length≤room by show x.2.2.1.length+1≤1073741824; omega)];simp only [yc,Bool.and_true];rw [show ((i:Nat):Int)+1=((i+1:Nat):Int) by omega,qep m s2 l hl d (i+1) _ n (by omega) (by omega) (by rw [yn]; show x.2.2.1.length+1≤i+1; omega)];simp only [yl,List.singleton_append]
theorem qob:∀ (t0:(List UInt8)×((List UInt8)×((List ((List UInt8)×((List Int)×Unit)))×Unit))),(qim t0=true)→∃ n,qog n t0=qkE (z10 t0):=fun t h=>⟨t.2.2.1.length+1,by
 have hl:t.2.2.1.length≤1048576:=qaV h;exact qep (t.2.2.1.length+1) _ t.2.2.1 hl t.2.2.1.length 0 (t.1,(t.2.1,([],()))) (t.2.2.1.length+1) (by omega) (by omega) (Nat.zero_le _)⟩
theorem qea:∀ (s t:List UInt8),sameC s t=(t.all (fun c=>decide (c.toNat < 128))&&decide (s.map z30=t.map z30))
 | [],[]=>rfl
 | [],c :: t=>by
  show false=_;rw [dF (by simp),Bool.and_false]
 | x :: s,[]=>by
  show false=_;rw [dF (by simp),Bool.and_false]
 | x :: s,c :: t=>by
  show (decide (c.toNat < 128)&&((z30 x==z30 c)&&sameC s t))=_;rw [qea s t,List.all_cons,yH,yH]
  by_cases h1:z30 x=z30 c
  ·rw [h1,beq_self_eq_true]
   by_cases h2:s.map z30=t.map z30
   ·rw [dT h2,h2,dT rfl];cases decide (c.toNat < 128) <;> rfl
   ·rw [dF h2,dF (fun e=>h2 (List.cons.inj e).2)];cases decide (c.toNat < 128) <;> simp
  ·rw [dF (fun e=>h1 (List.cons.inj e).1),show (z30 x==z30 c)=false by simpa using h1];simp
theorem qky (m:Nat) (a b:List UInt8) (t:CtT) (hl:(a++b).length≤1048576):∀ (d i:Nat) (hi0:Bool) (n:Nat),i+d=(a++b).length→d < n →
 z3_l5 (qbH m) n a b t hi0 (((a++b).length:Nat):Int) (i:Int)=qbH m a b t (hi0||((a++b).drop i).any (fun c=>decide ((127:UInt8) < c)))
 | d,i,hi0,0,_,h=>absurd h (by omega)
 | 0,i,hi0,n+1,hi,_=>by
  show qet (qbH m) (z3_l5 (qbH m) n) n a b t hi0 (((a++b).length:Nat):Int) (i:Int)=_;unfold qet;rw [dF (by omega),yA (by omega),List.any_nil,Bool.or_false];rfl
 | d+1,i,hi0,n+1,hi,hn=>by
  show qet (qbH m) (z3_l5 (qbH m) n) n a b t hi0 (((a++b).length:Nat):Int) (i:Int)=_;unfold qet;have hit:i < (a++b).length:=by omega
  have hab:a.length+b.length≤9223372036854775807:=by rw [yn] at hl; omega
  rw [dT (show ((i:Nat):Int) < (((a++b).length:Nat):Int) by omega),dT hab,dT (show (0:Int)≤((i:Nat):Int) by omega),qcr hit 0,tn,wrC (by omega),List.any_cons];simp only [yc,Bool.and_true];rw [show ((i:Nat):Int)+1=((i+1:Nat):Int) by omega,qky m a b t hl d (i+1) _ n (by omega) (by omega),qky m a b t hl d (i+1) _ n (by omega) (by omega)];cases hi0 <;> rfl
theorem qoc (l:List UInt8):l.any (fun c=>decide ((127:UInt8) < c)) = !(l.all (fun c=>decide (c.toNat < 128))):=by
 induction l with
 | nil=>rfl
 | cons c l ih =>
  rw [List.any_cons,List.all_cons,ih];have:decide ((127:UInt8) < c) = !(decide (c.toNat < 128)):=by
   rw [Bool.eq_iff_iff];simp only [ym,Bool.not_eq_true',decide_eq_false_iff_not,UInt8.lt_iff_toNat_lt];show 127 < c.toNat↔_;omega
  rw [this];cases decide (c.toNat < 128) <;> rfl
theorem qqN:∀ (t0:(List UInt8)×((List UInt8)×((List ((List UInt8)×((List Int)×Unit)))×Unit))) (a1:List UInt8) (b2:List UInt8),∃ n,z3_sh n t0 a1 b2=qej (z3 t0 a1 b2):=fun t a b=>⟨1000,by
 unfold z3_sh;cases hf:z5 t with
 | true=>rfl
 | false =>
  by_cases ha:(100:Int) < ((a.length:Nat):Int)
  ·rw [dT ha]; rfl
  by_cases hb:(100:Int) < ((b.length:Nat):Int)
  ·rw [dF ha,dT hb]; rfl
  unfold z5 at hf;simp only [Bool.or_eq_false_iff,decide_eq_false_iff_not] at hf;obtain ⟨_,h6,h1,h2⟩:=hf;rw [dF ha,dF hb,wrC (by omega)];simp only [yd];have hab:(a++b).length=a.length+b.length:=yn;have hl:=qky 1000 a b t (by omega) (a++b).length 0 false 1000 (by omega) (by omega);rw [show ((a.length:Nat):Int)+((b.length:Nat):Int)=(((a++b).length:Nat):Int) by omega];show z3_l5 (qbH 1000) 1000 a b t false (((a++b).length:Nat):Int) ((0:Nat):Int)=_;rw [hl,yw,Bool.false_or,qoc,List.all_append];have k1:z8_ok t.1=true:=qaE (by omega);have k2:z8_ok a=true:=qaE (by omega);have k3:z8_ok t.2.1=true:=qaE (by omega);have k4:z8_ok b=true:=qaE (by omega);have l1:∀ x:List UInt8,z7_ok (z8 t.1) x=true:=fun _=>qaE (by show (t.1.map z30).length≤_; rw [yO]; omega);have l2:∀ x:List UInt8,z7_ok (z8 t.2.1) x=true:=fun _=>qaE (by show (t.2.1.map z30).length≤_; rw [yO]; omega);have o1:z9_ok (z10 t) a b=true:=by
   show ((lenOk t.1&&lenOk a)&&(lenOk t.2.1&&lenOk b))=true;rw [qaE (show t.1.length≤1048576 by omega),qaE (show a.length≤1048576 by omega),qaE (show t.2.1.length≤1048576 by omega),qaE (show b.length≤1048576 by omega)];rfl
  have o2:qim t=true:=qaE (by omega);have e1:z7 (z8 t.1) (z8 a)=decide (t.1.map z30=a.map z30):=rfl;have e2:z7 (z8 t.2.1) (z8 b)=decide (t.2.1.map z30=b.map z30):=rfl;have e3:z9 (z10 t) a b=((a.all (fun c=>decide (c.toNat < 128))&&decide (t.1.map z30=a.map z30))&&(b.all (fun c=>decide (c.toNat < 128))&&decide (t.2.1.map z30=b.map z30))):=by
   show (sameC t.1 a&&sameC t.2.1 b)=_;rw [qea,qea]
  unfold qbH;rw [k1,k2,k3,k4,l1,l2,o1,o2,dT (show a.length≤room by show a.length≤1073741824; omega),dT (show b.length≤room by show b.length≤1073741824; omega),e1,e2,e3];cases a.all (fun c=>decide (c.toNat < 128)) <;> cases b.all (fun c=>decide (c.toNat < 128)) <;> cases decide (t.1.map z30=a.map z30) <;> cases decide (t.2.1.map z30=b.map z30) <;> rfl⟩
end
end Go.Av
