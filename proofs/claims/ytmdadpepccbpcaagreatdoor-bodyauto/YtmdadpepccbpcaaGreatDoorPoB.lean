import Derived.Test.YtmdadpepccbpcaaGreatDoorPoA
import Derived.KernelRfl
namespace Go.Av
set_option linter.unusedSimpArgs false
set_option linter.unusedVariables false
section
def bitsN:Nat→Int→LI
 | 0,_=>[]
 | m+1,h=>h / 2 ^ m % 2 :: bitsN m h
theorem qfF (m:Nat) (h:Int):(bitsN m h).length=m:=by
 induction m with
 | zero=>rfl
 | succ m ih=>simp[bitsN,ih]
theorem qlQ:∀ (n k:Nat) (a b:LI),a.length=6*n→sixes (n+k) (a++b)=sixes n a++sixes k b
 | 0,k,a,b,h=>by
  have:a=[]:=List.length_eq_zero_iff.1 (by omega);subst this;simp[sixes]
 | n+1,k,a,b,h=>by
  rw[show n+1+k=(n+k)+1 by omega];simp only[sixes,List.cons_append];rw[List.take_append_of_le_length (by omega),List.drop_append_of_le_length (by omega),qlQ n k (a.drop 6) b (by simp;omega)]
theorem qiU:∀ (n k:Nat) (a b:LI),a.length=8*n→octs (n+k) (a++b)=octs n a++octs k b
 | 0,k,a,b,h=>by
  have:a=[]:=List.length_eq_zero_iff.1 (by omega);subst this;simp[octs]
 | n+1,k,a,b,h=>by
  rw[show n+1+k=(n+k)+1 by omega];simp only[octs,List.cons_append];rw[List.take_append_of_le_length (by omega),List.drop_append_of_le_length (by omega),qiU n k (a.drop 8) b (by simp;omega)]
def encD (many:Nat) (held:Nat) (x:Nat):LU :=
 bif many==4 then [z222 ((held*256+x:Nat) / 64:Int),z222 ((held*256+x:Nat):Int)] else [z222 (((held*256+x) / 2 ^ (many+2):Nat):Int)]
def encM (many:Nat):Nat:=bif many==4 then 0 else many+2
def encH (many held x:Nat):Nat:=(held*256+x) % 2 ^ encM many
def encOk (many held x:Nat):Bool :=
 (bitsN many held++qcA (UInt8.ofNat x)).take (8+many - encM many)++bitsN (encM many) (encH many held x)==bitsN many held++qcA (UInt8.ofNat x)
  && (sixes ((8+many - encM many) / 6) ((bitsN many held++qcA (UInt8.ofNat x)).take (8+many - encM many))==encD many held x)
def qRu:Bool:=([0,2,4]:List Nat).all fun m=>(List.range (2 ^ m)).all fun h=>(List.range 256).all fun x=>encOk m h x
set_option maxRecDepth 100000 in
theorem qEE:qRu=true:=by kernel_rfl
end
section
variable {s out:LU} {m h:Nat}
def decM (many:Nat):Nat:=bif many==0 then 6 else many - 2
def decH (many held n:Nat):Nat:=bif many==0 then n else (held*64+n) % 2 ^ (many - 2)
def decO (many held n:Nat):LU:=bif many==0 then [] else [UInt8.ofNat ((held*64+n) / 2 ^ (many - 2))]
def decOk (many held n:Nat):Bool :=
 (bitsN many held++qbo n).take (many+6 - decM many)++bitsN (decM many) (decH many held n)==bitsN many held++qbo n
  && (octs ((many+6 - decM many) / 8) ((bitsN many held++qbo n).take (many+6 - decM many))==decO many held n)
def qRv:Bool:=([0,2,4,6]:List Nat).all fun m=>(List.range (2 ^ m)).all fun h=>(List.range 64).all fun n=>decOk m h n
set_option maxRecDepth 100000 in
theorem qEF:qRv=true:=by kernel_rfl
theorem qaW {p:Nat→Bool} {n:Nat} (h:(List.range n).all p=true) (i:Nat) (hi:i < n):p i=true:=by
 rw[List.all_eq_true] at h;exact h i (List.mem_range.2 hi)
theorem qNa (m h:Nat) (x:UInt8) (hm:m=0∨m=2∨m=4) (hh:h < 2 ^ m):encOk m h x.toNat=true:=by
 have e:=qEE;unfold qRu at e;rw[List.all_eq_true] at e;have e1:=e m (by rcases hm with rfl | rfl | rfl <;> simp);exact qaW (qaW e1 h hh) x.toNat x.toNat_lt
theorem qNb (m h n:Nat) (hm:m=0∨m=2∨m=4∨m=6) (hh:h < 2 ^ m) (hn:n < 64):decOk m h n=true:=by
 have e:=qEF;unfold qRv at e;rw[List.all_eq_true] at e;have e1:=e m (by rcases hm with rfl | rfl | rfl | rfl <;> simp);exact qaW (qaW e1 h hh) n hn
structure EncSt (s out:LU) (m h:Nat):Prop where
 cases:m=0∨m=2∨m=4
 lt:h < 2 ^ m
 bits:∃ a:LI,z190 s=a++bitsN m h∧a.length=6*(a.length / 6)∧out=sixes (a.length / 6) a
theorem EncSt.nil:EncSt [] [] 0 0:=⟨Or.inl rfl,by decide,[],rfl,rfl,rfl⟩
theorem qEG (s:LU) (x:UInt8):z190 (s++[x])=z190 s++qcA x:=by simp[z190]
theorem EncSt.step (e:EncSt s out m h) (x:UInt8):EncSt (s++[x]) (out++encD m h x.toNat) (encM m) (encH m h x.toNat):=by
 obtain⟨hc,hl,a,hb,ha,ho⟩:=e;have k:=qNa m h x hc hl;simp only[encOk,yf,beq_iff_eq] at k;have k1:=k.1;have k2:=k.2;have hx:UInt8.ofNat x.toNat=x:=by simp
 rw[hx] at k1 k2;have lm:(8+m - encM m) % 6=0∧8+m - encM m≤8+m:=by rcases hc with rfl | rfl | rfl <;> decide
 have ll:((bitsN m h++qcA x).take (8+m - encM m)).length=8+m - encM m:=by
  rw[yz,yn,qfF];simp[qcA];omega
 refine⟨by rcases hc with rfl | rfl | rfl <;> decide,Nat.mod_lt _ (Nat.pow_pos (by decide)),a++(bitsN m h++qcA x).take (8+m - encM m),?_,?_,?_⟩
 ·rw[qEG,hb,yl,yl,k1]
 ·rw[yn,ll];omega
 ·rw[yn,ll,show (a.length+(8+m - encM m)) / 6=a.length / 6+(8+m - encM m) / 6 by omega,qlQ _ _ _ _ ha,ho,k2]
structure DecSt (s out:LU) (m h:Nat):Prop where
 cases:m=0∨m=2∨m=4∨m=6
 lt:h < 2 ^ m
 bits:∃ a:LI,bitsB s=a++bitsN m h∧a.length=8*(a.length / 8)∧out=octs (a.length / 8) a
theorem DecSt.nil:DecSt [] [] 0 0:=⟨Or.inl rfl,by decide,[],rfl,rfl,rfl⟩
theorem qyf (s:LU) (x:UInt8):bitsB (s++[x])=bitsB s++qbo (z175 x).1:=by simp[bitsB]
theorem DecSt.step (e:DecSt s out m h) (x:UInt8) (n:Nat) (hv:(z175 x).1=(n:Int)) (hn:n < 64):DecSt (s++[x]) (out++decO m h n) (decM m) (decH m h n):=by
 obtain⟨hc,hl,a,hb,ha,ho⟩:=e;have k:=qNb m h n hc hl hn;simp only[decOk,yf,beq_iff_eq] at k;have k1:=k.1;have k2:=k.2;have lm:(m+6 - decM m) % 8=0∧m+6 - decM m≤m+6:=by rcases hc with rfl | rfl | rfl | rfl <;> decide
 have ll:((bitsN m h++qbo (n:Int)).take (m+6 - decM m)).length=m+6 - decM m:=by
  rw[yz,yn,qfF];simp only[qbo,yg,List.length_nil];omega
 refine⟨by rcases hc with rfl | rfl | rfl | rfl <;> decide,?_,a++(bitsN m h++qbo (n:Int)).take (m+6 - decM m),?_,?_,?_⟩
 ·unfold decH decM;rcases hc with rfl | rfl | rfl | rfl
  ·exact hn
  ·exact Nat.mod_lt _ (by decide)
  ·exact Nat.mod_lt _ (by decide)
  ·exact Nat.mod_lt _ (by decide)
 ·rw[qyf,hb,hv,yl,yl,k1]
 ·rw[yn,ll];omega
 ·rw[yn,ll,show (a.length+(m+6 - decM m)) / 8=a.length / 8+(m+6 - decM m) / 8 by omega,qiU _ _ _ _ ha,ho,k2]
theorem EncSt.bare_nil (e:EncSt s out 0 h):z138 s=out:=by
 obtain⟨_,hl,a,hb,ha,ho⟩:=e;have hb':z190 s=a:=by simpa [bitsN] using hb
 have hp:padTo 6 (0:Int) a=a:=by unfold padTo qN;rw[show (6 - a.length % 6) % 6=0 by omega];simp
 unfold z138;rw[hb',hp,ho]
def endOk (m h:Nat):Bool:=sixes 1 (bitsN m h++List.replicate (6 - m) 0)==[z222 ((h*2 ^ (6 - m):Nat):Int)]
theorem qEH:(([2,4]:List Nat).all fun m=>(List.range (2 ^ m)).all fun h=>endOk m h)=true:=by kernel_rfl
theorem EncSt.bare_some (e:EncSt s out m h) (hm:m≠0):z138 s=out++[z222 ((h*2 ^ (6 - m):Nat):Int)]:=by
 obtain⟨hc,hl,a,hb,ha,ho⟩:=e;have hc':m=2∨m=4:=by omega
 have k:endOk m h=true:=by
  have e:=qEH;rw[List.all_eq_true] at e;exact qaW (e m (by rcases hc' with rfl | rfl <;> simp)) h hl
 unfold endOk at k;rw[beq_iff_eq] at k;have hp:padTo 6 (0:Int) (z190 s)=a++(bitsN m h++List.replicate (6 - m) 0):=by
  unfold padTo qN;rw[hb,yn,qfF,show (6 - (a.length+m) % 6) % 6=6 - m by omega,yl]
 unfold z138;rw[hp,yn,yn,qfF,yQ,show (a.length+(m+(6 - m))) / 6=a.length / 6+1 by omega,qlQ _ _ _ _ ha,ho,k]
theorem DecSt.octets (e:DecSt s out m h):(z88 (bitsB s)).1=out∧(bitsB s).length % 8=m∧(z88 (bitsB s)).2=(z151 (bitsN m h)==0):=by
 obtain⟨hc,hl,a,hb,ha,ho⟩:=e;have hlen:(bitsB s).length=a.length+m:=by rw[hb,yn,qfF]
 have hd:(a.length+m) / 8=a.length / 8:=by omega
 refine⟨?_,by rw[hlen];omega,?_⟩
 ·show octs _ _=_;rw[hlen,hd,hb,show a.length / 8=a.length / 8+0 by omega,qiU _ _ _ _ ha,ho];simp[octs]
 ·show (z151 _==0)=_;rw[hlen,hd,hb,show a.length / 8*8=a.length by omega,List.drop_left]
end
section
open List (replicate)
def isBit (b:Int):Bool:=b==0||b==1
theorem qNc {b:Int} (h:isBit b=true):b=0∨b=1:=by
 simp only[isBit,yR,beq_iff_eq] at h;exact h
def b01:LI:=[0,1]
theorem in01 {b:Int} (h:isBit b=true):b∈b01:=by rcases qNc h with rfl | rfl <;> decide
def sixOk (l:LI):Bool:=qbo (z175 (z191 (z151 l))).1==l&&(isB64 (z191 (z151 l))&&z191 (z151 l) != 61)
theorem qVZ:(b01.all fun a=>b01.all fun b=>b01.all fun c=>b01.all fun d=>b01.all fun e=>b01.all fun f=>sixOk [a,b,c,d,e,f])=true:=by kernel_rfl
theorem qWa (a b c d e f:Int) (h:([a,b,c,d,e,f].all isBit)=true):sixOk [a,b,c,d,e,f]=true:=by
 simp only[List.all_cons,List.all_nil,yi,yf] at h;have k:=qVZ;have k1:=List.all_eq_true.1 k a (in01 h.1);have k2:=List.all_eq_true.1 k1 b (in01 h.2.1);have k3:=List.all_eq_true.1 k2 c (in01 h.2.2.1);have k4:=List.all_eq_true.1 k3 d (in01 h.2.2.2.1);have k5:=List.all_eq_true.1 k4 e (in01 h.2.2.2.2.1);exact List.all_eq_true.1 k5 f (in01 h.2.2.2.2.2)
theorem qnY:∀ (n:Nat) (l:LI),l.length=6*n→l.all isBit=true→bitsB (sixes n l)=l∧(sixes n l).all isB64=true∧(sixes n l).all (fun c=>c != 61)=true∧(sixes n l).length=n
 | 0,l,h,_=>by
  have:l=[]:=List.length_eq_zero_iff.1 (by omega);subst this;exact⟨rfl,rfl,rfl,rfl⟩
 | n+1,l,h,hb=>by
  match l,h with
  | a :: b :: c :: d :: e :: f :: r,h =>
   have h0:([a,b,c,d,e,f].all isBit)=true:=by
    simp only[List.all_cons,yf] at hb ⊢;simp[hb]
   have hr:r.all isBit=true:=by
    simp only[List.all_cons,yf] at hb;exact hb.2.2.2.2.2.2
   have k:=qWa a b c d e f h0;simp only[sixOk,yf,beq_iff_eq] at k;have ih:=qnY n r (by simp only[yg] at h;omega) hr;have e0:sixes (n+1) (a :: b :: c :: d :: e :: f :: r)=z191 (z151 [a,b,c,d,e,f]) :: sixes n r:=rfl;rw[e0];refine⟨?_,?_,?_,?_⟩
   ·show qbo _++bitsB _=_;rw[k.1,ih.1];rfl
   ·rw[List.all_cons,k.2.1,ih.2.1];rfl
   ·rw[List.all_cons,k.2.2,ih.2.2.1];rfl
   ·rw[yg,ih.2.2.2]
def qEI (x:UInt8):Bool:=oct8 (z151 (qcA x))==x&&(qcA x).all isBit
theorem qRw:((List.range 256).all fun n=>qEI (UInt8.ofNat n))=true:=by kernel_rfl
theorem qKE (x:UInt8):qEI x=true:=by
 have:=qaW qRw x.toNat x.toNat_lt;simpa using this
theorem qyg:∀ s:LU,(z190 s).all isBit=true
 | []=>rfl
 | x :: r=>by
  have k:=qKE x;simp only[qEI,yf] at k;show (qcA x++z190 r).all isBit=true;rw[List.all_append,k.2,qyg r];rfl
theorem qfG:∀ s:LU,(z190 s).length=8*s.length
 | []=>rfl
 | x :: r=>by
  show (qcA x++z190 r).length=_;rw[yn,qfG r];simp[qcA];omega
theorem qtc:∀ (s:LU) (z:LI),octs s.length (z190 s++z)=s
 | [],_=>rfl
 | x :: r,z=>by
  have k:=qKE x;simp only[qEI,yf,beq_iff_eq] at k;show oct8 (z151 (((qcA x++z190 r)++z).take 8)) :: octs r.length (((qcA x++z190 r)++z).drop 8)=_;rw[yl,show (8:Nat)=(qcA x).length from rfl,List.take_left,List.drop_left,k.1,qtc r z]
theorem qqk:∀ n:Nat,n < 8→z151 (replicate n 0)=0:=by decide
theorem qlR (s:LU):bitsB (z138 s)=padTo 6 0 (z190 s)∧(z138 s).all isB64=true∧(z138 s).all (fun c=>c != 61)=true∧6*(z138 s).length=8*s.length+qN (8*s.length) 6:=by
 have hl:(padTo 6 (0:Int) (z190 s)).length=8*s.length+qN (8*s.length) 6:=by
  unfold padTo;rw[yn,yQ,qfG]
 have hm:(8*s.length+qN (8*s.length) 6) % 6=0:=by unfold qN;omega
 have hb:(padTo 6 (0:Int) (z190 s)).all isBit=true:=by
  unfold padTo;rw[List.all_append,qyg s];simp[isBit]
 have k:=qnY ((padTo 6 (0:Int) (z190 s)).length / 6) _ (by rw[hl];omega) hb;refine⟨k.1,k.2.1,k.2.2.1,?_⟩;show 6*(sixes _ _).length=_;rw[k.2.2.2,hl];omega
theorem qvI (s:LU):z88 (padTo 6 0 (z190 s))=(s,true):=by
 have hl:(padTo 6 (0:Int) (z190 s)).length=8*s.length+qN (8*s.length) 6:=by
  unfold padTo;rw[yn,yQ,qfG]
 have h8:qN (8*s.length) 6 < 8:=by unfold qN;omega
 have hd:(8*s.length+qN (8*s.length) 6) / 8=s.length:=by omega
 unfold z88;rw[hl,hd];have e1:octs s.length (padTo 6 (0:Int) (z190 s))=s:=qtc s _;have e2:(padTo 6 (0:Int) (z190 s)).drop (s.length*8)=replicate (qN (8*s.length) 6) 0:=by
  unfold padTo;rw[show s.length*8=(z190 s).length by rw[qfG];omega,List.drop_left,qfG]
 rw[e1,e2,qqk _ h8];rfl
theorem qEJ (s:LU):∃ k,k≤2∧z74 s=z138 s++replicate k 61∧(z74 s).length % 4=0:=by
 have h6:=(qlR s).2.2.2;have hk:qN (z138 s).length 4≤2:=by unfold qN at h6 ⊢;omega
 refine⟨qN (z138 s).length 4,hk,rfl,?_⟩;show (z138 s++replicate _ _).length % 4=0;rw[yn,yQ];unfold qN;omega
theorem qhO (d:LU) (k:Nat) (h:d.all (fun c=>c != 61)=true):(d++replicate k 61).takeWhile (fun c=>c != 61)=d:=by
 induction d with
 | nil=>cases k <;> simp[List.replicate_succ]
 | cons x r ih =>
  simp only[List.all_cons,yf] at h;rw[List.cons_append,List.takeWhile_cons,h.1,if_pos rfl,ih h.2]
theorem qvJ (s:LU):z28 (z123 s)=s:=by
 obtain⟨k,hk,e,h4⟩:=qEJ s;have hb:=qlR s;have hd:digB (z123 s)=z138 s:=by
  unfold digB;rw[show z123 s=z138 s++replicate k 61 from e,qhO _ _ hb.2.2.1];exact List.filter_eq_self.2 (List.all_eq_true.1 hb.2.1)
 show (z88 (bitsB (digB (z123 s)))).1=s;rw[hd,hb.1,qvI s]
end
section
theorem qcm {P:UInt8→Prop} (h:∀ i:Fin 256,P (UInt8.ofNat i.val)) (c:UInt8):P c:=by
 have:=h ⟨c.toNat,c.toNat_lt⟩;simpa using this
end
section
set_option linter.unusedSimpArgs false
end
section
theorem qNd {x:UInt8} {r:LU} (h:(farN (x :: r)==0)=false):1≤farN (x :: r):=by
 have:=beq_eq_false_iff_ne.1 h;omega
theorem qql (x:UInt8) (r:LU):1≤(z178 (x :: r)).2.1.toNat:=by
 show 1≤(bif farN (x :: r)==0 then ((0:Int),((1:Int),(3:Int))) else bif decide (farN (x :: r) < qc x)&&(farN (x :: r)==(x :: r).length) then (0,(farN (x :: r):Nat),4)
  else bif decide (farN (x :: r) < qc x) then (0,(farN (x :: r):Nat),3) else (signN (farN (x :: r)) (x :: r),(farN (x :: r):Nat),0)).2.1.toNat
 cases h:farN (x :: r)==0 with
 | true=>exact yv 1
 | false =>
  have:=qNd h;rw[yd];cases decide (farN (x :: r) < qc x)&&farN (x :: r)==(x :: r).length
  ·cases decide (farN (x :: r) < qc x) <;> exact this
  ·exact this
theorem qyh:∀ (n:Nat) (s:LU),(utfR n s).length≤s.length
 | 0,_=>Nat.zero_le _
 | _+1,[]=>Nat.zero_le _
 | n+1,x :: r=>by
  show (utfR n ((x :: r).drop _)).length+1≤_;have h1:=qyh n ((x :: r).drop (z178 (x :: r)).2.1.toNat);have h2:=qql x r;rw[yK] at h1;simp only[yg] at h1 ⊢;omega
theorem qqm:∀ (n:Nat) (l:LI),(octs n l).length=n
 | 0,_=>rfl
 | n+1,l=>by show (octs n _).length+1=_;rw[qqm]
theorem qlS:∀ s:LU,(bitsB s).length=6*s.length
 | []=>rfl
 | x :: r=>by
  show (qbo _++bitsB r).length=_;rw[yn,qlS r];simp[qbo];omega
theorem qhq {α:Type} (p:α→Bool):∀ l:List α,(l.takeWhile p).length≤l.length
 | []=>yv _
 | x :: r=>by
  rw[List.takeWhile_cons];split
  ·simp only[yg];have:=qhq p r;omega
  ·simp
theorem qyi (s:LU):(digB s).length≤s.length :=
 yL (List.length_filter_le _ _) (qhq _ _)
theorem qiV (s:LU):(z28 s).length≤s.length:=by
 show (octs _ _).length≤_;rw[qqm,qlS];have:=qyi s;omega
theorem qlT (cs:Int) (s:LU):(z29 cs s).length≤s.length:=by
 unfold z29;cases cs==1
 ·cases cs==3
  ·cases cs==4
   ·cases cs==5
    ·simp[z59]
    ·exact qyh _ _
   ·simp[z57]
  ·simp[z56]
 ·simp[z55]
end
end Go.Av
