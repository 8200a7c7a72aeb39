import Derived.Test.YtopepdfipgfakaaDoorCuSh
import Derived.Test.YtopepdfipgfakaaDoorEfL
import Derived.Test.YtopepdfipgfakaaDoorAvE
import Derived.Lib.IndexAny
import Derived.Lib.IndexMore
import Derived.Lib.IndexBytes
import Derived.IntWalk
import Derived.KernelRfl
namespace Go.Av
set_option linter.unusedVariables false
theorem qrD {α:Type} [DecidableEq α] {a b:List α} {i:Nat} (ha:i < a.length) (hb:i < b.length) (d:α):decide (a.drop i=b.drop i)=bif a.getD i d != b.getD i d then false else decide (a.drop (i+1)=b.drop (i+1)):=by
 rw [qaX (d:=d) ha,qaX (d:=d) hb]
 generalize a.getD i d=x
 generalize b.getD i d=y
 by_cases h:x=y
 ·subst h; simp
 ·simp [h]
theorem qva:∀ (c0:UInt8),∃ n,quA n c0=qi (z86 c0):=fun c=>⟨0,by
 unfold quA z86 qkC orI
 cases decide (c < (32:UInt8)) <;> cases (c==(127:UInt8)) <;> cases (c==(32:UInt8)) <;> cases (c==(9:UInt8)) <;> cases decide ((48:UInt8)≤c) <;> cases decide (c≤(57:UInt8)) <;> cases decide ((65:UInt8)≤c) <;> cases decide (c≤(90:UInt8)) <;> cases decide ((97:UInt8)≤c) <;> cases decide (c≤(122:UInt8)) <;> rfl⟩
theorem qvb:∀ (s0:List UInt8) (c1:UInt8),∃ n,qxw n s0 c1=qsA (z89 s0 c1):=fun _ _=>⟨0,rfl⟩
theorem qvc:∀ (s0:List UInt8) (c1:UInt8),∃ n,qxx n s0 c1=qsB (z88 s0 c1):=fun _ _=>⟨0,rfl⟩
theorem qvd:∀ (s0:List UInt8) (c1:UInt8),∃ n,qxy n s0 c1=qsC (z87 s0 c1):=fun _ _=>⟨0,rfl⟩
theorem qve:∀ (c0:UInt8),∃ n,quB n c0=qaE (z82 c0):=fun c=>⟨0,by
 unfold quB z82 qsj orI
 cases decide (c < (33:UInt8)) <;> cases decide ((126:UInt8) < c) <;> cases z87 [33,42,43,45,47] c <;> cases z87 [43,47] c <;> cases z87 [40,41,60,62,64,44,59,58,92,34,47,91,93,63,61] c <;> cases z87 [42,39,37] c <;> rfl⟩
theorem qvf:∀ (c0:UInt8) (kinds1:Int),∃ n,qxz n c0 kinds1=qsD (z75 c0 kinds1):=fun _ _=>⟨0,rfl⟩
theorem dT {p:Prop} [Decidable p] (h:p):decide p=true:=decide_eq_true h
theorem dF {p:Prop} [Decidable p] (h:¬ p):decide p=false:=decide_eq_false h
theorem wr {x:Int} (h : -9223372036854775808≤x∧x≤9223372036854775807):IntKind.wrap .i64 x=x:=IntWalk.i64_in x h
theorem tn (i:Nat):Int.toNat (i:Int)=i:=Int.toNat_natCast i
theorem qbf {α:Type} {l:List α} (h:l.length≤1048576):lenOk l=true:=by unfold lenOk; rw [decide_eq_true_eq]; exact h
theorem bneT {a b:Int} (h:a≠b):(a != b)=true:=by simp [bne,h]
theorem bneF {a b:Int} (h:a=b):(a != b)=false:=by simp [h]
theorem and15 (n:Int):bits .and .i64 n 15=n % 16:=by
 have h:(BitVec.ofInt 64 n &&& BitVec.ofInt 64 15).toNat=(n % 16).toNat:=by
  rw [BitVec.toNat_and]
  have h1:(BitVec.ofInt 64 15).toNat=2 ^ 4 - 1:=by decide
  rw [h1,Nat.and_two_pow_sub_one_eq_mod,BitVec.toNat_ofInt]
  omega
 show IntKind.wrap .i64 (((BitVec.ofInt 64 n &&& BitVec.ofInt 64 15).toNat:Nat):Int)=_
 rw [h,IntWalk.i64_in _ (by omega)]
 omega
theorem qvg:∀ (n0:Int),(qfd n0=true)→∃ n,quT n n0=qsM (z83 n0):=fun n _=>⟨0,by
 unfold quT z83
 rw [and15]
 have h0:(0:Int)≤n % 16:=by omega
 have h1:n % 16 < (((([48,49,50,51,52,53,54,55,56,57,65,66,67,68,69,70]:List UInt8).length:Nat)):Int):=by simp; omega
 rw [decide_eq_true h0,decide_eq_true h1]
 rfl⟩
theorem qxE {P:UInt8→Prop} (h:∀ i:Fin 256,P (UInt8.ofNat i.val)) (c:UInt8):P c:=by
 have:=h ⟨c.toNat,c.toNat_lt⟩
 simpa using this
theorem qod:∀ i:Fin 256,[z83 (IntKind.wrap .i64 ((UInt8.toNat (UInt8.ofNat (UInt8.toNat (UInt8.ofNat i.val) / 2 ^ (min (Int.toNat (4:Int)) 8))):Nat):Int)),z83 (IntKind.wrap .i64 ((UInt8.toNat (UInt8.ofNat i.val):Nat):Int))]=z76 (UInt8.ofNat i.val):=by decide +kernel
theorem qlB:∀ i:Fin 256,qR (IntKind.wrap .i64 (Int.tdiv (IntKind.wrap .i64 ((UInt8.toNat (UInt8.ofNat i.val):Nat):Int)) (16:Int)))=true∧qR (Int.tmod (IntKind.wrap .i64 ((UInt8.toNat (UInt8.ofNat i.val):Nat):Int)) (16:Int))=true ∧
 qfd (IntKind.wrap .i64 ((UInt8.toNat (UInt8.ofNat (UInt8.toNat (UInt8.ofNat i.val) / 2 ^ (min (Int.toNat (4:Int)) 8))):Nat):Int))=true∧qfd (IntKind.wrap .i64 ((UInt8.toNat (UInt8.ofNat i.val):Nat):Int))=true:=by decide +kernel
theorem boths (c:UInt8):[z83 (IntKind.wrap .i64 ((UInt8.toNat (UInt8.ofNat (UInt8.toNat c / 2 ^ (min (Int.toNat (4:Int)) 8))):Nat):Int)),z83 (IntKind.wrap .i64 ((UInt8.toNat c:Nat):Int))]=z76 c:=qxE (P:=fun c=>[z83 (IntKind.wrap .i64 ((UInt8.toNat (UInt8.ofNat (UInt8.toNat c / 2 ^ (min (Int.toNat (4:Int)) 8))):Nat):Int)),z83 (IntKind.wrap .i64 ((UInt8.toNat c:Nat):Int))]=z76 c) qod c
theorem qzH (c:UInt8):qR (IntKind.wrap .i64 (Int.tdiv (IntKind.wrap .i64 ((UInt8.toNat c:Nat):Int)) (16:Int)))=true∧qR (Int.tmod (IntKind.wrap .i64 ((UInt8.toNat c:Nat):Int)) (16:Int))=true ∧
 qfd (IntKind.wrap .i64 ((UInt8.toNat (UInt8.ofNat (UInt8.toNat c / 2 ^ (min (Int.toNat (4:Int)) 8))):Nat):Int))=true∧qfd (IntKind.wrap .i64 ((UInt8.toNat c:Nat):Int))=true:=qxE (P:=fun c=>qR (IntKind.wrap .i64 (Int.tdiv (IntKind.wrap .i64 ((UInt8.toNat c:Nat):Int)) (16:Int)))=true∧qR (Int.tmod (IntKind.wrap .i64 ((UInt8.toNat c:Nat):Int)) (16:Int))=true ∧
 qfd (IntKind.wrap .i64 ((UInt8.toNat (UInt8.ofNat (UInt8.toNat c / 2 ^ (min (Int.toNat (4:Int)) 8))):Nat):Int))=true∧qfd (IntKind.wrap .i64 ((UInt8.toNat c:Nat):Int))=true) qlB c
theorem qvh:∀ (c0:UInt8),∃ n,quU n c0=qsN (z76 c0):=fun c=>⟨0,by
 obtain ⟨_,_,h1,h2⟩:=qzH c
 unfold quU
 rw [h1,h2,boths]
 rfl⟩
theorem qvi:∀ (b0:List UInt8) (sign1:UInt8) (c2:UInt8),(qrT b0 sign1 c2=true)→∃ n,quV n b0 sign1 c2=qsO (z58 b0 sign1 c2):=fun b sign c h=>⟨0,by
 have hl:=qw h
 unfold quV z58 qoB z70
 rw [show lenOk b=true from h,Bool.and_true,cond_true,decide_eq_true (by unfold room; simp; omega),cond_true,decide_eq_true (by unfold room z76; simp; omega),cond_true,List.append_assoc]
 rfl⟩
theorem beqT {a b:Int} (h:a=b):(a==b)=true:=by simp [h]
theorem beqF {a b:Int} (h:a≠b):(a==b)=false:=by simp [h]
def okc (c:UInt8):Bool:=(c==13)||(c==10)||(c==9)||(decide (32≤c)&&decide (c≤126))
set_option linter.unusedSimpArgs false
theorem qbJ {t:List Int} {p:Int→Bool} {k0:Option AV} {ret:Int→Option AV} {L:Nat→Int→Option AV} (hl:t.length≤1048576)
 (hL:∀ n (i:Nat),i < t.length→L (n+1) (i:Int)=bif p (t.getD i 0) then L n ((i+1:Nat):Int) else ret (i:Int)) (hE:∀ n,L (n+1) (t.length:Nat)=k0) :
 ∀ d i n:Nat,i+d=t.length→d < n→L n (i:Int)=bif qav p (t.drop i) i == -1 then k0 else ret (qav p (t.drop i) i)
 | d,i,0,hi,hn=>by omega
 | 0,i,n+1,hi,hn=>by
  obtain rfl:i=t.length:=by omega
  rw [hE,List.drop_eq_nil_of_le (by omega)]
  rfl
 | d+1,i,n+1,hi,hn=>by
  have hlt:i < t.length:=by omega
  rw [hL n i hlt,qbJ hl hL hE d (i+1) n (by omega) (by omega),qaX (d:=(0:Int)) hlt]
  rw [show qav p (t.getD i 0 :: t.drop (i+1)) (i:Int)=bif p (t.getD i 0) then qav p (t.drop (i+1)) ((i+1:Nat):Int) else (i:Int) from rfl]
  cases p (t.getD i 0) with
  | true=>rfl
  | false =>
   have:((i:Int) == -1)=false:=by simp only [beq_eq_false_iff_ne,ne_eq]; omega
   simp [this]
theorem qvj:∀ (n0:Int),∃ n,quw n n0=qhv (z71 n0):=fun c=>⟨0,by
 unfold quw z71
 cases (c==(2:Int)) <;> cases (c==(3:Int)) <;> cases (c==(4:Int)) <;> rfl⟩
theorem qvk:∃ n,qxr n  = qst z72:=⟨0,rfl⟩
theorem qvl:∃ n,qxt n  = qsv z74:=⟨0,rfl⟩
theorem qvm {α β:Type} (f:α→β) (t:List α) (z:β) (i:Nat) (h:i < t.length) (d:α) :
 ((t.take i).map f++List.replicate (t.length - i) z).set i (f (t.getD i d))=(t.take (i+1)).map f++List.replicate (t.length - (i+1)) z:=by
 rw [List.set_append_right _ _ (by simp; omega)]
 have h1:((t.take i).map f).length=i:=by simp; omega
 rw [h1,Nat.sub_self,show t.length - i=(t.length - (i+1))+1 by omega,List.replicate_succ,List.set_cons_zero,List.take_succ_eq_append_getElem h,List.map_append,List.append_assoc]
 simp [List.getD,h]
theorem qgl {α β:Type} {t:List α} {dv:α} {f:α→List β} {q:α→Bool} {k0:List β→Option AV} {R:Option AV} {L:Nat→List β→Int→Option AV} {b:Nat} (hf:∀ x,(f x).length≤b)
 (hL:∀ (n i:Nat) (out:List β),i < t.length→out.length+b≤room→L (n+1) out (i:Int)=bif q (t.getD i dv) then L n (out++f (t.getD i dv)) ((i+1:Nat):Int) else R) (hE:∀ n out,L (n+1) out ((t.length:Nat):Int)=k0 out) :
 ∀ (d i n:Nat) (out:List β),i+d=t.length→d < n→out.length+b*d≤room→L n out (i:Int)=bif (t.drop i).all q then k0 (out++(t.drop i).flatMap f) else R
 | d,i,0,out,hi,hn,_=>by omega
 | 0,i,n+1,out,hi,hn,_=>by
  obtain rfl:i=t.length:=by omega
  rw [hE,List.drop_eq_nil_of_le (by omega)]
  simp
 | d+1,i,n+1,out,hi,hn,hb=>by
  have hlt:i < t.length:=by omega
  have hx:=hf (t.getD i dv)
  have hb':b*(d+1)=b*d+b:=by rw [Nat.mul_succ]
  have h0:0≤b*d:=Nat.zero_le _
  rw [hL n i out hlt (by omega),qgl (α:=α) (β:=β) hf hL hE d (i+1) n _ (by omega) (by omega) (by rw [List.length_append]; omega),qaX (d:=dv) hlt]
  simp only [List.all_cons,List.flatMap_cons,List.append_assoc]
  cases q (t.getD i dv) <;> rfl
theorem qvn:∀ (charset0:Int),∃ n,quG n charset0=qeL (z61 charset0):=fun cs=>⟨0,by
 unfold quG z61
 cases (cs==(1:Int)) <;> cases (cs==(2:Int)) <;> cases (cs==(3:Int)) <;> cases (cs==(4:Int)) <;> cases (cs==(5:Int)) <;> rfl⟩
theorem qvo:∀ (charset0:Int),∃ n,quH n charset0=qnU (z46 charset0):=fun cs=>⟨0,by
 unfold quH z46 z61
 cases (cs==(1:Int)) <;> cases (cs==(2:Int)) <;> cases (cs==(3:Int)) <;> cases (cs==(4:Int)) <;> cases (cs==(5:Int)) <;> rfl⟩
theorem qvp:∀ (n0:Int),∃ n,quE n n0=qnT (z27 n0):=fun cs=>⟨0,by
 unfold quE z27
 cases decide ((1:Int)≤cs) <;> rfl⟩
theorem qvq:∀ (n0:Int),∃ n,quF n n0=qkn (z39 n0):=fun cs=>⟨0,by
 unfold quF z39
 cases (cs==(1:Int)) <;> cases (cs==(2:Int)) <;> rfl⟩
theorem qiG (cs:Int):(z46 cs).length≤12:=by
 unfold z46 z61
 cases (cs==(1:Int)) <;> cases (cs==(2:Int)) <;> cases (cs==(3:Int)) <;> cases (cs==(4:Int)) <;> cases (cs==(5:Int)) <;> decide
theorem qoe (n:Int):(z39 n).length≤1:=by
 unfold z39
 cases (n==(1:Int)) <;> cases (n==(2:Int)) <;> decide
theorem qvr:∀ (charset0:Int) (code1:Int),∃ n,quI n charset0 code1=qsH (z28 charset0 code1):=fun cs n=>⟨0,by
 unfold quI z28
 have h1:=qiG cs
 have h2:=qoe n
 simp (disch:=(simp; omega)) only [dT,cond_true]⟩
theorem qvs:∀ (charset0:Int),∃ n,quJ n charset0=qhB (z17 charset0):=fun cs=>⟨0,by
 unfold quJ z17 z28
 have h1:=qiG cs
 cases z27 cs with
 | false=>rfl
 | true =>
  show qhB _=qhB _
  congr 1
  rw [show z39 2=[81] from rfl]
  simp only [List.length_append,List.length_cons,List.length_nil]
  have e:∀ k:Nat,k≤100→IntKind.wrap .i64 (IntKind.wrap .i64 ((k:Int)+1)+1)=((k+2:Nat):Int):=fun k hk=>by
   rw [IntWalk.i64_in ((k:Int)+1) (by omega),IntWalk.i64_in _ (by omega)]; omega
  rw [e _ (by omega)]
  simp only [Bool.not_true,cond_false]
  omega⟩
theorem qvt:∀ (c0:UInt8),∃ n,quC n c0=qkk (z57 c0):=fun c=>⟨0,by
 unfold quC z57
 cases (c==(32:UInt8)) <;> cases z75 c 128 <;> rfl⟩
theorem qrE (c:UInt8):(z57 c).toNat≤3∧z57 c=((z57 c).toNat:Int):=by
 unfold z57
 cases (c==(32:UInt8)) <;> cases z75 c 128 <;> decide
theorem qkr (k0:Int→Option AV) (s:List UInt8) (hl:s.length≤4194304):∀ (d i n m:Nat),i+d=s.length→d < n→m+3*d≤100000000 →
 qiA k0 n (m:Nat) s ((s.length:Nat):Int) (i:Nat)=k0 ((m+qLen (s.drop i):Nat):Int)
 | d,i,0,m,hi,hn,_=>by omega
 | 0,i,n+1,m,hi,hn,_=>by
  show qdl _ _ n _ _ _ _=_
  unfold qdl
  rw [dF (by omega),cond_false,List.drop_eq_nil_of_le (by omega)]
  rfl
 | d+1,i,n+1,m,hi,hn,hm=>by
  show qdl _ _ n _ _ _ _=_
  unfold qdl
  have hlt:i < s.length:=by omega
  have h1:=qrE (s.getD i 0)
  rw [qaX (d:=(0:UInt8)) hlt]
  simp (disch:=omega) only [dT,cond_true,Bool.and_true,tn,qL]
  rw [h1.2,show IntKind.wrap .i64 ((m:Int)+(((z57 (s.getD i 0)).toNat:Nat):Int))=((m+(z57 (s.getD i 0)).toNat:Nat):Int) from by rw [IntWalk.i64_in _ (by omega)]; omega,
   qkr k0 s hl d (i+1) n _ (by omega) (by omega) (by omega)]
  congr 1
  unfold qLen
  simp only [List.map_cons,List.sum_cons]
  omega
theorem qvu:∀ (s0:List UInt8),(qfe s0=true)→∃ n,qrw n s0=qsE (z43 s0):=fun s h=>⟨s.length+1,by
 unfold qfe at h
 have hl:s.length≤4194304:=by simpa using h
 unfold qrw
 refine (qkr (qeK (s.length+1)) s hl s.length 0 (s.length+1) 0 (by omega) (by omega) (by omega)).trans ?_
 rw [List.drop_zero,Nat.zero_add]
 rfl⟩
theorem qvv:∀ (n0:Int),∃ n,quz n n0=qnS (z42 n0):=fun n=>⟨0,by
 unfold quz z42
 cases decide (n < 1) <;> rfl⟩
theorem qgm (c:UInt8):(qaM c).length=(z57 c).toNat:=by
 unfold qaM z57 qgr qeV
 cases (c==(32:UInt8)) <;> cases z75 c 128 <;> rfl
theorem qof:∀ s:List UInt8,(qr s).length=8*s.length
 | []=>rfl
 | c :: r=>by
  have h:=qof r
  unfold qr at h ⊢
  rw [List.flatMap_cons,List.length_append,h]
  simp only [qcE,List.length_cons,List.length_nil]
  omega
theorem qks:∀ (n:Nat) (l:List Int),(sixes n l).length=n
 | 0,_=>rfl
 | n+1,l=>by
  unfold sixes
  rw [List.length_cons,qks n]
theorem qvw (s:List UInt8):(qk s).length=(8*s.length+qar (8*s.length) 6) / 6:=by
 unfold qk
 rw [qks]
 unfold padTo
 rw [List.length_append,List.length_replicate,qof]
theorem and63 (n:Int):bits .and .i64 n 63=n % 64:=by
 have h:(BitVec.ofInt 64 n &&& BitVec.ofInt 64 63).toNat=(n % 64).toNat:=by
  rw [BitVec.toNat_and]
  have h1:(BitVec.ofInt 64 63).toNat=2 ^ 6 - 1:=by decide
  rw [h1,Nat.and_two_pow_sub_one_eq_mod,BitVec.toNat_ofInt]
  omega
 show IntKind.wrap .i64 (((BitVec.ofInt 64 n &&& BitVec.ofInt 64 63).toNat:Nat):Int)=_
 rw [h,IntWalk.i64_in _ (by omega)]
 omega
theorem qvx:∀ (n0:Int),∃ n,quW n n0=qsP (z78 n0):=fun n=>⟨0,by
 unfold quW z78
 rw [and63]
 have h0:(0:Int)≤n % 64:=by omega
 have h1:n % 64 < (((b64D.length:Nat)):Int):=by show n % 64 < ((64:Nat):Int); omega
 rw [decide_eq_true h0]
 show (bif true&&decide (n % 64 < (((b64D.length:Nat)):Int)) then _ else _)=_
 rw [decide_eq_true h1]
 rfl⟩
theorem qzI (a b k:Nat) (hb:b < 2 ^ k) (h:a*2 ^ k+b < 9223372036854775808):bits .or .i64 ((a*2 ^ k:Nat):Int) (b:Int)=((a*2 ^ k+b:Nat):Int):=by
 have h1:(BitVec.ofInt 64 ((a*2 ^ k:Nat):Int)).toNat=a*2 ^ k:=by rw [BitVec.toNat_ofInt]; omega
 have h2:(BitVec.ofInt 64 ((b:Nat):Int)).toNat=b:=by rw [BitVec.toNat_ofInt]; omega
 have h3:(BitVec.ofInt 64 ((a*2 ^ k:Nat):Int) ||| BitVec.ofInt 64 (b:Int)).toNat=a*2 ^ k+b:=by
  rw [BitVec.toNat_or,h1,h2]
  have:=Nat.shiftLeft_add_eq_or_of_lt hb a
  rw [Nat.shiftLeft_eq] at this
  exact this.symm
 show IntKind.wrap .i64 (((BitVec.ofInt 64 ((a*2 ^ k:Nat):Int) ||| BitVec.ofInt 64 (b:Int)).toNat:Nat):Int)=_
 rw [h3,IntWalk.i64_in _ (by omega)]
theorem qog (n k:Nat) (hn:n < 9223372036854775808) (hk:2 ^ k≤4611686018427387904):bits .and .i64 (n:Int) ((2 ^ k - 1:Nat):Int)=((n % 2 ^ k:Nat):Int):=by
 have hpos:0 < 2 ^ k:=Nat.pow_pos (by decide)
 have h1:(BitVec.ofInt 64 (n:Int)).toNat=n:=by rw [BitVec.toNat_ofInt]; omega
 have h2:(BitVec.ofInt 64 ((2 ^ k - 1:Nat):Int)).toNat=2 ^ k - 1:=by rw [BitVec.toNat_ofInt]; omega
 have h3:(BitVec.ofInt 64 (n:Int) &&& BitVec.ofInt 64 ((2 ^ k - 1:Nat):Int)).toNat=n % 2 ^ k:=by
  rw [BitVec.toNat_and,h1,h2,Nat.and_two_pow_sub_one_eq_mod]
 have h4:n % 2 ^ k < 2 ^ k:=Nat.mod_lt _ hpos
 show IntKind.wrap .i64 (((BitVec.ofInt 64 (n:Int) &&& BitVec.ofInt 64 ((2 ^ k - 1:Nat):Int)).toNat:Nat):Int)=_
 rw [h3,IntWalk.i64_in _ (by omega)]
theorem fdivN (n k:Nat):Int.fdiv (n:Int) ((k:Nat):Int)=((n / k:Nat):Int):=by
 rw [Int.fdiv_eq_ediv_of_nonneg _ (Int.natCast_nonneg k),Int.natCast_ediv]
theorem held8 (h x:Nat) (hh:h < 16) (hx:x < 256):bits .or .i64 (IntKind.wrap .i64 ((h:Int)*2 ^ (min (Int.toNat (8:Int)) (IntKind.bits .i64)))) (IntKind.wrap .i64 (x:Int))=((h*256+x:Nat):Int):=by
 have e:IntKind.wrap .i64 ((h:Int)*2 ^ (min (Int.toNat (8:Int)) (IntKind.bits .i64)))=((h*2 ^ 8:Nat):Int):=by
  show IntKind.wrap .i64 ((h:Int)*256)=_
  rw [IntWalk.i64_in _ (by omega)]; omega
 rw [e,IntWalk.i64_in _ (by omega),qzI h x 8 (by omega) (by omega)]
theorem qxF (k2:List UInt8→Int→Int→List UInt8→Int→Int→Option AV) (n:Nat) (out:List UInt8) (h:Nat) (s8:List UInt8) (s9 s10:Int) (ho:out.length+1≤room) :
 qdq k2 (n+3) out (h:Int) 8 s8 s9 s10=k2 (out++[z78 ((h / 4:Nat):Int)]) (h:Int) 2 s8 s9 s10:=by
 have e:qdq k2 (n+3) out (h:Int) 8 s8 s9 s10=bif decide (out.length+1≤room) then k2 (out++[z78 (Int.fdiv (h:Int) ((4:Nat):Int))]) (h:Int) 2 s8 s9 s10 else none:=rfl
 rw [e,dT ho,cond_true,fdivN]
theorem qxG (k2:List UInt8→Int→Int→List UInt8→Int→Int→Option AV) (n:Nat) (out:List UInt8) (h:Nat) (s8:List UInt8) (s9 s10:Int) (ho:out.length+1≤room) :
 qdq k2 (n+3) out (h:Int) 10 s8 s9 s10=k2 (out++[z78 ((h / 16:Nat):Int)]) (h:Int) 4 s8 s9 s10:=by
 have e:qdq k2 (n+3) out (h:Int) 10 s8 s9 s10=bif decide (out.length+1≤room) then k2 (out++[z78 (Int.fdiv (h:Int) ((16:Nat):Int))]) (h:Int) 4 s8 s9 s10 else none:=rfl
 rw [e,dT ho,cond_true,fdivN]
theorem qxH (k2:List UInt8→Int→Int→List UInt8→Int→Int→Option AV) (n:Nat) (out:List UInt8) (h:Nat) (s8:List UInt8) (s9 s10:Int) (ho:out.length+2≤room) :
 qdq k2 (n+3) out (h:Int) 12 s8 s9 s10=k2 (out++[z78 ((h / 64:Nat):Int),z78 (h:Int)]) (h:Int) 0 s8 s9 s10:=by
 have e:qdq k2 (n+3) out (h:Int) 12 s8 s9 s10=bif decide (out.length+1≤room) then (bif decide ((out++[z78 (Int.fdiv (h:Int) ((64:Nat):Int))]).length+1≤room) then k2 ((out++[z78 (Int.fdiv (h:Int) ((64:Nat):Int))])++[z78 (Int.fdiv (h:Int) ((1:Nat):Int))]) (h:Int) 0 s8 s9 s10 else none) else none:=rfl
 rw [e,dT (show out.length+1≤room by omega),cond_true,dT (by rw [List.length_append]; exact ho),cond_true,fdivN,fdivN,Nat.div_one,List.append_assoc]; rfl
theorem qrF (k0:List UInt8→Int→Int→Option AV) (next:List UInt8→Int→Int→List UInt8→Int→Int→Option AV) (j n:Nat) (out:List UInt8) (h m x:Nat) (s8:List UInt8) (s9 s10:Int)
 (hm:m=0∨m=2∨m=4) (hh:h < 2 ^ m) (hx:x < 256) (ho:out.length+2≤room) :
 qdq (qbA k0 next j) (n+3) out (bits .or .i64 (IntKind.wrap .i64 ((h:Int)*2 ^ (min (Int.toNat (8:Int)) (IntKind.bits .i64)))) (IntKind.wrap .i64 (x:Int))) (IntKind.wrap .i64 ((m:Int)+8)) s8 s9 s10
  = next (out++encD m h x) (encH m h x:Nat) (encM m:Nat) s8 s9 (IntKind.wrap .i64 (s10+1)):=by
 have hh16:h < 16:=by rcases hm with rfl | rfl | rfl <;> omega
 rw [held8 h x hh16 hx]
 rcases hm with rfl | rfl | rfl
 ·rw [show IntKind.wrap .i64 (((0:Nat):Int)+8)=8 from rfl,qxF _ _ _ _ _ _ _ (by omega)]
  have e:qbA k0 next j (out++[z78 (((h*256+x) / 4:Nat):Int)]) ((h*256+x:Nat):Int) 2 s8 s9 s10=next (out++[z78 (((h*256+x) / 4:Nat):Int)]) (bits .and .i64 ((h*256+x:Nat):Int) ((2 ^ 2 - 1:Nat):Int)) 2 s8 s9 (IntKind.wrap .i64 (s10+1)):=rfl
  rw [e,qog _ 2 (by omega) (by decide)]
  have e2:encD 0 h x=[z78 (((h*256+x) / 4:Nat):Int)]:=rfl
  have e3:encH 0 h x=(h*256+x) % 2 ^ 2:=rfl
  have e4:encM 0=2:=rfl
  rw [e2,e3,e4]; rfl
 ·rw [show IntKind.wrap .i64 (((2:Nat):Int)+8)=10 from rfl,qxG _ _ _ _ _ _ _ (by omega)]
  have e:qbA k0 next j (out++[z78 (((h*256+x) / 16:Nat):Int)]) ((h*256+x:Nat):Int) 4 s8 s9 s10=next (out++[z78 (((h*256+x) / 16:Nat):Int)]) (bits .and .i64 ((h*256+x:Nat):Int) ((2 ^ 4 - 1:Nat):Int)) 4 s8 s9 (IntKind.wrap .i64 (s10+1)):=rfl
  rw [e,qog _ 4 (by omega) (by decide)]
  have e2:encD 2 h x=[z78 (((h*256+x) / 16:Nat):Int)]:=rfl
  have e3:encH 2 h x=(h*256+x) % 2 ^ 4:=rfl
  have e4:encM 2=4:=rfl
  rw [e2,e3,e4]; rfl
 ·rw [show IntKind.wrap .i64 (((4:Nat):Int)+8)=12 from rfl,qxH _ _ _ _ _ _ _ ho]
  have e0:qbA k0 next j (out++[z78 (((h*256+x) / 64:Nat):Int),z78 ((h*256+x:Nat):Int)]) ((h*256+x:Nat):Int) 0 s8 s9 s10=next (out++[z78 (((h*256+x) / 64:Nat):Int),z78 ((h*256+x:Nat):Int)]) (bits .and .i64 ((h*256+x:Nat):Int) ((2 ^ 0 - 1:Nat):Int)) 0 s8 s9 (IntKind.wrap .i64 (s10+1)):=rfl
  rw [e0,qog _ 0 (by omega) (by decide)]
  have e3:encH 4 h x=(h*256+x) % 2 ^ 0:=rfl
  have e4:encM 4=0:=rfl
  have e:encD 4 h x=[z78 (((h*256+x) / 64:Nat):Int),z78 ((h*256+x:Nat):Int)]:=by
   show [z78 (((h*256+x:Nat):Int) / 64),_]=_
   rw [Int.natCast_ediv]; rfl
  rw [e,e3,e4]; rfl
theorem qvy (m:Nat) (s out:List UInt8) (mm h:Nat) (e:EncSt s out mm h) (ho:out.length+1≤room):qcd m out (h:Int) (mm:Int)=qhD (qk s):=by
 have hc:=e.cases
 have hl:=e.lt
 unfold qcd
 rcases hc with rfl | rfl | rfl
 ·rw [dF (by omega),cond_false,e.bare_nil]
 ·rw [e.bare_some (by decide),dT (by omega),cond_true]
  have e1:IntKind.wrap .i64 ((h:Int)*2 ^ (min (Int.toNat (IntKind.wrap .i64 ((6:Int) - ((2:Nat):Int)))) (IntKind.bits .i64)))=((h*2 ^ (6 - 2):Nat):Int):=by
   show IntKind.wrap .i64 ((h:Int)*16)=_
   rw [IntWalk.i64_in _ (by omega)]; omega
  rw [e1,dT (show (0:Int)≤IntKind.wrap .i64 ((6:Int) - ((2:Nat):Int)) from by decide),cond_true,dT (show out.length+[_].length≤room from ho),cond_true]
 ·rw [e.bare_some (by decide),dT (by omega),cond_true]
  have e1:IntKind.wrap .i64 ((h:Int)*2 ^ (min (Int.toNat (IntKind.wrap .i64 ((6:Int) - ((4:Nat):Int)))) (IntKind.bits .i64)))=((h*2 ^ (6 - 4):Nat):Int):=by
   show IntKind.wrap .i64 ((h:Int)*4)=_
   rw [IntWalk.i64_in _ (by omega)]; omega
  rw [e1,dT (show (0:Int)≤IntKind.wrap .i64 ((6:Int) - ((4:Nat):Int)) from by decide),cond_true,dT (show out.length+[_].length≤room from ho),cond_true]
theorem qvz (m h x:Nat):(encD m h x).length≤2:=by
 unfold encD
 cases m==4
 ·exact Nat.le_succ 1
 ·exact Nat.le_refl 2
theorem qhF (j:Nat) (s:List UInt8) (hl:s.length≤1048576):∀ (d i n:Nat) (out:List UInt8) (h m:Nat),i+d=s.length→d+3 < n→EncSt (s.take i) out m h→out.length≤2*i →
 qiF (qcd j) n out (h:Int) (m:Int) s (s.length:Nat) (i:Nat)=qhD (qk s)
 | d,i,0,out,h,m,hi,hn,_,_=>by omega
 | 0,i,n+1,out,h,m,hi,hn,e,ho=>by
  obtain rfl:i=s.length:=by omega
  show qcc _ _ n _ _ _ _ _ _=_
  unfold qcc
  rw [dF (by omega),cond_false]
  rw [List.take_length] at e
  exact qvy j s out m h e (by unfold room; omega)
 | d+1,i,n+1,out,h,m,hi,hn,e,ho=>by
  show qcc _ _ n _ _ _ _ _ _=_
  unfold qcc
  have hlt:i < s.length:=by omega
  have hx:=(s.getD i 0).toNat_lt
  simp (disch:=omega) only [dT,cond_true,Bool.and_true,tn]
  obtain ⟨n',rfl⟩:∃ n',n=n'+3:=⟨n - 3,by omega⟩
  rw [qrF _ _ _ n' out h m _ s _ _ e.cases e.lt hx (by unfold room; omega),qL (by omega)]
  have e2:=e.step (s.getD i 0)
  have ht:s.take i++[s.getD i 0]=s.take (i+1):=by
   rw [List.take_succ_eq_append_getElem hlt,List.getD_eq_getElem?_getD,List.getElem?_eq_getElem hlt]; rfl
  rw [ht] at e2
  have hd:=qvz m h (s.getD i 0).toNat
  exact qhF j s hl d (i+1) (n'+3) _ _ _ (by omega) (by omega) e2 (by rw [List.length_append]; omega)
theorem qvA:∀ (s0:List UInt8),(qxZ s0=true)→∃ n,qrC n s0=qhD (z60 s0):=fun s h=>⟨s.length+5,by
 have hl:=qw h
 unfold qrC
 exact qhF (s.length+5) s hl s.length 0 (s.length+5) [] 0 0 (by omega) (by omega) EncSt.nil (by simp)⟩
theorem qrG {s:List UInt8} {i:Nat} (h:i < s.length):s.drop i=s.getD i 0 :: s.drop (i+1):=by
 rw [List.drop_eq_getElem_cons h,List.getD_eq_getElem?_getD,List.getElem?_eq_getElem h]; rfl
theorem qkt (m:Nat) (s:List UInt8) (hl:s.length≤262144):∀ (d i n:Nat) (out:List UInt8),i+d=s.length→d < n→out.length≤3*i →
 qiE (qeO m) n out s (s.length:Nat) (i:Nat)=qhC (out++qax (s.drop i))
 | d,i,0,out,hi,hn,_=>by omega
 | 0,i,n+1,out,hi,hn,ho=>by
  obtain rfl:i=s.length:=by omega
  show qdp _ _ n _ _ _ _=_
  unfold qdp
  rw [dF (by omega),cond_false,List.drop_length]
  show qhC out=qhC (out++[])
  rw [List.append_nil]
 | d+1,i,n+1,out,hi,hn,ho=>by
  show qdp _ _ n _ _ _ _=_
  unfold qdp
  have hlt:i < s.length:=by omega
  have e:qax (s.drop i)=qaM (s.getD i 0)++qax (s.drop (i+1)):=by rw [qrG hlt]; rfl
  have hlen:(qaM (s.getD i 0)).length≤3:=by rw [qgm]; exact (qrE _).1
  have ih:=qkt m s hl d (i+1) n (out++qaM (s.getD i 0)) (by omega) (by omega) (by rw [List.length_append]; omega)
  rw [e,← List.append_assoc,← ih]
  simp (disch:=omega) only [dT,cond_true,Bool.and_true,tn]
  have hroom:∀ y:UInt8,out.length+([y]:List UInt8).length≤room:=fun y=>by show out.length+1≤room; unfold room; omega
  have hd:qaM (s.getD i 0)=bif s.getD i 0==32 then [95] else bif qeV (s.getD i 0) 128 then [s.getD i 0] else qgr [] 61 (s.getD i 0):=rfl
  have hq:z57 (s.getD i 0)=bif (s.getD i 0==32)||z75 (s.getD i 0) 128 then 1 else 3:=rfl
  rw [qL (by omega),hd,hq]
  cases h32:s.getD i 0==32 with
  | true=>rw [cond_true,dT (hroom 95)]; rfl
  | false =>
   rw [Bool.false_or]
   cases hw:z75 (s.getD i 0) 128 with
   | true=>rw [show qeV (s.getD i 0) 128=true from hw,cond_false,cond_true,show ((1:Int)==1)=true from rfl,cond_true,dT (hroom _)]; rfl
   | false =>
    rw [show qeV (s.getD i 0) 128=false from hw,cond_false,cond_false,show ((3:Int)==1)=false from rfl,cond_false]
    have hok:qrT out 61 (s.getD i 0)=true:=qbf (by omega)
    rw [hok]
    rfl
theorem qku:∀ s:List UInt8,qLen s≤3*s.length
 | []=>Nat.le_refl _
 | c :: r=>by
  have h1:=qku r
  have h2:=(qrE c).1
  unfold qLen at h1 ⊢
  simp only [List.map_cons,List.sum_cons,List.length_cons]
  omega
theorem qvB:∀ (s0:List UInt8),(qsg s0=true)→∃ n,qrB n s0=qhC (z40 s0):=fun s h=>⟨s.length+1,by
 have hl:s.length≤262144:=of_decide_eq_true h
 have hq:=qku s
 unfold qrB
 rw [show qfe s=true from by unfold qfe; exact decide_eq_true (by omega)]
 have h1:(0:Int)≤z43 s:=by show (0:Int)≤((qLen s:Nat):Int); omega
 have h2:z43 s≤(room:Int):=by show ((qLen s:Nat):Int)≤_; unfold room; omega
 rw [dT h1,dT h2]
 have:=qkt (s.length+1) s hl s.length 0 (s.length+1) [] (by omega) (by omega) (by simp)
 rw [List.drop_zero,List.nil_append] at this
 exact this⟩
theorem qsQ (ret:Bool→Option AV) (a b:List Int) (hab:a.length=b.length) (hl:a.length≤1048576):∀ (d i n:Nat),i+d=a.length→d < n →
 z6_l4 ret (ret true) n a b (i:Nat)=ret (decide (a.drop i=b.drop i))
 | d,i,0,hi,hn=>by omega
 | 0,i,n+1,hi,hn=>by
  show qfv ret (ret true) (z6_l4 ret (ret true) n) n a b _=_
  unfold qfv
  rw [decide_eq_false (by omega),cond_false,List.drop_eq_nil_of_le (by omega),List.drop_eq_nil_of_le (by omega)]
  rfl
 | d+1,i,n+1,hi,hn=>by
  show qfv ret (ret true) (z6_l4 ret (ret true) n) n a b _=_
  unfold qfv
  have hlt:i < a.length:=by omega
  have hlt':i < b.length:=by omega
  have ih:=qsQ ret a b hab hl d (i+1) n (by omega) (by omega)
  simp (disch:=omega) only [dT,cond_true,Bool.and_true,tn,qL]
  rw [ih,qrD hlt hlt' 0]
  cases (a.getD i 0 != b.getD i 0) <;> rfl
theorem qxI:∀ (a0:List Int) (b1:List Int),(z6_ok a0 b1=true)→∃ n,z6_sh n a0 b1=qlA (z6 a0 b1):=fun a b h=>⟨a.length+1,by
 unfold z6_sh z6
 by_cases hab:a.length=b.length
 ·rw [show (((a.length:Nat):Int) != ((b.length:Nat):Int))=false by simp [hab],cond_false]
  exact qsQ qlA a b hab (qw h) a.length 0 (a.length+1) (by omega) (by omega)
 ·rw [show (((a.length:Nat):Int) != ((b.length:Nat):Int))=true by simp only [bne_iff_ne,ne_eq]; omega,cond_true,decide_eq_false (fun e=>hab (by rw [e]))]⟩
theorem qhG (cs:Int):(z46 cs).length≤20:=by
 unfold z46 z61
 cases cs==1
 ·cases cs==2
  ·cases cs==3
   ·cases cs==4
    ·cases cs==5
     ·exact Nat.zero_le _
     ·exact Nat.le_of_ble_eq_true rfl
    ·exact Nat.le_of_ble_eq_true rfl
   ·exact Nat.le_of_ble_eq_true rfl
  ·exact Nat.le_of_ble_eq_true rfl
 ·exact Nat.le_of_ble_eq_true rfl
theorem qlC (c:Int):(z39 c).length≤1:=by
 unfold z39
 cases c==1
 ·cases c==2
  ·exact Nat.zero_le _
  ·exact Nat.le_refl _
 ·exact Nat.le_refl _
theorem qoh (cs c:Int):(z28 cs c).length≤25:=by
 have h1:=qhG cs
 have h2:=qlC c
 unfold z28
 simp only [List.length_append,List.length_cons,List.length_nil]
 omega
theorem qvC (s:List UInt8):(z41 s).length≤4*s.length+8:=by
 obtain ⟨k,hk,e,_⟩:=qrR s
 have h6:=(qgq s).2.2.2
 have:(z41 s).length=(qk s).length+k:=by rw [show z41 s=qk s++List.replicate k 61 from e,List.length_append,List.length_replicate]
 unfold qar at h6
 omega
theorem qoi:∀ s:List UInt8,(qax s).length≤3*s.length
 | []=>Nat.le_refl _
 | c :: r=>by
  have h1:=qoi r
  have h2:=(qrE c).1
  show (qaM c++qax r).length≤_
  rw [List.length_append,qgm,List.length_cons]; omega
theorem isE (s:List UInt8):(((s.length:Nat):Int)==0)=s.isEmpty:=by
 cases s with
 | nil=>rfl
 | cons x r=>simp only [List.isEmpty_cons,List.length_cons]; rw [beq_eq_false_iff_ne]; omega
theorem i75 (l:List UInt8):decide ((75:Int) < ((l.length:Nat):Int))=decide (75 < l.length):=by
 by_cases h:75 < l.length
 ·rw [dT (by omega),decide_eq_true h]
 ·rw [dF (by omega),decide_eq_false h]
theorem qvD:∀ (charset0:Int) (code1:Int) (s2:List UInt8),(qsh charset0 code1 s2=true)→∃ n,quX n charset0 code1 s2=qdA (z24 charset0 code1 s2).1 (z24 charset0 code1 s2).2:=fun cs code s h=>⟨0,by
 have hl:s.length≤262144:=of_decide_eq_true h
 have h1:=qoh cs code
 have h2:=qvC s
 have h3:(z40 s).length≤3*s.length:=qoi s
 have hroom:room ≥ 4000000:=by unfold room; omega
 unfold quX z24
 rw [show qsg s=true from decide_eq_true hl,show qwu s=true from qbf (by omega),isE,i75,i75]
 rw [decide_eq_true (show (z28 cs code).length≤room by omega),decide_eq_true (show (z28 cs code).length+(z41 s).length≤room by omega),decide_eq_true (show (z28 cs code).length+(z40 s).length≤room by omega),
  decide_eq_true (show ((z28 cs code)++(z41 s)).length+([63,61]:List UInt8).length≤room by rw [List.length_append]; simp only [List.length_cons,List.length_nil]; omega),
  decide_eq_true (show ((z28 cs code)++(z40 s)).length+([63,61]:List UInt8).length≤room by rw [List.length_append]; simp only [List.length_cons,List.length_nil]; omega)]
 cases z27 cs
 ·rfl
 ·cases (z39 code==[])
  ·cases s.isEmpty
   ·cases (code==1)
    ·simp only [cond_true,cond_false,Bool.not_true,Bool.or_self,Bool.and_true]
     cases decide (75 < (z28 cs code++z40 s++[63,61]).length) <;> rfl
    ·simp only [cond_true,cond_false,Bool.not_true,Bool.or_self,Bool.and_true]
     cases decide (75 < (z28 cs code++z41 s++[63,61]).length) <;> rfl
   ·rfl
  ·rfl⟩
theorem qvE:∀ (c0:Int),∃ n,qup n c0=qnM (z79 c0):=fun c=>⟨0,by
 unfold qup z79
 cases decide ((55296:Int)≤c) <;> rfl⟩
theorem qvF:∀ (c0:Int),∃ n,quq n c0=qnN (z65 c0):=fun c=>⟨0,by
 unfold quq z65
 cases decide (IntKind.wrap .u32 c≤1114111) <;> rfl⟩
theorem qvG:∀ (c0:Int),∃ n,qxv n c0=qsx (z81 c0):=fun _=>⟨0,rfl⟩
theorem qeR {p:Int→Bool} {t:List Int} {k0:Option AV} {ret:Int→Option AV} {x:Option AV} (h:x=bif qav p (t.drop 0) (0:Nat) == -1 then k0 else ret (qav p (t.drop 0) (0:Nat))) (hk:k0=ret (-1)):x=ret (qav p t 0):=by
 rw [h,List.drop_zero]
 cases e:(qav p t (0:Nat) == -1) with
 | true =>
  rw [beq_iff_eq] at e
  have e':qav p t 0 = -1:=e
  rw [e',hk]
  rfl
 | false=>rfl
theorem qvH:∀ (s0:List Int) (v1:Int),(qhM s0 v1=true)→∃ n,qrn n s0 v1=qhs (z73 s0 v1):=fun t v h=>⟨t.length+1,by
 have hl:=qw (l:=t) h
 unfold qrn z73
 refine qeR (qbJ (L:=fun n i=>qis qhs (qeE (t.length+1)) n t v ((t.length:Nat):Int) i) hl (fun n i hi=>?_) (fun n=>?_) t.length 0 (t.length+1) (by omega) (by omega)) rfl
 ·show qcY _ _ _ n _ _ _ _=_
  unfold qcY
  simp (disch:=omega) only [dT,cond_true,Bool.and_true,tn,qL]
  cases (v==t.getD i 0) <;> rfl
 ·show qcY _ _ _ n _ _ _ _=_
  unfold qcY
  rw [dF (by omega)]
  rfl⟩
theorem qvI:∀ (t:List Int),(qrU t=true)→∃ n,qrp n t=qhu (z80 t):=fun t h=>⟨t.length+1,by
 have hl:=qw (l:=t) h
 unfold qrp z80
 refine qeR (qbJ (L:=fun n i=>qiu qhu (qeG (t.length+1)) n t ((t.length:Nat):Int) i) hl (fun n i hi=>?_) (fun n=>?_) t.length 0 (t.length+1) (by omega) (by omega)) rfl
 ·show qda _ _ _ n _ _ _=_
  unfold qda
  simp (disch:=omega) only [dT,cond_true,Bool.and_true,tn,qL]
  unfold z81
  cases z65 (t.getD i 0) <;> rfl
 ·show qda _ _ _ n _ _ _=_
  unfold qda
  rw [dF (by omega)]
  rfl⟩
theorem qvJ:∀ (t:List Int),(qrY t=true)→∃ n,qrs n t=qhw (z54 t):=fun t h=>⟨t.length+1,by
 have hl:=qw (l:=t) h
 unfold qrs z54
 refine qeR (qbJ (L:=fun n i=>qix qhw (qeH (t.length+1)) n t ((t.length:Nat):Int) i) hl (fun n i hi=>?_) (fun n=>?_) t.length 0 (t.length+1) (by omega) (by omega)) rfl
 ·show qdf _ _ _ n _ _ _=_
  unfold qdf
  simp (disch:=omega) only [dT,cond_true,Bool.and_true,tn,qL]
  cases z64 (t.getD i 0) <;> rfl
 ·show qdf _ _ _ n _ _ _=_
  unfold qdf
  rw [dF (by omega)]
  rfl⟩
theorem qvK:∀ (t:List Int),(qrZ t=true)→∃ n,qru n t=qhx (z56 t):=fun t h=>⟨t.length+1,by
 have hl:=qw (l:=t) h
 unfold qru z56
 refine qeR (qbJ (L:=fun n i=>qiz qhx (qeI (t.length+1)) n t ((t.length:Nat):Int) i) hl (fun n i hi=>?_) (fun n=>?_) t.length 0 (t.length+1) (by omega) (by omega)) rfl
 ·show qdi _ _ _ n _ _ _=_
  unfold qdi
  simp (disch:=omega) only [dT,cond_true,Bool.and_true,tn,qL]
  cases z62 (t.getD i 0) <;> rfl
 ·show qdi _ _ _ n _ _ _=_
  unfold qdi
  rw [dF (by omega)]
  rfl⟩
theorem qvL:∀ (cs:Int) (t:List Int),(qse cs t=true)→∃ n,qro n cs t=qht (z50 cs t):=fun cs t h=>⟨t.length+1,by
 have hl:=qw (l:=t) h
 unfold qro z50
 refine qeR (qbJ (L:=fun n i=>qit qht (qeF (t.length+1)) n cs t ((t.length:Nat):Int) i) hl (fun n i hi=>?_) (fun n=>?_) t.length 0 (t.length+1) (by omega) (by omega)) rfl
 ·show qcZ _ _ _ n _ _ _ _=_
  unfold qcZ
  simp (disch:=omega) only [dT,cond_true,Bool.and_true,tn,qL]
  cases z47 cs (t.getD i 0) <;> rfl
 ·show qcZ _ _ _ n _ _ _ _=_
  unfold qcZ
  rw [dF (by omega)]
  rfl⟩
theorem qvM:∀ (t0:List Int),(qrV t0=true)→∃ n,qut n t0=qsy (z68 t0):=fun t h=>⟨0,by
 unfold qut
 rw [show qrU t=true from h]
 rfl⟩
theorem qvN:∀ (t0:List Int),(qrW t0=true)→∃ n,quu n t0=qsz (z51 t0):=fun t h=>⟨0,by
 unfold quu
 rw [show qrV t=true from h]
 rfl⟩
theorem qvO:∀ (c0:Int),∃ n,quv n c0=qfq (z69 c0):=fun c=>⟨0,by
 unfold quv z69
 cases z65 c <;> cases decide (c < (128:Int)) <;> cases decide (c < (2048:Int)) <;> cases decide (c < (65536:Int)) <;> rfl⟩
theorem qkv (c:Int):z69 c=0∨z69 c=1∨z69 c=2∨z69 c=3∨z69 c=4:=by
 unfold z69
 cases z65 c <;> cases decide (c < (128:Int)) <;> cases decide (c < (2048:Int)) <;> cases decide (c < (65536:Int)) <;> simp
theorem qvP:∀ (b0:List UInt8) (c1:Int),(qrX b0 c1=true)→∃ n,qux n b0 c1=qfr (z52 b0 c1).1 (z52 b0 c1).2:=fun b c h=>⟨0,by
 have hl:=qw (l:=b) h
 unfold qux z52
 rw [show qoB b=true from h,show z70 b=b from rfl]
 have hr:∀ (l m:List UInt8),l.length≤1048580→m.length≤10→decide (l.length+m.length≤room)=true:=fun l m h1 h2=>dT (by unfold room; omega)
 rcases qkv c with e | e | e | e | e <;> rw [e]
 ·rfl
 ·rw [hr b _ (by omega) (by simp)]; rfl
 ·simp only [show ((2:Int)==0)=false from rfl,show ((2:Int)==4)=false from rfl,show ((2:Int)==3)=false from rfl,show ((2:Int)==2)=true from rfl,cond_false,cond_true]
  rw [hr b _ (by omega) (by simp),hr (b++_) _ (by simp; omega) (by simp)]
  simp only [List.append_assoc]; rfl
 ·simp only [show ((3:Int)==0)=false from rfl,show ((3:Int)==4)=false from rfl,show ((3:Int)==3)=true from rfl,cond_false,cond_true]
  rw [hr b _ (by omega) (by simp),hr (b++_) _ (by simp; omega) (by simp),hr (b++_++_) _ (by simp; omega) (by simp)]
  simp only [List.append_assoc]; rfl
 ·simp only [show ((4:Int)==0)=false from rfl,show ((4:Int)==4)=true from rfl,cond_false,cond_true]
  rw [hr b _ (by omega) (by simp),hr (b++_) _ (by simp; omega) (by simp),hr (b++_++_) _ (by simp; omega) (by simp),hr (b++_++_++_) _ (by simp; omega) (by simp)]
  simp only [List.append_assoc]; rfl⟩
theorem qoj {β:Type} (ret:UInt8→Bool→β) (b:Bool) (x y:UInt8×Bool):ret (bif b then x else y).1 (bif b then x else y).2=bif b then ret x.1 x.2 else ret y.1 y.2:=by cases b <;> rfl
theorem qvQ:∀ (c0:Int),∃ n,qum n c0=qdy (z53 c0).1 (z53 c0).2:=fun c=>⟨9,by
 unfold z53
 simp only [qoj]
 rw [show (bif decide (c < 0)||decide (256≤c) then qdy (0,false).1 (0,false).2 else qdy (oct8 c,true).1 (oct8 c,true).2)=qcX 9 c from by
  unfold qcX
  cases decide (c < (0:Int)) <;> cases decide ((256:Int)≤c) <;> rfl]
 rfl⟩
theorem qvR:∀ (c0:Int),∃ n,qxs n c0=qsu (z63 c0):=fun _=>⟨0,rfl⟩
theorem qvS:∀ (c0:Int),∃ n,qun n c0=qad (z55 c0).1 (z55 c0).2:=fun c=>⟨0,by
 unfold qun z55
 rw [show qhM z74 c=true from by show lenOk z74=true; decide]
 have h1:decide (0≤c)=false→decide (c < 256)=true:=by simp; omega
 have h2:decide (c < 128)=true→decide (c < 256)=true:=by simp; omega
 have h3:decide (160≤c)=true→decide (0≤c)=true:=by simp; omega
 have h4:decide (160≤c)=true→decide (c < 128)=false:=by simp; omega
 have h5:decide (160≤c)=false→decide (c < 256)=true:=by simp; omega
 simp only [qoj]
 revert h1 h2 h3 h4 h5
 cases decide ((0:Int)≤c) <;> cases decide (c < (128:Int)) <;> cases decide ((160:Int)≤c) <;> cases decide (c < (256:Int)) <;> cases decide (z73 z74 c < (0:Int)) <;> intro h1 h2 h3 h4 h5 <;> first | rfl | (exfalso; revert h1 h2 h3 h4 h5; decide)⟩
theorem qvT:∀ (c0:Int),∃ n,qxu n c0=qsw (z64 c0):=fun _=>⟨0,rfl⟩
theorem qvU:∀ (c0:Int),∃ n,qxq n c0=qss (z62 c0):=fun _=>⟨0,rfl⟩
theorem qok (k0:List UInt8→Option AV) (t:List Int) (hl:t.length≤1048576):∀ (d i n:Nat),i+d=t.length→d < n →
 qgh k0 n ((t.take i).map (fun c=>UInt8.ofNat (Int.toNat (IntKind.wrap .u8 c)))++List.replicate (t.length - i) 0) t (t.length:Nat) (i:Nat)=k0 (t.map fun c=>UInt8.ofNat (Int.toNat (IntKind.wrap .u8 c)))
 | d,i,0,hi,hn=>by omega
 | 0,i,n+1,hi,hn=>by
  show qdj k0 (qgh k0 n) n _ t _ _=_
  unfold qdj
  obtain rfl:i=t.length:=by omega
  rw [decide_eq_false (by omega),cond_false,List.take_length,Nat.sub_self]
  simp
 | d+1,i,n+1,hi,hn=>by
  show qdj k0 (qgh k0 n) n _ t _ _=_
  unfold qdj
  have hlt:i < t.length:=by omega
  have hl2:((t.take i).map (fun c=>UInt8.ofNat (Int.toNat (IntKind.wrap .u8 c)))++List.replicate (t.length - i) (0:UInt8)).length=t.length:=by simp; omega
  have ih:=qok k0 t hl d (i+1) n (by omega) (by omega)
  rw [qwE,decide_eq_true hlt,cond_true,qgx,Bool.true_and,cond_true,Bool.true_and,qwE,hl2,decide_eq_true hlt,cond_true,qL (by omega),qoJ,
   qvm (fun c=>UInt8.ofNat (Int.toNat (IntKind.wrap .u8 c))) t 0 i hlt 0]
  exact ih
theorem qvV:∀ (t0:List Int),(qsa t0=true)→∃ n,qrv n t0=qnR (z38 t0).1 (z38 t0).2:=fun t h=>⟨t.length+1,by
 have hl:=qw h
 unfold qrv z38
 rw [show qrZ t=true from h,Bool.and_true,cond_true]
 cases z56 t != -1 with
 | true=>rfl
 | false =>
  have:=qok (qdk (t.length+1)) t hl t.length 0 (t.length+1) (by omega) (by omega)
  rw [cond_false,cond_false,qgx,decide_eq_true (Int.le_refl _),decide_eq_true (by unfold room; omega)]
  unfold qdk at this ⊢
  simpa using this⟩
theorem qaj {α β:Type} (g:α→β):∀ l:List α,l.flatMap (fun x=>[g x])=l.map g
 | []=>rfl
 | x :: r=>by rw [List.flatMap_cons,qaj g r]; rfl
theorem qvW:∀ (charset0:Int) (c1:Int),∃ n,qur n charset0 c1=qdz (z47 charset0 c1):=fun cs c=>⟨0,by
 unfold qur z47
 cases (cs==(1:Int)) <;> cases (cs==(2:Int)) <;> cases (cs==(3:Int)) <;> cases (cs==(4:Int)) <;> cases (cs==(5:Int)) <;> cases decide ((0:Int)≤c) <;> rfl⟩
theorem qvX:∀ (charset0:Int),∃ n,qul n charset0=qbQ (z33 charset0):=fun cs=>⟨0,by
 unfold qul z33
 by_cases h:cs=2
 ·subst h; rfl
 ·rw [beqF h]
  cases (cs==(1:Int)) <;> cases (cs==(3:Int)) <;> cases (cs==(4:Int)) <;> cases (cs==(5:Int)) <;> rfl⟩
theorem qvY:∀ (charset0:Int) (t1:List Int),(qsf charset0 t1=true)→∃ n,qus n charset0 t1=qnO (z34 charset0 t1):=fun cs t h=>⟨0,by
 unfold qus z34
 rw [show qse cs t=true from h]
 cases decide (0 < z33 cs) <;> rfl⟩
theorem qvZ:∀ (t0:List Int),(qsb t0=true)→∃ n,qrr n t0=qfs (z36 t0).1 (z36 t0).2:=fun t h=>⟨t.length+1,by
 have hl:=qw (l:=t) h
 unfold qrr z36
 have:=qgl (t:=t) (dv:=0) (f:=fun c=>[(z53 c).1]) (q:=z63) (b:=1) (k0:=qde (t.length+1)) (R:=qfs [] 9)
  (L:=fun n out i=>qiw qfs (qde (t.length+1)) n out t ((t.length:Nat):Int) i) (fun x=>by simp) (fun n i out hi hb=>by
   show qdd _ _ _ n _ _ _ _=_
   unfold qdd
   simp (disch:=omega) only [dT,cond_true,Bool.and_true,tn,qL,List.length_cons,List.length_nil,Nat.zero_add]
   show (bif !(z63 (t.getD i 0)) then _ else _)=_
   cases z63 (t.getD i 0) <;> rfl) (fun n out=>by
   show qdd _ _ _ n _ _ _ _=_
   unfold qdd
   rw [dF (by omega)]
   rfl) t.length 0 (t.length+1) [] (by omega) (by omega) (by unfold room; simp; omega)
 refine this.trans ?_
 rw [List.drop_zero,qaj]
 cases t.all z63 <;> rfl⟩
theorem qwa:∀ (t0:List Int),(qsc t0=true)→∃ n,qrt n t0=qnQ (z37 t0).1 (z37 t0).2:=fun t h=>⟨t.length+1,by
 have hl:=qw (l:=t) h
 unfold qrt z37
 rw [show qrY t=true from h]
 cases decide (0≤z54 t) with
 | true=>rfl
 | false =>
  have:=qgl (t:=t) (dv:=0) (f:=fun c=>[(z55 c).1]) (q:=fun _=>true) (b:=1) (k0:=qdh (t.length+1)) (R:=none)
   (L:=fun n out i=>qiy (qdh (t.length+1)) n out t ((t.length:Nat):Int) i) (fun x=>by simp) (fun n i out hi hb=>by
    show qdg _ _ n _ _ _ _=_
    unfold qdg
    simp (disch:=omega) only [dT,cond_true,Bool.and_true,tn,qL,List.length_cons,List.length_nil,Nat.zero_add]) (fun n out=>by
    show qdg _ _ n _ _ _ _=_
    unfold qdg
    rw [dF (by omega)]
    rfl) t.length 0 (t.length+1) [] (by omega) (by omega) (by unfold room; simp; omega)
  simp (disch:=(first | omega | (unfold room; omega))) only [dT,cond_true,cond_false,Bool.and_true]
  refine this.trans ?_
  rw [List.drop_zero,qaj,List.all_eq_true.2 (fun _ _=>rfl)]
  rfl⟩
theorem qkw (c:Int):(z52 [] c).1.length≤4:=by
 unfold z52
 rcases qkv c with e | e | e | e | e <;> rw [e] <;> simp
theorem qwb:∀ (t0:List Int),(qsd t0=true)→∃ n,qrq n t0=qnP (z35 t0).1 (z35 t0).2:=fun t h=>⟨t.length+1,by
 have hl:=qw (l:=t) h
 unfold qrq z35
 rw [show qrW t=true from h]
 cases !(z51 t) with
 | true=>rfl
 | false =>
  have:=qgl (t:=t) (dv:=0) (f:=fun c=>(z52 [] c).1) (q:=fun _=>true) (b:=4) (k0:=qdc (t.length+1)) (R:=none)
   (L:=fun n out i=>qiv (qdc (t.length+1)) n out t ((t.length:Nat):Int) i) qkw (fun n i out hi hb=>by
    show qdb _ _ n _ _ _ _=_
    unfold qdb
    have hp:=qkw (t.getD i 0)
    rw [show qrX ([]:List UInt8) (t.getD (Int.toNat (i:Int)) 0)=true from rfl]
    simp (disch:=omega) only [dT,cond_true,Bool.and_true,tn,qL]) (fun n out=>by
    show qdb _ _ n _ _ _ _=_
    unfold qdb
    rw [dF (by omega)]
    rfl) t.length 0 (t.length+1) [] (by omega) (by omega) (by unfold room; simp; omega)
  simp only [cond_true,cond_false,Bool.and_true]
  refine this.trans ?_
  rw [List.drop_zero,List.all_eq_true.2 (fun _ _=>rfl)]
  rfl⟩
theorem qwc:∀ (charset0:Int) (t1:List Int),(qlK charset0 t1=true)→∃ n,quy n charset0 t1=qeJ (z23 charset0 t1).1 (z23 charset0 t1).2:=fun cs t h=>⟨0,by
 unfold quy z23
 rw [show qsf cs t=true from h,show qsd t=true from h,show qsb t=true from h,show qsc t=true from h,show qsa t=true from h]
 cases (z33 cs==0) <;> cases z34 cs t <;> cases (cs==(5:Int)) <;> cases (cs==(3:Int)) <;> cases (cs==(4:Int)) <;> rfl⟩
theorem qrH (c:Int):(qW c).length≤4:=by
 unfold qW
 cases qbh c <;> cases decide (c < (128:Int)) <;> cases decide (c < (2048:Int)) <;> cases decide (c < (65536:Int)) <;> simp
theorem qol (cs c:Int):(qo cs c).length≤4:=by
 unfold qo
 have:=qrH c
 cases qaw cs c <;> cases (cs==(1:Int)) <;> cases (cs==(2:Int)) <;> cases (cs==(3:Int)) <;> cases (cs==(4:Int)) <;> simp [this]
theorem qkx:∀ s:List UInt8,(qax s).length=qLen s
 | []=>rfl
 | c :: r=>by
  have h:=qkx r
  unfold qax qLen at h ⊢
  rw [List.flatMap_cons,List.length_append,h,qgm]
  rfl
def bLen (n:Nat):Nat:=4*((n+2) / 3)
theorem qrI (s:List UInt8):(qaN s).length=bLen s.length:=by
 unfold qaN padTo bLen
 rw [List.length_append,List.length_replicate,qvw]
 unfold qar
 omega
theorem qwd (n:Nat) (h:n≤100000000):z42 (n:Int)=(bLen n:Int):=by
 unfold z42 bLen
 by_cases h0:n=0
 ·subst h0; rfl
 ·rw [dF (by omega),cond_false,IntWalk.i64_in ((n:Int) - 1) (by omega),Int.tdiv_eq_ediv_of_nonneg (by omega),IntWalk.i64_in (((n:Int) - 1) / 3) (by omega),IntWalk.i64_in (((n:Int) - 1) / 3*4) (by omega),IntWalk.i64_in _ (by omega)]
  omega
theorem qeS {α β:Type} {f:α→List β} {b:Nat} (hf:∀ x,(f x).length≤b):∀ l:List α,(l.flatMap f).length≤b*l.length
 | []=>by simp
 | x :: r=>by
  have h1:=qeS hf r
  have h2:=hf x
  rw [List.flatMap_cons,List.length_append,List.length_cons,Nat.mul_succ]
  omega
theorem qrJ (cs:Int) (t:List Int) (hl:t.length≤1048576):(z23 cs t).1.length≤4194304:=by
 have h1:(z35 t).1.length≤4194304:=by
  unfold z35
  have:=qeS qkw t
  cases !(z51 t) with
  | true=>exact Nat.zero_le _
  | false=>show (t.flatMap fun c=>(z52 [] c).1).length≤_; omega
 have h2:(z36 t).1.length≤4194304:=by
  unfold z36
  cases t.all z63 <;> simp <;> omega
 have h3:(z37 t).1.length≤4194304:=by
  unfold z37
  cases decide (0≤z54 t) <;> simp <;> omega
 have h4:(z38 t).1.length≤4194304:=by
  unfold z38
  cases z56 t != -1 <;> simp <;> omega
 unfold z23
 cases (z33 cs==0) <;> cases z34 cs t <;> cases (cs==(5:Int)) <;> cases (cs==(3:Int)) <;> cases (cs==(4:Int)) <;> first | exact Nat.zero_le _ | assumption
theorem qgn (cs:Int) (t:List Int) (hl:t.length≤1048576):(ql cs t).1.length≤4194304:=by
 have h1:=qeS (qol cs) t
 unfold ql
 cases (decide (cs < 1)||decide (5 < cs)) <;> cases t.all (fun c=>(qo cs c).length != 0) <;> first | exact Nat.zero_le _ | (show (t.flatMap (qo cs)).length≤_; omega)
theorem qwe:∀ (code0:Int),∃ n r,qxC n code0=some r∧Picks (z26 code0) r:=fun code=>by
 by_cases h1:code=1
 ·subst h1; exact ⟨0,_,rfl,fun _=>rfl,fun h=>by cases h⟩
 ·by_cases h2:code=2
  ·subst h2; exact ⟨0,_,rfl,(fun h=>by cases h),fun _=>⟨fun _=>rfl,fun h=>by cases h⟩⟩
  ·refine ⟨0,.nilIface,?_,?_,?_⟩
   ·show (bif code==1 then _ else bif code==2 then _ else _)=_
    rw [beqF h1,beqF h2]; rfl
   ·intro h; rw [beqF h1] at h; cases h
   ·intro _
    refine ⟨?_,fun _=>rfl⟩
    intro h; rw [beqF h2] at h; cases h
theorem qwf:∀ (x0:Unit),∃ n,qxA n x0=qsF (z44 x0):=fun _=>⟨0,rfl⟩
theorem qwg:∀ (x0:Unit),∃ n,qxB n x0=qsG (z45 x0):=fun _=>⟨0,rfl⟩
theorem qlD:∀ (s1:List UInt8),∃ n,qkl n s1=qhy (z42 ((List.length s1:Nat):Int)) true:=fun _=>⟨0,rfl⟩
theorem qlE:∀ (s1:List UInt8),qho s1=true→∃ n,qgi n s1=qhz (z43 s1) true:=fun s h=>⟨0,by
 unfold qgi
 rw [show qfe s=true from h]
 rfl⟩
theorem qlF:∀ (s1:List UInt8),∃ n,qkm n s1=qhA 0 false:=fun _=>⟨0,rfl⟩
theorem qhH {s:List UInt8} (h:s.length≤4194304):qho s=true:=by
 unfold qho qfe; exact dT h
theorem qwh:∀ (charset0:Int) (code1:Int) (t2:List Int),(qhp charset0 code1 t2=true)→∃ n,quD n charset0 code1 t2=qbz (z16 charset0 code1 t2).1 (z16 charset0 code1 t2).2:=fun cs code t h=>⟨0,by
 have hl:=qw (l:=t) h
 unfold quD z16
 rw [show qlK cs t=true from h,qhH (qrJ cs t hl)]
 by_cases h0:(z23 cs t).2=10
 ·rw [h0]; rfl
 ·rw [beqF h0]
  by_cases h1:code=1
  ·subst h1
   cases (z23 cs t).2 != 0 <;> rfl
  ·by_cases h2:code=2
   ·subst h2
    cases (z23 cs t).2 != 0 <;> rfl
   ·rw [beqF h1,beqF h2,bneT h1,bneT h2]
    rfl⟩
theorem qwi:∀ (charset0:Int) (code1:Int) (t2:List Int),(qlv charset0 code1 t2=true)→∃ n,quK n charset0 code1 t2=qnV (z10 charset0 code1 t2).1 (z10 charset0 code1 t2).2:=fun cs code t h=>⟨0,by
 unfold quK z10
 rw [show qhp cs code t=true from h]
 cases (z16 cs code t).2 != 0 <;> rfl⟩
theorem qwj:∀ (charset0:Int) (code1:Int) (t2:List Int),(qlw charset0 code1 t2=true)→∃ n,quP n charset0 code1 t2=qsK (z49 charset0 code1 t2):=fun cs code t h=>⟨0,by
 unfold quP z49
 rw [show qhp cs code t=true from h]
 rfl⟩
theorem qwk:∀ (charset0:Int) (t1:List Int),(qqY charset0 t1=true)→∃ n,quQ n charset0 t1=qsL (z32 charset0 t1):=fun cs t h=>⟨0,by
 unfold quQ z32
 rw [show qlw cs 1 t=true from h,show qlw cs 2 t=true from h]
 rfl⟩
theorem qwl:∀ (charset0:Int) (t1:List Int),(qqZ charset0 t1=true)→∃ n,quR n charset0 t1=qkp (z22 charset0 t1).1 (z22 charset0 t1).2:=fun cs t h=>⟨0,by
 unfold quR z22
 rw [show qhp cs 1 t=true from h,show qqY cs t=true from h]
 cases (z16 cs 1 t).2 != 0 <;> cases decide (0≤z32 cs t) <;> rfl⟩
theorem qwm:∀ (charset0:Int) (code1:Int) (t2:List Int) (room3:Int),(qra charset0 code1 t2 room3=true)→∃ n,quL n charset0 code1 t2 room3=qko (z29 charset0 code1 t2 room3):=fun cs code t room h=>⟨0,by
 unfold quL z29
 rw [show qlv cs code t=true from h]
 cases ((z10 cs code t).2==0) <;> cases decide ((0:Int) < ((List.length t:Nat):Int)) <;> rfl⟩
theorem qxJ {t:List Int} (h:lenOk t=true) (n:Nat):lenOk (t.take n)=true:=qbf (by rw [List.length_take]; have:=qw h; omega)
theorem qfx (k0:Int→Option AV) (cs code:Int) (t:List Int) (rm:Int) (h:lenOk t=true):∀ (d i n:Nat),i+d=t.length→d < n →
 qiB k0 n cs code t rm (i:Nat)=k0 ((qy (fun u=>z29 cs code u rm) t d i:Nat):Int)
 | d,i,0,hi,hn=>by omega
 | 0,i,n+1,hi,hn=>by
  show qdm _ _ n _ _ _ _ _=_
  unfold qdm
  rw [dF (by omega)]
  rfl
 | d+1,i,n+1,hi,hn=>by
  have hl:=qw h
  show qdm _ _ n _ _ _ _ _=_
  unfold qdm
  rw [qL (by omega),qfx k0 cs code t rm h d (i+1) n (by omega) (by omega),show Int.toNat ((0:Nat):Int)=0 from rfl,List.drop_zero,tn,
   show qra cs code (t.take (i+1)) rm=true from qxJ h _]
  simp (disch:=omega) only [dT,cond_true,Bool.and_true]
  rw [show qy (fun u=>z29 cs code u rm) t (d+1) i=bif z29 cs code (t.take (i+1)) rm then qy (fun u=>z29 cs code u rm) t d (i+1) else i from rfl]
  show (bif z29 cs code (t.take (i+1)) rm then _ else _)=k0 ((bif z29 cs code (t.take (i+1)) rm then _ else _:Nat):Int)
  cases z29 cs code (t.take (i+1)) rm <;> rfl
theorem qwn:∀ (charset0:Int) (code1:Int) (t2:List Int) (room3:Int),(qrb charset0 code1 t2 room3=true)→∃ n,qrx n charset0 code1 t2 room3=qsI (z19 charset0 code1 t2 room3):=fun cs code t rm h=>⟨t.length+1,by
 unfold qrx z19
 exact qfx (qeM (t.length+1)) cs code t rm h t.length 0 (t.length+1) (by omega) (by omega)⟩
theorem qeT {t:List Int} (h:i32s t=true) {c:Int} (hc:c∈t) : -2147483648≤c∧c≤2147483647:=by
 unfold i32s at h
 rw [List.all_eq_true] at h
 simpa using h c hc
theorem qxK {c:Int} (h : -2147483648≤c∧c≤2147483647):IntKind.wrap .u32 c=if 0≤c then c else c+4294967296:=by
 by_cases h0:0≤c
 ·rw [if_pos h0,IntWalk.u32_in c (by omega)]
 ·rw [if_neg h0]
  have:IntKind.wrap .u32 c=c % 4294967296:=rfl
  rw [this]; omega
theorem qgo {c:Int} (h : -2147483648≤c∧c≤2147483647):z65 c=qbh c:=by
 unfold z65 qbh
 rw [show qbR c=z79 c from rfl,← Bool.and_assoc,qxK h]
 congr 1
 rw [Bool.eq_iff_iff]
 simp only [Bool.and_eq_true,decide_eq_true_eq]
 split <;> omega
theorem qiH {c:Int} (h : -2147483648≤c∧c≤2147483647):z62 c=(qaL c).2:=by
 unfold z62 qaL
 rw [qxK h]
 have:decide ((if 0≤c then c else c+4294967296) < 256)=(decide (0≤c)&&decide (c < 256)):=by
  rw [Bool.eq_iff_iff]
  simp only [Bool.and_eq_true,decide_eq_true_eq]
  split <;> omega
 rw [this]
 cases (decide (0≤c)&&decide (c < 256)) <;> rfl
theorem qzJ (cs:Int) {c:Int} (h : -2147483648≤c∧c≤2147483647):z47 cs c=qaw cs c:=by
 unfold z47 qaw
 rw [qiH h,qgo h]
 rfl
theorem qiI (p:Int→Bool):∀ (t:List Int) (i:Int),0≤i→(qav p t i = -1∧t.all p=true)∨(0≤qav p t i∧t.all p=false)
 | [],_,_=>.inl ⟨rfl,rfl⟩
 | x :: r,i,hi=>by
  rw [show qav p (x :: r) i=bif p x then qav p r (i+1) else i from rfl,List.all_cons]
  cases p x with
  | true=>simpa using qiI p r (i+1) (by omega)
  | false=>exact .inr ⟨hi,rfl⟩
theorem qiJ (p:Int→Bool) (t:List Int):(qav p t 0 == -1)=t.all p:=by
 rcases qiI p t 0 (by omega) with ⟨h1,h2⟩ | ⟨h1,h2⟩
 ·rw [h1,h2]; rfl
 ·rw [h2,beqF (by omega)]
theorem qom (p:Int→Bool) (t:List Int):(qav p t 0 != -1) = !(t.all p):=by rw [← qiJ]; rfl
theorem qxL (p:Int→Bool) (t:List Int):decide (0≤qav p t 0) = !(t.all p):=by
 rcases qiI p t 0 (by omega) with ⟨h1,h2⟩ | ⟨h1,h2⟩
 ·rw [h1,h2]; rfl
 ·rw [h2,dT h1]; rfl
theorem qxM {p q:Int→Bool} {t:List Int} (h:∀ c∈t,p c=q c):t.all p=t.all q:=by
 rw [Bool.eq_iff_iff,List.all_eq_true,List.all_eq_true]
 exact ⟨fun k c hc=>by rw [← h c hc]; exact k c hc,fun k c hc=>by rw [h c hc]; exact k c hc⟩
theorem qaU {f g:Int→List UInt8}:∀ {t:List Int},(∀ c∈t,f c=g c)→t.flatMap f=t.flatMap g
 | [],_=>rfl
 | x :: r,h=>by rw [List.flatMap_cons,List.flatMap_cons,h x (by simp),qaU fun c hc=>h c (by simp [hc])]
theorem lead2:∀ i:Fin 32,(192:UInt8) ||| oct8 ((i.val:Nat):Int)=oct8 (192+((i.val:Nat):Int)):=by decide +kernel
theorem lead3:∀ i:Fin 16,(224:UInt8) ||| oct8 ((i.val:Nat):Int)=oct8 (224+((i.val:Nat):Int)):=by decide +kernel
theorem lead4:∀ i:Fin 8,(240:UInt8) ||| oct8 ((i.val:Nat):Int)=oct8 (240+((i.val:Nat):Int)):=by decide +kernel
theorem qon:∀ i:Fin 256,foll ((i.val:Nat):Int)=oct8 (128+((i.val:Nat):Int) % 64):=by decide +kernel
theorem qwo (n:Int):oct8 n=oct8 (n % 256):=by
 unfold oct8
 have:IntKind.wrap .u8 n=n % 256:=rfl
 have h2:IntKind.wrap .u8 (n % 256)=n % 256 % 256:=rfl
 rw [this,h2]; congr 1; congr 1; omega
theorem qxN (n:Int):foll n=oct8 (128+n % 64):=by
 have h:=qon ⟨(n % 256).toNat,by omega⟩
 simp only [Int.toNat_of_nonneg (show 0≤n % 256 by omega)] at h
 rw [show n % 256 % 64=n % 64 by omega] at h
 rw [← h]
 unfold foll
 rw [← qwo]
theorem qzK {c:Int} (h:qbh c=true) (h32 : -2147483648≤c∧c≤2147483647):(z52 [] c).1=qW c:=by
 have hs:=(qgo h32).trans h
 have hr:0≤c∧c≤1114111:=by
  unfold qbh at h
  simp only [Bool.and_eq_true,decide_eq_true_eq] at h
  exact ⟨h.1,h.2.1⟩
 unfold z52 z69 qW
 rw [hs,h]
 simp only [Bool.not_true,cond_false,qxN,Int.fdiv_eq_ediv_of_nonneg _ (show (0:Int)≤2 ^ 18 by decide),Int.fdiv_eq_ediv_of_nonneg _ (show (0:Int)≤2 ^ 12 by decide),Int.fdiv_eq_ediv_of_nonneg _ (show (0:Int)≤2 ^ 6 by decide),Int.fdiv_eq_ediv_of_nonneg _ (show (0:Int)≤2 ^ 0 by decide)]
 rw [show (2:Int) ^ 18=262144 from rfl,show (2:Int) ^ 12=4096 from rfl,show (2:Int) ^ 6=64 from rfl,show (2:Int) ^ 0=1 from rfl,Int.ediv_one]
 by_cases h1:c < 128
 ·rw [dT h1]
  show [(0:UInt8) ||| oct8 c]=[oct8 c]
  rw [UInt8.zero_or]
 ·rw [dF h1]
  by_cases h2:c < 2048
  ·rw [dT h2]
   have:=lead2 ⟨(c / 64).toNat,by omega⟩
   simp only [Int.toNat_of_nonneg (show 0≤c / 64 by omega)] at this
   show [(192:UInt8) ||| oct8 (c / 64),oct8 (128+c % 64)]=_
   rw [this]; rfl
  ·rw [dF h2]
   by_cases h3:c < 65536
   ·rw [dT h3]
    have:=lead3 ⟨(c / 4096).toNat,by omega⟩
    simp only [Int.toNat_of_nonneg (show 0≤c / 4096 by omega)] at this
    show [(224:UInt8) ||| oct8 (c / 4096),oct8 (128+c / 64 % 64),oct8 (128+c % 64)]=_
    rw [this]; rfl
   ·rw [dF h3]
    have:=lead4 ⟨(c / 262144).toNat,by omega⟩
    simp only [Int.toNat_of_nonneg (show 0≤c / 262144 by omega)] at this
    show [(240:UInt8) ||| oct8 (c / 262144),oct8 (128+c / 4096 % 64),oct8 (128+c / 64 % 64),oct8 (128+c % 64)]=_
    rw [this]; rfl
theorem qrK {cs c:Int} (h:cs=1∨cs=2∨cs=3∨cs=4∨cs=5):((qo cs c).length != 0)=qaw cs c:=by
 unfold qo
 cases hh:qaw cs c with
 | false=>rfl
 | true =>
  rcases h with rfl | rfl | rfl | rfl | rfl
  ·rfl
  ·rfl
  ·rfl
  ·rfl
  ·have h3:qbh c=true:=hh
   show ((qW c).length != 0)=true
   unfold qW
   rw [h3]
   cases decide (c < (128:Int)) <;> cases decide (c < (2048:Int)) <;> cases decide (c < (65536:Int)) <;> rfl
theorem qxO {cs:Int} (h:cs=1∨cs=2∨cs=3∨cs=4∨cs=5):0 < z33 cs:=by
 rcases h with rfl | rfl | rfl | rfl | rfl <;> decide
theorem qzL (cs:Int) (t:List Int) (h:i32s t=true):z23 cs t=ql cs t:=by
 by_cases hcs:cs=1∨cs=2∨cs=3∨cs=4∨cs=5
 ·have hsz:=qxO hcs
  unfold z23 ql z34 z50
  rw [beqF (show z33 cs≠0 by omega),dT hsz,qiJ,dF (show ¬ cs < 1 by omega),dF (show ¬ 5 < cs by omega),qxM (q:=qaw cs) (fun c hc=>qzJ cs (qeT h hc)),qxM (p:=fun c=>(qo cs c).length != 0) (q:=qaw cs) (fun c _=>qrK hcs)]
  cases ha:t.all (qaw cs) with
  | false=>rfl
  | true =>
   rw [List.all_eq_true] at ha
   show (bif cs==5 then z35 t else _)=(t.flatMap (qo cs),0)
   rcases hcs with rfl | rfl | rfl | rfl | rfl
   ·show z38 t=_
    have h2:t.all z62=true:=List.all_eq_true.2 fun c hc=>by
     have:=ha c hc
     rw [qiH (qeT h hc)]
     unfold qaL
     have h3:(decide (0≤c)&&decide (c < 128))=true:=this
     simp only [Bool.and_eq_true,decide_eq_true_eq] at h3
     rw [dT h3.1,dT (show c < 256 by omega)]; rfl
    unfold z38 z56
    rw [qom,h2]
    show (t.map _,(0:Int))=_
    rw [← qaj]
    congr 1
    exact qaU fun c hc=>by
     unfold qo
     rw [ha c hc]; rfl
   ·show z38 t=_
    have h2:t.all z62=true:=List.all_eq_true.2 fun c hc=>by rw [qiH (qeT h hc)]; exact ha c hc
    unfold z38 z56
    rw [qom,h2]
    show (t.map _,(0:Int))=_
    rw [← qaj]
    congr 1
    exact qaU fun c hc=>by
     have h3:(qaL c).2=true:=ha c hc
     unfold qo
     rw [ha c hc]
     show _=[(qaL c).1]
     unfold qaL at h3 ⊢
     cases h4:(decide (0≤c)&&decide (c < 256)) with
     | false=>rw [h4] at h3; cases h3
     | true =>
      simp only [Bool.and_eq_true,decide_eq_true_eq] at h4
      rw [IntWalk.u8_in c (by omega)]; rfl
   ·show z36 t=_
    unfold z36
    rw [show t.all z63=true from List.all_eq_true.2 ha]
    show (t.map _,(0:Int))=_
    rw [← qaj]
    congr 1
    exact qaU fun c hc=>by
     unfold qo
     rw [ha c hc]; rfl
   ·show z37 t=_
    unfold z37 z54
    rw [qxL,show t.all z64=true from List.all_eq_true.2 ha]
    show (t.map _,(0:Int))=_
    rw [← qaj]
    congr 1
    exact qaU fun c hc=>by
     unfold qo
     rw [ha c hc]; rfl
   ·show z35 t=_
    unfold z35 z51
    rw [qiJ,show t.all z65=true from List.all_eq_true.2 fun c hc=>(qgo (qeT h hc)).trans (ha c hc)]
    show (t.flatMap _,(0:Int))=_
    congr 1
    exact qaU fun c hc=>by
     have h3:qbh c=true:=ha c hc
     unfold qo
     rw [ha c hc,qzK h3 (qeT h hc)]; rfl
 ·simp only [not_or] at hcs
  obtain ⟨h1,h2,h3,h4,h5⟩:=hcs
  unfold z23 ql z33
  simp only [beqF h1,beqF h2,beqF h3,beqF h4,beqF h5,cond_false]
  rw [show (decide (cs < 1)||decide (5 < cs))=true by simp; omega]
  rfl
theorem qhI (cs:Int):0≤z17 cs∧z17 cs≤19:=by
 unfold z17
 have:=qiG cs
 cases z27 cs
 ·show 0≤(0:Int)∧(0:Int)≤19; constructor <;> decide
 ·show 0≤(((z46 cs).length+7:Nat):Int)∧(((z46 cs).length+7:Nat):Int)≤19
  omega
def qfy (code:Int) (s:List UInt8):Nat:=bif code==1 then bLen s.length else qLen s
theorem qhJ (code:Int) (s:List UInt8):qfy code s≤4*s.length+4:=by
 unfold qfy bLen
 have:=qku s
 cases (code==1)
 ·show qLen s≤_; omega
 ·show 4*((s.length+2) / 3)≤_; omega
def told (cs code:Int) (t:List Int):Int×Int :=
 bif (ql cs t).2==10 then (0,10) else bif (code != 1)&&(code != 2) then (0,3) else bif (ql cs t).2 != 0 then (0,(ql cs t).2)
 else ((qfy code (ql cs t).1:Nat),0)
theorem qrL (cs code:Int) (t:List Int) (h:i32s t=true) (hl:t.length≤1048576):z16 cs code t=told cs code t:=by
 have h1:=qgn cs t hl
 unfold z16 told qfy
 rw [qzL cs t h,qwd _ (by omega)]
 cases (code==1) <;> rfl
theorem qwp (cs code:Int) (t:List Int):(told cs code t).2≠0→(told cs code t).1=0:=by
 unfold told
 cases ((ql cs t).2==10) <;> cases ((code != 1)&&(code != 2)) <;> cases ((ql cs t).2 != 0) <;> simp
theorem qxP {cs code:Int} {t:List Int} (h:(told cs code t).2=0):(ql cs t).2=0∧(code=1∨code=2)∧(told cs code t).1=(qfy code (ql cs t).1:Nat):=by
 unfold told at h ⊢
 by_cases h0:(ql cs t).2=10
 ·rw [beqT h0] at h; cases h
 ·rw [beqF h0] at h ⊢
  cases hc:((code != 1)&&(code != 2)) with
  | true=>rw [hc] at h; cases h
  | false =>
   rw [hc] at h
   by_cases h2:(ql cs t).2=0
   ·refine ⟨h2,?_,?_⟩
    ·by_cases h3:code=1
     ·exact .inl h3
     ·right
      rw [bneT h3,Bool.true_and] at hc
      by_cases h4:code=2
      ·exact h4
      ·rw [bneT h4] at hc; cases hc
    ·rw [bneF h2]; rfl
   ·rw [bneT h2] at h
    exact absurd h h2
theorem qoo (cs code:Int) (t:List Int) (hl:t.length≤1048576):0≤(told cs code t).1∧(told cs code t).1≤16777220:=by
 by_cases h:(told cs code t).2=0
 ·have h1:=qxP h
  have h2:=qgn cs t hl
  have h3:=qhJ code (ql cs t).1
  rw [h1.2.2]; omega
 ·rw [qwp cs code t h]; decide
def lenE (cs code:Int) (t:List Int):Int×Int:=bif (told cs code t).2 != 0 then (0,(told cs code t).2) else ((told cs code t).1+z17 cs,0)
theorem len_E (cs code:Int) (t:List Int) (h:i32s t=true) (hl:t.length≤1048576):z10 cs code t=lenE cs code t:=by
 have h1:=qoo cs code t hl
 have h2:=qhI cs
 unfold z10 lenE
 rw [qrL cs code t h hl,IntWalk.i64_in _ (by omega)]
theorem qsR (cs code:Int) (t:List Int) (hl:t.length≤1048576):qcD cs code t=lenE cs code t:=by
 have h0:=qgn cs t hl
 have h2:=qhI cs
 have h3:=qhJ code (ql cs t).1
 unfold qcD lenE told qeU
 rw [qrI,qkx]
 unfold qfy at h3 ⊢
 have hb:bLen (ql cs t).1.length≤100000000:=by unfold bLen; omega
 have hq:=qku (ql cs t).1
 rw [IntWalk.i64_in (z17 cs+((bLen (ql cs t).1.length:Nat):Int)) (by omega),IntWalk.i64_in (z17 cs+((qLen (ql cs t).1:Nat):Int)) (by omega)]
 by_cases e0:(ql cs t).2=10
 ·rw [beqT e0]; rfl
 ·rw [beqF e0]
  cases ((code != 1)&&(code != 2)) with
  | true=>rfl
  | false =>
   by_cases e1:(ql cs t).2=0
   ·rw [bneF e1]
    cases (code==1) <;> simp [Int.add_comm]
   ·rw [bneT e1]
    show (0,(ql cs t).2)=bif (ql cs t).2 != 0 then (0,(ql cs t).2) else _
    rw [bneT e1]; rfl
theorem qxQ (cs code:Int) (t:List Int) (rm:Int) (h:i32s t=true) (hl:t.length≤1048576):z29 cs code t rm=qeC cs code t rm:=by
 unfold z29 qeC
 rw [len_E cs code t h hl,qsR cs code t hl]
 congr 1
 congr 1
 rw [Bool.eq_iff_iff]
 simp only [Bool.and_eq_true,decide_eq_true_eq]
 by_cases hr:75 < rm
 ·rw [dT hr]; show _≤(75:Int)↔_; omega
 ·rw [dF hr]; show _≤rm↔_; omega
theorem qrM {t:List Int} (h:i32s t=true) (n:Nat):i32s (t.take n)=true:=by
 unfold i32s at h ⊢
 rw [List.all_eq_true] at h ⊢
 exact fun c hc=>h c (List.mem_of_mem_take hc)
theorem qbg (p:List Int→Bool) (t:List Int):∀ (d n:Nat),n≤qy p t d n∧qy p t d n≤n+d∧(n < qy p t d n→p (t.take (qy p t d n))=true)∧(qy p t d n < n+d→p (t.take (qy p t d n+1))=false)
 | 0,n=>by unfold qy; refine ⟨Nat.le_refl _,Nat.le_refl _,fun h=>absurd h (Nat.lt_irrefl _),fun h=>absurd h (by omega)⟩
 | d+1,n=>by
  rw [show qy p t (d+1) n=bif p (t.take (n+1)) then qy p t d (n+1) else n from rfl]
  cases hp:p (t.take (n+1)) with
  | false =>
   show n≤n∧n≤n+(d+1)∧(n < n→_)∧(n < n+(d+1)→_)
   exact ⟨Nat.le_refl _,by omega,fun h=>absurd h (Nat.lt_irrefl _),fun _=>hp⟩
  | true =>
   show n≤qy p t d (n+1)∧qy p t d (n+1)≤n+(d+1)∧(n < qy p t d (n+1)→_)∧(qy p t d (n+1) < n+(d+1)→_)
   obtain ⟨h1,h2,h3,h4⟩:=qbg p t d (n+1)
   refine ⟨by omega,by omega,fun _=>?_,fun hlt=>h4 (by omega)⟩
   by_cases e:n+1 < qy p t d (n+1)
   ·exact h3 e
   ·have:qy p t d (n+1)=n+1:=by omega
    rw [this]; exact hp
theorem qxR (cs code:Int) (t:List Int) (rm:Int) (h:i32s t=true) (hl:t.length≤1048576) (hf:z29 cs code t rm=true):(told cs code t).2=0∧0 < t.length∧(told cs code t).1+z17 cs≤75∧(told cs code t).1+z17 cs≤rm:=by
 rw [qxQ cs code t rm h hl] at hf
 unfold qeC at hf
 rw [qsR cs code t hl] at hf
 unfold lenE at hf
 by_cases h0:(told cs code t).2=0
 ·rw [bneF h0] at hf
  simp only [cond_false,Bool.and_eq_true,decide_eq_true_eq] at hf
  exact ⟨h0,by omega,hf.2.2.2,hf.2.2.1⟩
 ·rw [bneT h0] at hf
  simp only [cond_true,Bool.and_eq_true,beq_iff_eq] at hf
  exact absurd hf.1 h0
end Go.Av
