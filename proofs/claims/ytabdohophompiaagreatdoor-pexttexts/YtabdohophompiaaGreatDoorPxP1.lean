import Derived.Test.YtabdohophompiaaGreatDoorPxT2
namespace Go.Av
set_option linter.unusedSimpArgs false
set_option linter.unusedVariables false
theorem qar {α β:Type} {t:List α} {dv:α} {f:α→List β} {k0:List β→Option AV} {L:Nat→List β→Int→Option AV} {b M:Nat} (hf:∀ x∈t,(f x).length≤b)
 (hL:∀ (n i:Nat) (out:List β),i < t.length→out.length+b≤M→L (n+1) out (i:Int)=L n (out++f (t.getD i dv)) ((i+1:Nat):Int)) (hE:∀ n out,L (n+1) out ((t.length:Nat):Int)=k0 out) :
 ∀ (d i n:Nat) (out:List β),i+d=t.length→d < n→out.length+b*d≤M→L n out (i:Int)=k0 (out++(t.drop i).flatMap f)
 | d,i,0,out,hi,hn,_=>by omega
 | 0,i,n+1,out,hi,hn,_=>by
  obtain rfl:i=t.length:=by omega
  rw [hE,yA (by omega)];simp
 | d+1,i,n+1,out,hi,hn,hb=>by
  have hlt:i < t.length:=by omega
  have hx:=hf (t.getD i dv) (by rw [yW,yN hlt]; exact List.getElem_mem hlt);have hb':b*(d+1)=b*d+b:=by rw [Nat.mul_succ]
  have h0:0≤b*d:=Nat.zero_le _;rw [hL n i out hlt (by omega),qar hf hL hE d (i+1) n _ (by omega) (by omega) (by rw [yn]; omega),qM (d:=dv) hlt];simp only [List.flatMap_cons,yl]
theorem qE {α:Type} {l:List α} (h:len1k l=true):l.length≤1000:=by unfold len1k at h; exact of_decide_eq_true h
theorem qC {α:Type} {l:List α} (h:l.length≤1000):len1k l=true:=by unfold len1k; exact dT h
theorem qBL:∀ (c0:UInt8),∃ n,qCI n c0=quL (z79 c0):=fun c=>⟨0,by
 unfold qCI z79;cases z100 c 256 <;> rfl⟩
theorem qiU (c:UInt8):(oneC c).length≤3:=by
 unfold oneC z116;cases z100 c 256 <;> simp
theorem qBM:∀ (s0:List UInt8),(qyd s0=true)→∃ n,qyG n s0=qAm (z45 s0):=fun s h=>⟨s.length+1,by
 have hl:=qE h;unfold qyG z45;have:=qar (t:=s) (dv:=0) (f:=oneC) (b:=3) (M:=4000) (k0:=qeC (s.length+1)) (L:=fun n out i=>qmf (qeC (s.length+1)) n out s ((s.length:Nat):Int) i) (fun x _=>qiU x) (fun n i out hi hb=>by
  show qeB _ _ n _ _ _ _=_;unfold qeB;rw [show qwr out 37 (s.getD (Int.toNat (i:Int)) 0)=true from qv (by omega)];unfold room;simp (disch:=omega) only [dT,yc,yi,tn,ql,yg,List.length_nil];unfold z79 oneC z80;cases z100 (s.getD i 0) 256 <;> rfl) (fun n out=>by
  show qeB _ _ n _ _ _ _=_;unfold qeB;rw [dF (by omega)];rfl) s.length 0 (s.length+1) [] (by omega) (by omega) (by simp; omega)
 refine this.trans ?_;rw [yw];rfl⟩
theorem qGT (c:UInt8) (k:Int):z65 c k=z100 c k:=rfl
theorem qBN:∀ (c0:UInt8),∃ n,qDg n c0=qve (z48 c0):=fun c=>⟨0,by
 unfold qDg z48 oneC;rw [qGT];cases z100 c 256 <;> rfl⟩
theorem qBO:∀ (s0:List UInt8),(qye s0=true)→∃ n,qyR n s0=qAy (z26 s0):=fun s h=>⟨s.length+1,by
 have hl:=qE h;unfold qyR z26;have:=qar (t:=s) (dv:=0) (f:=oneC) (b:=3) (M:=4000) (k0:=qeQ (s.length+1)) (L:=fun n out i=>qmr (qeQ (s.length+1)) n s out i) (fun x _=>qiU x) (fun n i out hi hb=>by
  show qeP _ _ n _ _ _=_;unfold qeP;have h3:(z48 (s.getD i 0)).length≤3:=qiU _;unfold room;simp (disch:=omega) only [dT,yc,yi,tn,ql];rfl) (fun n out=>by
  show qeP _ _ n _ _ _=_;unfold qeP;rw [dF (by omega)];rfl) s.length 0 (s.length+1) [] (by omega) (by omega) (by simp; omega)
 refine this.trans ?_;rw [yw];rfl⟩
theorem qlS (c:UInt8):(quoC c).length≤2:=by
 unfold quoC;cases (c==34)||(c==92) <;> simp
theorem qtX (s:List UInt8):(s.flatMap quoC).length≤2*s.length:=by
 induction s with
 | nil=>simp
 | cons c r ih =>
  have:=qlS c;rw [List.flatMap_cons,yn,yg];omega
theorem qBP:∀ (s0:List UInt8),(qyf s0=true)→∃ n,qyJ n s0=qAs (z94 s0):=fun s h=>⟨s.length+1,by
 have hl:=qE h;unfold qyJ z94 quoL;have:=qar (t:=s) (dv:=0) (f:=quoC) (b:=2) (M:=4000) (k0:=qcZ (s.length+1)) (L:=fun n out i=>qmh (qcZ (s.length+1)) n out s ((s.length:Nat):Int) i) (fun x _=>qlS x) (fun n i out hi hb=>by
  show qeG _ _ n _ _ _ _=_;unfold qeG qV room;simp (disch:=omega) only [dT,yc,yi,tn,ql,yg,List.length_nil,yn];unfold quoC;cases s.getD i 0==34 <;> cases s.getD i 0==92 <;> first | rfl | (simp only [yc,yd,Bool.or_self,Bool.or_true,Bool.or_false,yl,List.cons_append,List.nil_append])) (fun n out=>by
  show qeG _ _ n _ _ _ _=_;unfold qeG qV;rw [dF (by omega)];rfl) s.length 0 (s.length+1) [34] (by omega) (by omega) (by simp; omega)
 refine this.trans ?_;have hq:=qtX s;rw [yw];unfold qcZ room;rw [dT (by simp only [yn,yg,List.length_nil]; omega)];rfl⟩
theorem qBQ:∀ (s0:List UInt8),(qtM s0=true)→∃ n,qyX n s0=qAA (z98 s0):=fun s h=>⟨s.length+1,by
 have hl:=qE h;unfold qyX z98 quoL;have:=qar (t:=s) (dv:=0) (f:=quoC) (b:=2) (M:=4000) (k0:=qdb (s.length+1)) (L:=fun n out i=>qmu (qdb (s.length+1)) n s out i) (fun x _=>qlS x) (fun n i out hi hb=>by
  show qeX _ _ n _ _ _=_;unfold qeX qaA qan room;simp (disch:=omega) only [dT,yc,yi,tn,ql,yg,List.length_nil,yn];unfold quoC;cases s.getD i 0==34 <;> cases s.getD i 0==92 <;> first | rfl | (simp only [yc,yd,Bool.or_self,Bool.or_true,Bool.or_false,yl,List.cons_append,List.nil_append])) (fun n out=>by
  show qeX _ _ n _ _ _=_;unfold qeX qaA qan;rw [dF (by omega)];rfl) s.length 0 (s.length+1) [34] (by omega) (by omega) (by simp; omega)
 refine this.trans ?_;have hq:=qtX s;rw [yw];unfold qdb room;rw [dT (by simp only [yn,yg,List.length_nil]; omega)];rfl⟩
theorem qzV {α:Type} (s:List α):decide ((0:Int) < ((s.length:Nat):Int)) = !s.isEmpty:=by cases s <;> simp <;> omega
theorem qBR:∀ (s0:List UInt8),(qyg s0=true)→∃ n,qCQ n s0=quR (z93 s0):=fun s h=>⟨0,by
 have hl:=qE h;unfold qCQ z93 tokB;rw [qzV,show qpW s 64=true from qv (by omega)];unfold z36;cases s.isEmpty <;> rfl⟩
theorem qBS:∀ (s0:List UInt8),(qyh s0=true)→∃ n,qCR n s0=quS (z54 s0):=fun s h=>⟨0,by
 have hl:=qE h;unfold qCR z54 atomL;rw [show qyg s=true from h,show qgB s=true from qv (by omega),show qyf s=true from h,show z93 s=tokB s from rfl];cases tokB s <;> rfl⟩
theorem qoQ (s:List UInt8) (k:Int):((z37 s k)==((s.length:Nat):Int))=s.all fun c=>z100 c k:=qkX _ s
theorem qBT:∀ (s0:List UInt8),(qyi s0=true)→∃ n,qDi n s0=qpi (z61 s0):=fun s h=>⟨0,by
 have hl:=qE h;unfold qDi z61 atomL tokB;rw [qzV,show qpX s 64=true from qv (by omega),show qtM s=true from h,qoQ];cases s.isEmpty <;> cases (s.all fun c=>z100 c 64) <;> rfl⟩
theorem qfL {n:Int} (h:qiP n=true):0≤n∧n < 100:=by unfold qiP at h; exact of_decide_eq_true h
theorem qGU {n:Int} (h:0≤n∧n < 100):qiP n=true:=by unfold qiP; exact dT h
def outS:Option AV→Option (List UInt8)
 | some (df s none)=>some s
 | _=>none
theorem qyq:∀ i:Fin 100,(outS (qhL 0 ((i.val:Nat):Int))==some (digI ((i.val:Nat):Int)))=true:=by decide +kernel
theorem qyr:∀ (i0:Int),(qoO i0=true)→∃ n,qhL n i0=qeH (z136 i0):=fun n h=>⟨0,by
 have hr:=qfL h;obtain ⟨k,rfl⟩:∃ k:Nat,n=(k:Int):=⟨n.toNat,by omega⟩;have h1:=eq_of_beq (qyq ⟨k,by omega⟩);unfold z136;revert h1;show outS (qhL 0 (k:Int))=some (digI (k:Int))→qhL 0 (k:Int)=qeH (digI (k:Int));generalize digI (k:Int)=r;unfold qhL qdL qgT qgS;intro h1;cases e:decide ((k:Int) < 10) with
 | true =>
  rw [e] at h1;simp only [yc] at h1 ⊢;revert h1;cases (decide ((0:Int)≤(k:Int))&&decide ((k:Int)≤IntKind.wrap .i64 ((k:Int)+1))&&decide (IntKind.wrap .i64 ((k:Int)+1)≤_)) with
  | true=>intro h1; exact congrArg qeH (yp h1)
  | false=>intro h1; cases h1
 | false =>
  rw [e] at h1;simp only [yd] at h1 ⊢;revert h1;cases (decide ((0:Int)≤IntKind.wrap .i64 ((k:Int)*2))&&decide (IntKind.wrap .i64 ((k:Int)*2)≤IntKind.wrap .i64 (IntKind.wrap .i64 ((k:Int)*2)+2))&&decide (IntKind.wrap .i64 (IntKind.wrap .i64 ((k:Int)*2)+2)≤_)) with
  | true=>intro h1; exact congrArg qeH (yp h1)
  | false=>intro h1; cases h1⟩
theorem qiV (n:Int):(digI n).length≤2:=by
 unfold digI;cases decide (n < 10) <;> simp
theorem qJN {x:Int} (h:0≤x∧x < 9223372036854775808):IntKind.wrap .u64 x=x:=IntWalk.u64_in x (by omega)
theorem qys:∀ (dst0:List UInt8) (i1:Int) (base2:Int),(qhF dst0 i1 base2=true)→∃ n,quV n dst0 i1 base2=quU (z133 dst0 i1 base2):=fun dst n b h=>⟨0,by
 unfold qhF at h;simp only [yf] at h;obtain ⟨h1,h2,h3⟩:=h;have hr:=qfL h2;have hd:=qiV n;have hl:=qr h1;unfold quV;rw [h3,dT hr.2,wr (x:=n) (by omega)];unfold z136 room;rw [show qoO n=true from h2,dT (by omega)];rfl⟩
theorem qyt:∀ (dst0:List UInt8) (i1:Int) (base2:Int),(qkD dst0 i1 base2=true)→∃ n,quW n dst0 i1 base2=qmi (z123 dst0 i1 base2):=fun dst n b h=>⟨0,by
 have h':=h;unfold qkD at h;simp only [yf] at h;have hr:=qfL h.2.1;unfold quW;rw [dF (show ¬ n < 0 by omega),qJN (x:=n) (by omega),show qhF dst n b=true from h'];rfl⟩
theorem qBU:∀ (dst0:List UInt8) (i1:Int) (base2:Int),(qtN dst0 i1 base2=true)→∃ n,qCT n dst0 i1 base2=qAt (z95 dst0 i1 base2):=fun dst n b h=>⟨0,by
 unfold qCT;rw [show qkD dst n b=true from h];rfl⟩
end Go.Av
