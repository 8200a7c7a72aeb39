import Derived.Test.YtabdohophompiaaDoorPxT2
namespace Go.Av
set_option linter.unusedSimpArgs false
set_option linter.unusedVariables false
theorem qcL {α β:Type} {t:List α} {dv:α} {f:α→List β} {k0:List β→Option AV} {L:Nat→List β→Int→Option AV} {b M:Nat} (hf:∀ x∈t,(f x).length≤b)
 (hL:∀ (n i:Nat) (out:List β),i < t.length→out.length+b≤M→L (n+1) out (i:Int)=L n (out++f (t.getD i dv)) ((i+1:Nat):Int)) (hE:∀ n out,L (n+1) out ((t.length:Nat):Int)=k0 out) :
 ∀ (d i n:Nat) (out:List β),i+d=t.length→d < n→out.length+b*d≤M→L n out (i:Int)=k0 (out++(t.drop i).flatMap f)
 | d,i,0,out,hi,hn,_=>by omega
 | 0,i,n+1,out,hi,hn,_=>by
  obtain rfl:i=t.length:=by omega
  rw [hE,yz (by omega)];simp
 | d+1,i,n+1,out,hi,hn,hb=>by
  have hlt:i < t.length:=by omega
  have hx:=hf (t.getD i dv) (by rw [yV,yM hlt]; exact List.getElem_mem hlt);have hb':b*(d+1)=b*d+b:=by rw [Nat.mul_succ]
  have h0:0≤b*d:=Nat.zero_le _;rw [hL n i out hlt (by omega),qcL hf hL hE d (i+1) n _ (by omega) (by omega) (by rw [yn]; omega),qat (d:=dv) hlt];simp only [List.flatMap_cons,yl]
theorem qao {α:Type} {l:List α} (h:len1k l=true):l.length≤1000:=by unfold len1k at h; exact of_decide_eq_true h
theorem qbe {α:Type} {l:List α} (h:l.length≤1000):len1k l=true:=by unfold len1k; exact dT h
theorem qtC:∀ (c0:UInt8),∃ n,quE n c0=qor (z44 c0):=fun c=>⟨0,by
 unfold quE z44;cases z62 c 256 <;> rfl⟩
theorem qnO (c:UInt8):(oneC c).length≤3:=by
 unfold oneC z63;cases z62 c 256 <;> simp
theorem qtD:∀ (s0:List UInt8),(qrc s0=true)→∃ n,qrz n s0=qsn (z24 s0):=fun s h=>⟨s.length+1,by
 have hl:=qao h;unfold qrz z24;have:=qcL (t:=s) (dv:=0) (f:=oneC) (b:=3) (M:=4000) (k0:=qdA (s.length+1)) (L:=fun n out i=>qiT (qdA (s.length+1)) n out s ((s.length:Nat):Int) i) (fun x _=>qnO x) (fun n i out hi hb=>by
  show qdz _ _ n _ _ _ _=_;unfold qdz;rw [show qpu out 37 (s.getD (Int.toNat (i:Int)) 0)=true from qap (by omega)];unfold room;simp (disch:=omega) only [dT,yc,yi,tn,qE,yg,List.length_nil];unfold z44 oneC z45;cases z62 (s.getD i 0) 256 <;> rfl) (fun n out=>by
  show qdz _ _ n _ _ _ _=_;unfold qdz;rw [dF (by omega)];rfl) s.length 0 (s.length+1) [] (by omega) (by omega) (by simp; omega)
 refine this.trans ?_;rw [yw];rfl⟩
theorem qnP (c:UInt8):(quoC c).length≤2:=by
 unfold quoC;cases (c==34)||(c==92) <;> simp
theorem qrK (s:List UInt8):(s.flatMap quoC).length≤2*s.length:=by
 induction s with
 | nil=>simp
 | cons c r ih =>
  have:=qnP c;rw [List.flatMap_cons,yn,yg];omega
theorem qtE:∀ (s0:List UInt8),(qrd s0=true)→∃ n,qrs n s0=qse (z36 s0):=fun s h=>⟨s.length+1,by
 have hl:=qao h;unfold qrs z36 quoL;have:=qcL (t:=s) (dv:=0) (f:=quoC) (b:=2) (M:=4000) (k0:=qce (s.length+1)) (L:=fun n out i=>qiN (qce (s.length+1)) n out s ((s.length:Nat):Int) i) (fun x _=>qnP x) (fun n i out hi hb=>by
  show qdo _ _ n _ _ _ _=_;unfold qdo qI room;simp (disch:=omega) only [dT,yc,yi,tn,qE,yg,List.length_nil,yn];unfold quoC;cases s.getD i 0==34 <;> cases s.getD i 0==92 <;> first | rfl | (simp only [yc,yd,Bool.or_self,Bool.or_true,Bool.or_false,yl,List.cons_append,List.nil_append])) (fun n out=>by
  show qdo _ _ n _ _ _ _=_;unfold qdo qI;rw [dF (by omega)];rfl) s.length 0 (s.length+1) [34] (by omega) (by omega) (by simp; omega)
 refine this.trans ?_;have hq:=qrK s;rw [yw];unfold qce room;rw [dT (by simp only [yn,yg,List.length_nil]; omega)];rfl⟩
theorem qrL {α:Type} (s:List α):decide ((0:Int) < ((s.length:Nat):Int)) = !s.isEmpty:=by cases s <;> simp <;> omega
theorem qtF:∀ (s0:List UInt8),(qre s0=true)→∃ n,qup n s0=qoj (z35 s0):=fun s h=>⟨0,by
 have hl:=qao h;unfold qup z35 tokB;rw [qrL,show qlf s 64=true from qap (by omega)];unfold z29;cases s.isEmpty <;> rfl⟩
theorem qtG:∀ (s0:List UInt8),(qrf s0=true)→∃ n,quq n s0=qok (z20 s0):=fun s h=>⟨0,by
 have hl:=qao h;unfold quq z20 atomL;rw [show qre s=true from h,show qeY s=true from qap (by omega),show qrd s=true from h,show z35 s=tokB s from rfl];cases tokB s <;> rfl⟩
theorem qgK {n:Int} (h:qhT n=true):0≤n∧n < 100:=by unfold qhT at h; exact of_decide_eq_true h
theorem qyC {n:Int} (h:0≤n∧n < 100):qhT n=true:=by unfold qhT; exact dT h
def outS:Option AV→Option (List UInt8)
 | some (.dat .str s none)=>some s
 | _=>none
theorem qrm:∀ i:Fin 100,(outS (qlE 0 ((i.val:Nat):Int))==some (digI ((i.val:Nat):Int)))=true:=by decide +kernel
theorem qtH:∀ (i0:Int),(qrg i0=true)→∃ n,qlE n i0=qfU (z75 i0):=fun n h=>⟨0,by
 have hr:=qgK h;obtain ⟨k,rfl⟩:∃ k:Nat,n=(k:Int):=⟨n.toNat,by omega⟩;have h1:=eq_of_beq (qrm ⟨k,by omega⟩);unfold z75;revert h1;show outS (qlE 0 (k:Int))=some (digI (k:Int))→qlE 0 (k:Int)=qfU (digI (k:Int));generalize digI (k:Int)=r;unfold qlE qer qgS qgR;intro h1;cases e:decide ((k:Int) < 10) with
 | true =>
  rw [e] at h1;simp only [yc] at h1 ⊢;revert h1;cases (decide ((0:Int)≤(k:Int))&&decide ((k:Int)≤IntKind.wrap .i64 ((k:Int)+1))&&decide (IntKind.wrap .i64 ((k:Int)+1)≤_)) with
  | true=>intro h1; exact congrArg qfU (yp h1)
  | false=>intro h1; cases h1
 | false =>
  rw [e] at h1;simp only [yd] at h1 ⊢;revert h1;cases (decide ((0:Int)≤IntKind.wrap .i64 ((k:Int)*2))&&decide (IntKind.wrap .i64 ((k:Int)*2)≤IntKind.wrap .i64 (IntKind.wrap .i64 ((k:Int)*2)+2))&&decide (IntKind.wrap .i64 (IntKind.wrap .i64 ((k:Int)*2)+2)≤_)) with
  | true=>intro h1; exact congrArg qfU (yp h1)
  | false=>intro h1; cases h1⟩
theorem qiI (n:Int):(digI n).length≤2:=by
 unfold digI;cases decide (n < 10) <;> simp
theorem qyD {x:Int} (h:0≤x∧x < 9223372036854775808):IntKind.wrap .u64 x=x:=IntWalk.u64_in x (by omega)
theorem qtI:∀ (dst0:List UInt8) (i1:Int) (base2:Int),(qlw dst0 i1 base2=true)→∃ n,quI n dst0 i1 base2=qsp (z72 dst0 i1 base2):=fun dst n b h=>⟨0,by
 unfold qlw at h;simp only [yf] at h;obtain ⟨h1,h2,h3⟩:=h;have hr:=qgK h2;have hd:=qiI n;have hl:=qJ h1;unfold quI;rw [h3,dT hr.2,wr (x:=n) (by omega)];unfold z75 room;rw [show qrg n=true from h2,dT (by omega)];rfl⟩
theorem qtJ:∀ (dst0:List UInt8) (i1:Int) (base2:Int),(qnD dst0 i1 base2=true)→∃ n,quJ n dst0 i1 base2=qos (z64 dst0 i1 base2):=fun dst n b h=>⟨0,by
 have h':=h;unfold qnD at h;simp only [yf] at h;have hr:=qgK h.2.1;unfold quJ;rw [dF (show ¬ n < 0 by omega),qyD (x:=n) (by omega),show qlw dst n b=true from h'];rfl⟩
theorem qtK:∀ (dst0:List UInt8) (i1:Int) (base2:Int),(qnE dst0 i1 base2=true)→∃ n,quK n dst0 i1 base2=qsq (z46 dst0 i1 base2):=fun dst n b h=>⟨0,by
 unfold quK;rw [show qnD dst n b=true from h];rfl⟩
end Go.Av
