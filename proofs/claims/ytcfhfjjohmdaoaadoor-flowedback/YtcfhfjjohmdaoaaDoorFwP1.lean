import Derived.Test.YtcfhfjjohmdaoaaDoorFwT
import Derived.Test.YtcfhfjjohmdaoaaDoorFwL
namespace Go.Av
set_option linter.unusedVariables false
set_option linter.unusedSimpArgs false
theorem qqL (k0:List UInt8→Option AV) (c:UInt8):∀ (d:Nat) (s:List UInt8) (n:Nat),s.length≤d→d < n→qh k0 n s c=k0 (s.dropWhile fun x=>x==c)
 | d,s,0,_,hn=>absurd hn (by omega)
 | d,[],n+1,_,_=>rfl
 | 0,x :: s,n+1,h,_=>absurd h (by simp)
 | d+1,x :: s,n+1,h,hn=>by
  rw [yg] at h;have hstep:qh k0 (n+1) (x :: s) c=qE k0 (qh k0 n) n (x :: s) c:=rfl;rw [hstep];unfold qE;rw [List.dropWhile_cons,yg,tn];simp (disch:=omega) only [dT,yc,yi];show (bif x==c then _ else _)=_
  by_cases hx:(x==c)=true
  ·rw [hx,if_pos rfl];simp only [yc];rw [show s.length+1=(x :: s).length from rfl,List.take_length];exact qqL k0 c d s n (by omega) (by omega)
  ·rw [Bool.not_eq_true] at hx;rw [hx];rfl
theorem qbP:∀ (s0:List UInt8) (c1:UInt8),(qB s0 c1=true)→∃ n,qO n s0 c1=qX (qN s0 c1):=fun s c _=>⟨s.length+1,by
 unfold qO;rw [qqL _ c s.length s _ (yv _) (Nat.lt_succ_self _)];unfold qr qN;cases hs:s.dropWhile fun x=>x==c with
 | nil=>rfl
 | cons x r =>
  rw [bneI (by simp; omega)];rfl⟩
theorem quP:∀ (s0:List UInt8) (cutset1:List UInt8),(qoj s0 cutset1=true)→∃ n,qvw n s0 cutset1=qdP (z76 s0 cutset1):=fun s cs h=>⟨0,by
 unfold qoj at h;simp only [yf,beq_iff_eq] at h;obtain ⟨h1,h2,h3⟩:=h;unfold qvw z76;cases s with
 | nil=>rfl
 | cons x r =>
  match cs,h2,h3 with
  | [c],_,h3 =>
   have hc:(decide (c < (128:UInt8)))=true:=by
    have:=qeL h3 (i:=0) (by simp);rw [ym];exact this
   rw [bneI (by simp; omega)];show (bif decide (c < (128:UInt8)) then (bif qB (x :: r) c&&true then qdP (qN (x :: r) c) else none) else _)=_;rw [hc,show qB (x :: r) c=true from h1];rfl⟩
theorem quQ (p:UInt8→Bool):∀ s:List UInt8,(s.takeWhile p).length+(s.dropWhile p).length=s.length
 | []=>rfl
 | x :: s=>by
  have ih:=quQ p s;rw [List.takeWhile_cons,List.dropWhile_cons];split
  ·simp only [yg]; omega
  ·simp
theorem quR (s:List UInt8):depN s≤s.length:=by
 have:=quQ (fun c=>c==62) s;unfold depN;omega
theorem quS:∀ (line0:List UInt8),(qkh line0=true)→∃ n,qvx n line0=qra (z42 line0):=fun s h=>⟨0,by
 have hl:=qm h;unfold qvx;rw [show qoj s [62]=true by unfold qoj; rw [show lenOk s=true from h]; rfl];have e:z76 s [62]=s.dropWhile fun c=>c==62:=rfl;rw [e];have:=quQ (fun c=>c==62) s;have hd:=quR s;rw [wr (by omega)];unfold z42;show qra _=_;congr 1;unfold depN;omega⟩
theorem quT:∀ (s0:List UInt8) (prefix1:List UInt8),∃ n,qvz n s0 prefix1=qrc (z77 s0 prefix1):=fun s t=>⟨0,by
 unfold qvz z77;cases hp:z95 s t with
 | false=>rfl
 | true =>
  have hle:t.length≤s.length:=by
   unfold z95 at hp
   by_cases hc:t.length≤s.length
   ·exact hc
   ·rw [dF hc] at hp; cases hp
  rw [tn,tn,List.take_length];simp (disch:=omega) only [dT,yc,yi]⟩
theorem qor (s:List UInt8):z77 s [32]=unSp s:=by
 unfold z77 z95;cases s with
 | nil=>rfl
 | cons c r =>
  show (bif (bif decide (1≤r.length+1) then [c]==[32] else false) then r else c :: r)=(bif c==32 then r else c :: r);rw [dT (by omega)];have:([c]==[(32:UInt8)])=(c==32):=by
   by_cases h:c=32
   ·subst h; rfl
   ·rw [beq_eq_false_iff_ne.2 h,beq_eq_false_iff_ne.2 (by simpa using h)]
  rw [this];rfl
theorem qqM (l:List UInt8):(unSp l).length≤l.length:=by
 cases l with
 | nil=>exact yv _
 | cons c r =>
  show (bif c==32 then r else c :: r).length≤_;cases (c==32)
  ·exact yv _
  ·simp
theorem quU:∀ (line0:List UInt8),(qdi line0=true)→∃ n,qvA n line0=qtH (z44 line0):=fun s h=>⟨0,by
 have hl:=qm h;have hd:=quR s;unfold qvA qiA;rw [show qkh s=true from h];have e:z42 s=((depN s:Nat):Int):=rfl;rw [e,tn,tn,List.take_length,qor];have hle:(unSp (s.drop (depN s))).length≤1048576:=by
  have:=qqM (s.drop (depN s));rw [yK] at this;omega
 rw [show qie (unSp (s.drop (depN s)))=true by unfold qie lenOk; rw [ym]; exact hle];simp (disch:=omega) only [dT,yc,yi];rfl⟩
theorem qer (s:List UInt8):(bareB s).length≤s.length:=by
 have:=qqM (s.drop (depN s));rw [yK] at this;unfold bareB;omega
theorem qkk (s:List UInt8):z78 s [32]=endSp s:=by
 unfold z78 endSp;rcases List.eq_nil_or_concat s with rfl | ⟨l,c,rfl⟩
 ·rfl
 ·rw [List.concat_eq_append];simp only [yn,yg,List.length_nil];rw [dT (by omega),show l.length+(0+1) - (0+1)=l.length by omega,List.drop_left' rfl,List.getLast?_append];show ([c]==[32])=(some c==some 32)
  by_cases h:c=32
  ·subst h; rfl
  ·rw [beq_eq_false_iff_ne.2 (by simpa using h),beq_eq_false_iff_ne.2 (by simpa using h)]
theorem quV:∀ (line0:List UInt8),(qgj line0=true)→∃ n,qvC n line0=qre (z46 line0):=fun s h=>⟨0,by
 have hl:=qm h;have hb:=qer s;unfold qvC;rw [show qdi s=true from h,show z44 s=bareB s from rfl,qkk,show qlp (bareB s) [32]=true by unfold qlp lenOk; rw [ym]; omega];unfold z46 flowB;cases endSp (bareB s) <;> rfl⟩
theorem quW:∀ (text0:List UInt8),(qwU text0=true)→∃ n,qvI n text0=qeW (z80 text0):=fun s _=>⟨0,by
 unfold qvI z80;have e:z95 s [70,114,111,109,32]=(s.take 5==fromB):=by
  show (bif decide (5≤s.length) then s.take 5==fromB else false)=_
  by_cases hc:5≤s.length
  ·rw [dT hc]; rfl
  ·rw [dF hc];symm;show (s.take 5==fromB)=false;rw [yB];intro e;have:=congrArg List.length e;rw [yz] at this;simp [fromB] at this;omega
 rw [e];cases (s.take 5==fromB) with
 | true=>rfl
 | false =>
  cases s with
  | nil=>rfl
  | cons c r =>
   rw [dT (by simp),dT (by simp)];show (bif c==32 then qeW true else qeW (c==62))=qeW ((c==32)||(c==62));cases (c==32) <;> rfl⟩
theorem qos (s:List UInt8):∀ i:Int,0≤i→decide ((0:Int)≤anyAt [13,10] s i)=s.any qaD:=by
 induction s with
 | nil=>intro i _; rfl
 | cons c r ih =>
  intro i hi;rw [List.any_cons,← ih (i+1) (by omega)];unfold anyAt;have e:List.contains [13,10] c=qaD c:=by
   unfold qaD;simp [List.contains,List.elem];cases (c==13) <;> cases (c==10) <;> rfl
  simp only [e];cases qaD c
  ·rw [yd,Bool.false_or];cases r <;> rfl
  ·simp [hi]
theorem quX:∀ (p0:Int×((List UInt8)×Unit)),(qqI p0=true)→∃ n,qvH n p0=qht (z72 p0):=fun p h=>⟨0,by
 have hl:=qm h;unfold qvH z72 mayB;rw [qkk,show qlp p.2.1 [32]=true from h];have hc:z53 p.2.1 [13,10]=p.2.1.any qaD:=qos p.2.1 0 (by omega);rw [hc,show qpO p.2.1 [13,10]=true by unfold qpO qle; rw [show lenOk p.2.1=true from h]; rfl];rw [show qpP p.2.1 [45,45,32]=true by unfold qpP qjC; rw [show lenOk p.2.1=true from h]; rfl];have hs:(!z88 p.2.1 [45,45,32])=(Lib.index p.2.1 sig == -1):=by
  unfold z88;show (!(!(Lib.index p.2.1 sig == -1)))=_;rw [Bool.not_not]
 rw [hs]
 by_cases h1:p.1 < 0
 ·rw [dT h1,dF (show ¬ (0:Int)≤p.1 by omega)]; rfl
 ·by_cases h2:9 < p.1
  ·rw [dF h1,dT h2,dT (show (0:Int)≤p.1 by omega),dF (show ¬ p.1≤9 by omega)]; rfl
  ·rw [dF h1,dF h2,dT (show (0:Int)≤p.1 by omega),dT (show p.1≤9 by omega)];cases p.2.1.any qaD with
   | true=>rfl
   | false=>cases endSp p.2.1 <;> rfl⟩
end Go.Av
