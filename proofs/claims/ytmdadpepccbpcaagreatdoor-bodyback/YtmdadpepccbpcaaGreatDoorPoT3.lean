import Derived.Test.YtmdadpepccbpcaaGreatDoorPoT
namespace Go.Av
set_option linter.unusedSimpArgs false
set_option linter.unusedVariables false
section
open List (length)
open Int (toNat)
open UInt8 (ofNat)
open IntKind (wrap)
theorem qDj:∀ (c0:UInt8),∃ n,qLT n c0=qhG (z175 c0).1 (z175 c0).2:=fun c=>⟨0,by
 show qhG (bif decide (Lib.indexByte b64D c < 0) then 0 else Lib.indexByte b64D c) (decide (0≤Lib.indexByte b64D c))=_;unfold z175
 by_cases h:Lib.indexByte b64D c < 0
 ·rw[dT h,dF (by omega)];rfl
 ·rw[dF h,dT (by omega)];rfl⟩
theorem u8_of (k:Nat):ofNat (toNat (wrap .u8 (k:Int)))=ofNat k:=by
 have:wrap .u8 (k:Int)=((k % 256:Nat):Int):=by
  rw[IntKind.wrap_u8];omega
 rw[this,Int.toNat_natCast];apply UInt8.toNat_inj.1;show (k % 256) % 256=k % 256;omega
def decT {R:Type} (K:LU→Int→Int→R) (N:R) (out:LU) (held many v:Int):R :=
 bif (decide ((8:Int)≤(wrap .i64 (many+(6:Int))))) then
  bif (decide ((0:Int)≤(wrap .i64 ((wrap .i64 (many+(6:Int))) - (8:Int))))) then
   bif (decide (length out+length ([(ofNat (toNat (wrap .u8 (Int.fdiv (bits .or .i64 (wrap .i64 (held*2 ^ (min (toNat (6:Int)) (IntKind.bits .i64)))) v) (2 ^ (min (toNat (wrap .i64 ((wrap .i64 (many+(6:Int))) - (8:Int)))) (IntKind.bits .i64)))))))]:LU)≤room)) then
    bif (decide ((0:Int)≤(wrap .i64 ((wrap .i64 (many+(6:Int))) - (8:Int))))) then
     K (out++([(ofNat (toNat (wrap .u8 (Int.fdiv (bits .or .i64 (wrap .i64 (held*2 ^ (min (toNat (6:Int)) (IntKind.bits .i64)))) v) (2 ^ (min (toNat (wrap .i64 ((wrap .i64 (many+(6:Int))) - (8:Int)))) (IntKind.bits .i64)))))))]:LU)) (bits .and .i64 (bits .or .i64 (wrap .i64 (held*2 ^ (min (toNat (6:Int)) (IntKind.bits .i64)))) v) (wrap .i64 ((wrap .i64 ((1:Int)*2 ^ (min (toNat (wrap .i64 ((wrap .i64 (many+(6:Int))) - (8:Int)))) (IntKind.bits .i64)))) - (1:Int)))) (wrap .i64 ((wrap .i64 (many+(6:Int))) - (8:Int)))
    else N
   else N
  else N
 else
  K out (bits .or .i64 (wrap .i64 (held*2 ^ (min (toNat (6:Int)) (IntKind.bits .i64)))) v) (wrap .i64 (many+(6:Int)))
theorem held6 (h n:Nat) (hh:h < 64) (hn:n < 64):bits .or .i64 (wrap .i64 ((h:Int)*2 ^ (min (toNat (6:Int)) (IntKind.bits .i64)))) (n:Int)=((h*64+n:Nat):Int):=by
 have e:wrap .i64 ((h:Int)*2 ^ (min (toNat (6:Int)) (IntKind.bits .i64)))=((h*2 ^ 6:Nat):Int):=by
  show wrap .i64 ((h:Int)*64)=_;rw[IntWalk.i64_in _ (by omega)];omega
 rw[e,qMw h n 6 (by omega) (by omega)]
theorem qFw {R:Type} (K:LU→Int→Int→R) (N:R) (out:LU) (h m n:Nat) (hm:m=0∨m=2∨m=4∨m=6) (hh:h < 2 ^ m) (hn:n < 64) (ho:out.length+1≤room) :
 decT K N out (h:Int) (m:Int) (n:Int)=K (out++decO m h n) (decH m h n:Nat) (decM m:Nat):=by
 have hh6:h < 64:=by rcases hm with rfl | rfl | rfl | rfl <;> omega
 unfold decT;rw[held6 h n hh6 hn];rcases hm with rfl | rfl | rfl | rfl
 ·obtain rfl:h=0:=by omega
  rw[show decide ((8:Int)≤wrap .i64 (((0:Nat):Int)+6))=false from rfl,yd,Nat.zero_mul,yE];show K out _ 6=K (out++[]) _ 6;rw[yG];rfl
 ·rw[show decide ((8:Int)≤wrap .i64 (((2:Nat):Int)+6))=true from rfl,yc,show wrap .i64 (wrap .i64 (((2:Nat):Int)+6) - 8)=((0:Nat):Int) from rfl,dT (by omega),yc,yc];have e1:Int.fdiv ((h*64+n:Nat):Int) (2 ^ (min (toNat ((0:Nat):Int)) (IntKind.bits .i64)))=(((h*64+n) / 2 ^ 0:Nat):Int):=fdivN _ 1;have e2:wrap .i64 (wrap .i64 ((1:Int)*2 ^ (min (toNat ((0:Nat):Int)) (IntKind.bits .i64))) - 1)=((2 ^ 0 - 1:Nat):Int):=rfl;rw[e1,e2,u8_of,qiX _ 0 (by omega) (by decide),dT (show out.length+[_].length≤room from ho),yc];rfl
 ·rw[show decide ((8:Int)≤wrap .i64 (((4:Nat):Int)+6))=true from rfl,yc,show wrap .i64 (wrap .i64 (((4:Nat):Int)+6) - 8)=((2:Nat):Int) from rfl,dT (by omega),yc,yc];have e1:Int.fdiv ((h*64+n:Nat):Int) (2 ^ (min (toNat ((2:Nat):Int)) (IntKind.bits .i64)))=(((h*64+n) / 2 ^ 2:Nat):Int):=fdivN _ 4;have e2:wrap .i64 (wrap .i64 ((1:Int)*2 ^ (min (toNat ((2:Nat):Int)) (IntKind.bits .i64))) - 1)=((2 ^ 2 - 1:Nat):Int):=rfl;rw[e1,e2,u8_of,qiX _ 2 (by omega) (by decide),dT (show out.length+[_].length≤room from ho),yc];rfl
 ·rw[show decide ((8:Int)≤wrap .i64 (((6:Nat):Int)+6))=true from rfl,yc,show wrap .i64 (wrap .i64 (((6:Nat):Int)+6) - 8)=((4:Nat):Int) from rfl,dT (by omega),yc,yc];have e1:Int.fdiv ((h*64+n:Nat):Int) (2 ^ (min (toNat ((4:Nat):Int)) (IntKind.bits .i64)))=(((h*64+n) / 2 ^ 4:Nat):Int):=fdivN _ 16;have e2:wrap .i64 (wrap .i64 ((1:Int)*2 ^ (min (toNat ((4:Nat):Int)) (IntKind.bits .i64))) - 1)=((2 ^ 4 - 1:Nat):Int):=rfl;rw[e1,e2,u8_of,qiX _ 4 (by omega) (by decide),dT (show out.length+[_].length≤room from ho),yc];rfl
theorem qyc (m h n:Nat):(decO m h n).length≤1:=by
 unfold decO;cases m==0
 ·exact yv 1
 ·exact Nat.zero_le 1
theorem qmv (j:Nat) (s t:LU) (hl:t.length≤1048576):∀ (d i n:Nat) (out:LU) (h m:Nat),i+d=t.length→d < n→DecSt (t.take i) out m h→out.length≤i →
 qeQ qxa (qcq j) n s out (h:Int) (m:Int) t (t.length:Nat) (i:Nat) =
  bif (t.drop i).all isB64 then (bif ((Int.tmod ((length s:Nat):Int) (4:Int)) != (0:Int)) then qxa [] 4 else bif !(z88 (bitsB t)).2 then qxa [] 3 else qxa (z88 (bitsB t)).1 0) else qxa [] 3
 | d,i,0,out,h,m,hi,hn,_,_=>by omega
 | 0,i,n+1,out,h,m,hi,hn,e,ho=>by
  obtain rfl:i=t.length:=by omega
  show qdB _ _ _ n _ _ _ _ _ _ _=_;unfold qdB qac qaW;rw[dF (by omega),yd,List.drop_length];rw[List.take_length] at e;obtain⟨e1,e2,e3⟩:=e.octets;rw[e1,e3,qrL m h e.cases e.lt];unfold qcq;show _=(bif ((Int.tmod ((length s:Nat):Int) (4:Int)) != (0:Int)) then _ else _);cases ((Int.tmod ((length s:Nat):Int) (4:Int)) != (0:Int))
  ·rw[yd,yd];rfl
  ·rfl
 | d+1,i,n+1,out,h,m,hi,hn,e,ho=>by
  show qdB _ _ _ n _ _ _ _ _ _ _=_;unfold qdB qac qaW;have hlt:i < t.length:=by omega
  rw[qgG hlt,List.all_cons];simp (disch:=omega) only [dT,yc,yi,tn];unfold isB64;cases hv:(z175 (t.getD i 0)).2 with
  | false=>rfl
  | true =>
   obtain⟨v,hv1,hv2⟩:=qFv (t.getD i 0);rw[Bool.not_true,yd,y7,hv1,qm (by omega)];have hs:=qFw (fun o h m=>qeQ qxa (qcq j) n s o h m t (t.length:Nat) ((i+1:Nat):Int)) none out h m v e.cases e.lt hv2 (by unfold room;omega);refine(show _=decT (fun o h m=>qeQ qxa (qcq j) n s o h m t (t.length:Nat) ((i+1:Nat):Int)) none out h m v from rfl).trans (hs.trans ?_);have e2:=e.step (t.getD i 0) v hv1 hv2;rw[qCN hlt] at e2;have hd:=qyc m h v;exact qmv j s t hl d (i+1) n _ _ _ (by omega) (by omega) e2 (by rw[yn];omega)
theorem qDk:∀ (s0:LU),(qpW s0=true)→∃ n,qqS n s0=qxa (z148 s0).1 (z148 s0).2:=fun s h=>⟨s.length+1,by
 have hl:=qd h;have hb:=qIz s;unfold qqS;rw[show qpV s=true from h,yi,yc];have:=qmv (s.length+1) s (bodyB s) (by omega) (bodyB s).length 0 (s.length+1) [] 0 0 (by omega) (by omega) DecSt.nil (yv 0);refine(show _=qeQ qxa (qcq (s.length+1)) (s.length+1) s [] ((0:Nat):Int) ((0:Nat):Int) (bodyB s) ((bodyB s).length:Nat) ((0:Nat):Int) from rfl).trans (this.trans ?_);rw[yw,tmod4];unfold z148;cases (bodyB s).all isB64
 ·rfl
 ·cases (s.length % 4 != 0)
  ·cases (z88 (bitsB (bodyB s))).2 <;> rfl
  ·rfl⟩
theorem qDl:∀ (s0:LU) (suffix1:LU),(qhp s0 suffix1=true)→∃ n,qFq n s0 suffix1=qwR (z231 s0 suffix1):=fun s t h=>⟨0,by
 have hl:=qd h;unfold qFq z231;rw[show qiE s t=true from h,yi,yc];cases hs:z215 s t with
 | false=>rfl
 | true =>
  have hle:t.length≤s.length:=by
   unfold z215 at hs
   by_cases h:t.length≤s.length
   ·exact h
   ·rw[yx h] at hs;cases hs
  rw[yc,yc,show wrap .i64 (((s.length:Nat):Int) - ((t.length:Nat):Int))=((s.length - t.length:Nat):Int) by rw[IntWalk.i64_in _ (by omega)];omega];simp (disch:=omega) only [dT,yc,yi,tn];rfl⟩
theorem qkq (s:LU):z231 s [61]=bif s.getLast? == some 61 then s.dropLast else s:=by
 unfold z231 z215;match s with
 | []=>rfl
 | x :: r =>
  have hle:([61]:LU).length≤(x :: r).length:=by simp
  have hx:(x :: r)=(x :: r).dropLast++[(x :: r).getLast (by simp)]:=(List.dropLast_concat_getLast (by simp)).symm;generalize (x :: r).getLast (by simp)=y at hx;generalize (x :: r).dropLast=d at hx;rw[hx];have h1:(d++[y]).length - ([61]:LU).length=d.length:=by simp
  rw[h1,List.drop_left,List.take_left,yo (by simp),yc];have h2:(d++[y]).getLast? = some y:=by simp
  have h3:(d++[y]).dropLast=d:=by simp
  rw[h2]
  by_cases hy:y=61
  ·subst hy;rfl
  ·have e1:(([y]:LU)==[61])=false:=by simpa using hy
   have e2:((some y:Option UInt8)==some 61)=false:=by simpa using hy
   rw[e1,e2]
theorem qDm:∀ (s0:LU),(qpV s0=true)→∃ n,qqR n s0=qwR (z201 s0):=fun s h=>⟨3,by
 have h2:qhp (z231 s [61]) [61]=true:=by
  have hl:=qd h;refine qu ?_;rw[qkq];cases s.getLast? == some 61
  ·exact hl
  ·rw[yc,List.length_dropLast];omega
 have e:qqR 3 s=bif qhp s [61]&&true then (bif qhp (z231 s [61]) [61]&&true then qwR (z231 (z231 s [61]) [61]) else none) else none:=rfl
 rw[e,h2,show qhp s [61]=true from h,yi,yc,yc];congr 1;rw[qkq (z231 s [61]),qkq s];show _=bodyB s;unfold bodyB;cases hg:s.getLast? == some 61 with
 | false =>
  simp only[yd];rw[hg];rfl
 | true =>
  simp only[yc];have hne:s≠[]:=by rintro rfl;cases hg
  have hlen:(s.dropLast.length != s.length)=true:=by
   have:=List.length_pos_iff.2 hne;rw[bne_iff_ne,List.length_dropLast];omega
  rw[hlen,yi]⟩
theorem qyd {σ:Type} (sp:Bool×Bool×σ) (x:σ) (R N:σ→OA) (E:σ→Bool×σ) (hN:∀ y,(E y).1=true→N y=R (E y).2) (h:(bif sp.1 then bif sp.2.1 then E sp.2.2 else (true,sp.2.2) else (false,x)).1=true) :
 (bif sp.1 then bif (!sp.2.1) then R sp.2.2 else N sp.2.2 else none)=R (bif sp.1 then bif sp.2.1 then E sp.2.2 else (true,sp.2.2) else (false,x)).2:=by
 obtain⟨a,b,y⟩:=sp;cases a with
 | false=>cases h
 | true =>
  cases b with
  | false=>rfl
  | true=>exact hN y h
theorem qqX (V:Sigma Inv) (j:Nat) (s s29:LU) (hl:s.length≤1048576):∀ (d i n:Nat) (x:Den V.1),i+d=s.length→d < n→(eachB (fun x a0 a1=>V.2.spec x [⟨.byte,a0⟩,⟨(.int .i64),a1⟩]) x (s.drop i)).1=true →
 qfY V (qhE V) (qeJ V j) n s (s.length:Nat) (i:Nat) x s29=qhE V (eachB (fun x a0 a1=>V.2.spec x [⟨.byte,a0⟩,⟨(.int .i64),a1⟩]) x (s.drop i)).2 s29
 | d,i,0,x,hi,hn,_=>by omega
 | 0,i,n+1,x,hi,hn,h=>by
  obtain rfl:i=s.length:=by omega
  show qdt V _ _ _ n _ _ _ _ _=_;unfold qdt qn;rw[dF (by omega),yd,List.drop_length];rfl
 | d+1,i,n+1,x,hi,hn,h=>by
  show qdt V _ _ (qfY V (qhE V) (qeJ V j) n) n _ _ _ _ _=_;unfold qdt qn;have hlt:i < s.length:=by omega
  have e:eachB (fun x a0 a1=>V.2.spec x [⟨.byte,a0⟩,⟨(.int .i64),a1⟩]) x (s.drop i)=bif s.getD i 0==61 then (true,x) else
   bif (V.2.spec x [⟨.byte,s.getD i 0⟩,⟨(.int .i64),(bif (z175 (s.getD i 0)).2 then (z175 (s.getD i 0)).1 else -1)⟩]).1 then
    bif (V.2.spec x [⟨.byte,s.getD i 0⟩,⟨(.int .i64),(bif (z175 (s.getD i 0)).2 then (z175 (s.getD i 0)).1 else -1)⟩]).2.1 then
     eachB (fun x a0 a1=>V.2.spec x [⟨.byte,a0⟩,⟨(.int .i64),a1⟩]) (V.2.spec x [⟨.byte,s.getD i 0⟩,⟨(.int .i64),(bif (z175 (s.getD i 0)).2 then (z175 (s.getD i 0)).1 else -1)⟩]).2.2 (s.drop (i+1))
    else (true,(V.2.spec x [⟨.byte,s.getD i 0⟩,⟨(.int .i64),(bif (z175 (s.getD i 0)).2 then (z175 (s.getD i 0)).1 else -1)⟩]).2.2)
   else (false,x):=by
   rw[qgG hlt];rfl
  rw[e] at h ⊢;simp (disch:=omega) only [dT,yc,yi,tn];cases h61:s.getD i 0==61 with
  | true=>rfl
  | false =>
   rw[h61] at h;rw[yd] at h ⊢;rw[yd];have hN:∀ y,(eachB (fun x a0 a1=>V.2.spec x [⟨.byte,a0⟩,⟨(.int .i64),a1⟩]) y (s.drop (i+1))).1=true→qfY V (qhE V) (qeJ V j) n s (s.length:Nat) (wrap .i64 (((i:Nat):Int)+1)) y s29=qhE V (eachB (fun x a0 a1=>V.2.spec x [⟨.byte,a0⟩,⟨(.int .i64),a1⟩]) y (s.drop (i+1))).2 s29:=fun y hy=>by
    rw[qm (by omega)];exact qqX V j s s29 hl d (i+1) n y (by omega) (by omega) hy
   cases hv:(z175 (s.getD i 0)).2 with
   | true =>
    rw[hv] at h;exact qyd (V.2.spec x [⟨.byte,s.getD i 0⟩,⟨(.int .i64),(z175 (s.getD i 0)).1⟩]) x (fun y=>qhE V y s29) _ _ hN h
   | false =>
    rw[hv] at h;exact qyd (V.2.spec x [⟨.byte,s.getD i 0⟩,⟨(.int .i64),-1⟩]) x (fun y=>qhE V y s29) _ _ hN h
theorem qDn (V:Sigma Inv):∀ (x0:Den V.1) (x1:LU),(z174 (fun x a0 a1=>V.2.spec x [⟨.byte,a0⟩,⟨(.int .i64),a1⟩]) x0 x1).1=true→∃ n,qqw V n x0 x1=qhE V (z174 (fun x a0 a1=>V.2.spec x [⟨.byte,a0⟩,⟨(.int .i64),a1⟩]) x0 x1).2.1 (z174 (fun x a0 a1=>V.2.spec x [⟨.byte,a0⟩,⟨(.int .i64),a1⟩]) x0 x1).2.2:=fun x s h=>⟨s.length+1,by
 unfold z174 at h ⊢;cases hk:lenOk s with
 | false=>rw[hk] at h;cases h
 | true =>
  rw[hk,yc] at h;rw[yc];unfold qqw;have:=qqX V (s.length+1) s s (qd hk) s.length 0 (s.length+1) x (by omega) (by omega) (by rw[yw];exact h);rw[yw] at this;exact this⟩
theorem qII (j:Nat) (c:UInt8) (out:LU) (h m:Int):qmc j (false,(out,(h,(m,())))) c (-1)=(true,true,(false,(out,(h,(m,()))))):=by
 unfold qmc;rw[show decide ((-1:Int) < 0)=true from rfl,yc];show (bif false then _ else yfin _ _ _)=_;rw[yd,qgr];rfl
theorem qDo (j:Nat) (c:UInt8) (out:LU) (h m n:Nat) (hm:m=0∨m=2∨m=4∨m=6) (hh:h < 2 ^ m) (hn:n < 64) (ho:out.length+1≤room) :
 qmc j (false,(out,((h:Int),((m:Int),())))) c (n:Int)=(true,true,(false,(out++decO m h n,(((decH m h n:Nat):Int),(((decM m:Nat):Int),()))))):=by
 unfold qmc;rw[dF (show ¬ (n:Int) < 0 by omega),yd];have hs:=qFw (fun o (h m:Int)=>(some (.dat (.pair .bool (.pair (.sl .byte) (.pair (.int .i64) (.pair (.int .i64) .unit)))) (false,(o,(h,(m,())))) none):OA)) none out h m n hm hh hn ho;refine(show _=yfin (.pair (.sl .byte) (.pair (.int .i64) (.pair (.int .i64) .unit))) (false,(out,((h:Int),((m:Int),())))) (decT (fun o (h m:Int)=>(some (.dat (.pair .bool (.pair (.sl .byte) (.pair (.int .i64) (.pair (.int .i64) .unit)))) (false,(o,(h,(m,())))) none):OA)) none out h m n) from rfl).trans ?_;rw[hs,qgr];rfl
theorem qif (j:Nat):∀ (s t out:LU) (h m:Nat),DecSt t out m h→out.length+s.length≤1048576 →
 ∃ (out':LU) (h' m':Nat),eachB (qmc j) (false,(out,((h:Int),((m:Int),())))) s=(true,(false,(out',((h':Int),((m':Int),())))))∧DecSt (t++digB s) out' m' h'
 | [],t,out,h,m,e,_=>⟨out,h,m,rfl,by rw[show digB []=[] from rfl,yG];exact e⟩
 | c :: r,t,out,h,m,e,hl=>by
  rw[qcr];simp only[yg] at hl;cases h61:c==61 with
  | true =>
   refine⟨out,h,m,?_,by rw[yc,yG];exact e⟩;show (bif c==61 then _ else _)=_;rw[h61];rfl
  | false =>
   rw[yd];cases hv:(z175 c).2 with
   | false =>
    rw[show isB64 c=false from hv,yd];obtain⟨out',h',m',k1,k2⟩:=qif j r t out h m e (by omega);refine⟨out',h',m',?_,k2⟩;unfold eachB;rw[h61,yd,hv,yd,qII,← k1];rfl
   | true =>
    obtain⟨v,hv1,hv2⟩:=qFv c;rw[show isB64 c=true from hv,yc];have hd:=qyc m h v;obtain⟨out',h',m',k1,k2⟩:=qif j r (t++[c]) (out++decO m h v) (decH m h v) (decM m) (e.step c v hv1 hv2) (by rw[yn];omega);refine⟨out',h',m',?_,by rw[yl] at k2;exact k2⟩;unfold eachB;rw[h61,yd,hv,yc,hv1,qDo j c out h m v e.cases e.lt hv2 (by unfold room;omega),← k1];rfl
theorem qIJ:∀ (s0:LU),(qzO s0=true)→∃ n,qIa n s0=qxa (z54 s0).1 (z54 s0).2:=fun s h=>⟨0,by
 have hl:=qd h;obtain⟨out,hh,m,k1,k2⟩:=qif 0 s [] [] 0 0 DecSt.nil (by simpa using hl);have k3:=k2.octets;rw[List.nil_append] at k3;have e:z174 (qmc 0) (false,(([]:LU),((0:Int),((0:Int),())))) s=(true,(false,(out,((hh:Int),((m:Int),())))),s):=by
  unfold z174;rw[show lenOk s=true from h,yc];have k1':eachB (qmc 0) (false,(([]:LU),((0:Int),((0:Int),())))) s=(true,(false,(out,((hh:Int),((m:Int),()))))):=k1;rw[k1']
 unfold qIa qgB qeK;rw[e];simp only[yc,yd,qyW];unfold z54;rw[k3.1,k3.2.1]⟩
theorem qIK:∀ (s0:LU),(qzP s0=true)→∃ n,qLV n s0=qwR (z28 s0):=fun s h=>⟨0,by
 unfold qLV;rw[show qzO s=true from h];rfl⟩
theorem qeR (cur:LU):qM cur []=[cur]:=rfl
theorem qag (cur:LU) (c:UInt8) (r:LU):qM cur (c :: r)=if c=13∧r.head? = some 10 then cur :: qM [] (r.drop 1) else qM (cur++[c]) r:=by
 have h:lineB true [] r=qM [] (r.drop 1):=by cases r <;> rfl
 unfold qM;rw[show lineB false cur (c :: r)=if c=13∧r.head? = some 10 then cur :: lineB true [] r else lineB false (cur++[c]) r from rfl,h];rfl
theorem qgH:∀ (s cur:LU),qM cur s≠[]
 | [],cur=>by simp[qeR]
 | c :: r,cur=>by
  rw[qag];split
  ·simp
  ·exact qgH r _
theorem qgb:∀ (pre:List LU) (x:LU),qar (pre++[x])=if x=[] then (pre,true) else (pre++[x],false)
 | [],x=>by
  simp only[List.nil_append,qar]
 | a :: pre,x=>by
  have ih:=qgb pre x;have:qar (a :: pre++[x])=(a :: (qar (pre++[x])).1,(qar (pre++[x])).2):=by
   cases pre with
   | nil=>rfl
   | cons b p=>rfl
  rw[this,ih];split <;> rfl
end
section
open List (getD drop take)
open IntKind (wrap)
variable {cs s l:LU} {i b:Nat}
theorem qDp:∀ (bufLen0:Int),∃ n,qLM n bufLen0=qwM (z166 bufLen0):=fun _=>⟨0,rfl⟩
theorem qoU (c:Nat) (h:128≤c):2≤(Utf8.encode (c:Int)).size∧(c < 2048→(Utf8.encode (c:Int)).size≤2)∧(c < 65536→(Utf8.encode (c:Int)).size≤3)∧(Utf8.encode (c:Int)).size≤4:=by
 by_cases hv:Utf8.valid (c:Int)=true
 ·have hc:(c:Int).toNat=c:=by omega
  unfold Utf8.encode;simp only[hv,if_true,hc];rw[if_neg (by omega)];split
  ·refine⟨?_,?_,?_,?_⟩ <;> simp[ByteArray.size]
  ·split
   ·refine⟨?_,?_,?_,?_⟩ <;> simp[ByteArray.size] <;> omega
   ·refine⟨?_,?_,?_,?_⟩ <;> simp[ByteArray.size] <;> omega
 ·have hn:2048≤c:=by
   rcases Nat.lt_or_ge c 2048 with h2 | h2
   ·exact absurd (by unfold Utf8.valid;simp;omega) hv
   ·exact h2
  have hv':Utf8.valid (c:Int)=false:=by simpa using hv
  have he:Utf8.encode (c:Int)=⟨#[239,191,189]⟩:=by
   unfold Utf8.encode;simp only[hv',yq,if_false];decide
  rw[he];refine⟨?_,?_,?_,?_⟩ <;> simp[ByteArray.size] <;> omega
theorem qqY (c:Nat) (h:128≤c):∃ e r,(Utf8.encode (c:Int)).data.toList=e :: r∧128≤e.toNat:=by
 unfold Utf8.encode;generalize hg:(if Utf8.valid (c:Int)=true then (c:Int).toNat else Utf8.runeError)=x;have hx:128≤x∧x≤1114111:=by
  split at hg
  ·rename_i hv;unfold Utf8.valid at hv;simp only[yR,yf,ym] at hv;omega
  ·unfold Utf8.runeError at hg;omega
 simp only[if_neg (show ¬ x < 128 by omega)];split
 ·exact⟨_,_,rfl,by simp;omega⟩
 ·split
  ·exact⟨_,_,rfl,by simp;omega⟩
  ·exact⟨_,_,rfl,by simp;omega⟩
theorem qDq (p:LU) (hp:0 < p.length) (h0:128≤(p.getD 0 0).toNat):128≤(Lib.decodeL p).1∧1≤(Lib.decodeL p).2∧(Lib.decodeL p).2≤p.length∧(∀ j,j < (Lib.decodeL p).2→128≤(p.getD j 0).toNat) ∧
 ((Lib.decodeL p).1≠65533→2≤(Utf8.encode ((Lib.decodeL p).1:Int)).size∧(Utf8.encode ((Lib.decodeL p).1:Int)).size≤(Lib.decodeL p).2):=by
 rw[Lib.decodeL_N];have b0:=qga (p.getD 0 0);have b1:=qga (p.getD 1 0);have b2:=qga (p.getD 2 0);have b3:=qga (p.getD 3 0);rcases Lib.decodeN_shape p.length (p.getD 0 0).toNat (p.getD 1 0).toNat (p.getD 2 0).toNat (p.getD 3 0).toNat with ⟨h,_⟩ | ⟨h1,h2,h3,h4,e⟩ | ⟨h1,h2,h3,h4,h5,_,e⟩ | ⟨h1,h2,h3,h4,h5,h6,h7,e⟩ | e
 ·omega
 ·rw[e];dsimp only;have hs:=qoU _ h4;refine⟨h4,by omega,by omega,fun j hj=>?_,fun _=>⟨hs.1,hs.2.1 (by omega)⟩⟩;match j,hj with
  | 0,_=>exact h0
  | 1,_=>omega
  | n+2,hj=>omega
 ·rw[e];dsimp only;have hs:=qoU (((p.getD 0 0).toNat % 16)*4096+(p.getD 1 0).toNat % 64*64+(p.getD 2 0).toNat % 64) (by omega);refine⟨by omega,by omega,by omega,fun j hj=>?_,fun _=>⟨hs.1,hs.2.2.1 (by omega)⟩⟩;match j,hj with
  | 0,_=>exact h0
  | 1,_=>omega
  | 2,_=>omega
  | n+3,hj=>omega
 ·rw[e];dsimp only;have hs:=qoU (((p.getD 0 0).toNat % 8)*262144+(p.getD 1 0).toNat % 64*4096+(p.getD 2 0).toNat % 64*64+(p.getD 3 0).toNat % 64) (by omega);refine⟨by omega,by omega,by omega,fun j hj=>?_,fun _=>⟨hs.1,hs.2.2.2⟩⟩;match j,hj with
  | 0,_=>exact h0
  | 1,_=>omega
  | 2,_=>omega
  | 3,_=>omega
  | n+4,hj=>omega
 ·rw[e];dsimp only;refine⟨by omega,by omega,by omega,fun j hj=>?_,fun h=>absurd rfl h⟩;match j,hj with
  | 0,_=>exact h0
  | n+1,hj=>omega
theorem qig (ha:ascii cs=true) (hi:i < cs.length):(cs.getD i 0).toNat < 128:=by
 unfold ascii at ha;rw[List.all_eq_true] at ha;have:=ha (cs.getD i 0) (by simp[getD,hi]);simp only[ym] at this;exact this
theorem qqZ (ha:ascii cs=true) {x:UInt8} (hx:128≤x.toNat):cs.contains x=false:=by
 cases h:cs.contains x with
 | false=>rfl
 | true =>
  unfold ascii at ha;rw[List.all_eq_true] at ha;have:=ha x (by simpa using h);simp only[ym] at this;have:x.toNat < 128:=this;omega
theorem qmw (ha:ascii cs=true) (hi:i < cs.length):decL cs i=(((cs.getD i 0).toNat:Int),1):=by
 unfold decL;rw[Lib.decode_N];rw[Lib.decodeN_ascii _ _ _ _ _ (by simpa using qig ha hi)]
theorem qoV (ha:ascii cs=true) (c:Nat) (hc:128≤c):Lib.index cs (Utf8.encode (c:Int)).data.toList = -1:=by
 obtain⟨e,r,he,h1⟩:=qqY c hc;rw[he];refine Lib.index_none fun j _=>?_;unfold Lib.occAt;cases hd:cs.drop j with
 | nil=>rfl
 | cons x t =>
  have hj:j < cs.length:=by
   rcases Nat.lt_or_ge j cs.length with h | h
   ·exact h
   ·rw[yA h] at hd;cases hd
  have hx:x=cs.getD j 0:=by
   rw[qV (d:=0) hj] at hd;exact(List.cons.inj hd).1.symm
  have:=qig ha hj;rw[← hx] at this;have hne:(e==x)=false:=by
   rw[yB];rintro rfl;omega
  simp[List.isPrefixOf,hne]
theorem qsx (ha:ascii cs=true) (hn:cs≠[]) (c:Nat) (hc:128≤c):(cs==(Utf8.encode (c:Int)).data.toList)=false:=by
 obtain⟨e,r,he,h1⟩:=qqY c hc;rw[he,yB];rintro rfl;have:=qig ha (i:=0) (by simp);simp at this;omega
theorem qye (cs:LU):∀ (w:Nat) (p:LU) (i:Int),w≤p.length→(∀ j,j < w→cs.contains (p.getD j 0)=false)→anyAt cs p i=anyAt cs (p.drop w) (i+w)
 | 0,p,i,_,_=>by simp
 | w+1,[],i,h,_=>by simp at h
 | w+1,x :: p,i,h,hc=>by
  have h0:=hc 0 (by omega);simp only[List.getD_cons_zero] at h0;have ih:=qye cs w p (i+1) (by simpa using h) (fun j hj=>by have:=hc (j+1) (by omega);simpa using this);show (bif cs.contains x then i else anyAt cs p (i+1))=anyAt cs (p.drop w) (i+((w+1:Nat):Int));rw[h0,yd,ih];congr 1;omega
variable (m0:Int)
theorem qMA (ret:Int→OA) (k0:OA) (cs:LU) (ha:ascii cs=true):∀ (d i n:Nat),i+d=cs.length→d < n→qfW m0 ret k0 n cs i=k0
 | d,i,0,hi,hn=>by omega
 | 0,i,n+1,hi,hn=>by
  show qdr m0 ret k0 (qfW m0 ret k0 n) n cs i=_;unfold qdr;rw[yx (by omega)];rfl
 | d+1,i,n+1,hi,hn=>by
  show qdr m0 ret k0 (qfW m0 ret k0 n) n cs i=_;unfold qdr;have hlt:i < cs.length:=by omega
  have hx:=qig ha hlt;rw[yo hlt,qmw ha hlt,yc,yc,yc,show ((((cs.getD i 0).toNat:Nat):Int)==65533)=false by rw[yB];omega,yd];exact qMA ret k0 cs ha d (i+1) n (by omega) (by omega)
theorem qFx (ret:Int→OA) (k6:LU→LU→Int→Int→OA) (s cs:LU) (w at1 r:Int) (hr:128≤r) (ha:ascii cs=true):∀ (d i n:Nat),i+d=cs.length→d < n→qbP m0 ret k6 n s cs w at1 r cs i=k6 s cs w at1
 | d,i,0,hi,hn=>by omega
 | 0,i,n+1,hi,hn=>by
  show qbX m0 ret k6 (qbP m0 ret k6 n) n s cs w at1 r cs i=_;unfold qbX;rw[yx (by omega)];rfl
 | d+1,i,n+1,hi,hn=>by
  show qbX m0 ret k6 (qbP m0 ret k6 n) n s cs w at1 r cs i=_;unfold qbX;have hlt:i < cs.length:=by omega
  have hx:=qig ha hlt;rw[yo hlt,qmw ha hlt,yc,yc,yc,show (r==(((cs.getD i 0).toNat:Nat):Int))=false by rw[yB];omega,yd];exact qFx ret k6 s cs w at1 r hr ha d (i+1) n (by omega) (by omega)
theorem qFy (ret:Int→OA) (k2:OA) (hk:k2=ret (-1)) (s cs:LU) (hl:s.length≤1048576):∀ (d i n:Nat),i+d=s.length→d < n →
 qcP m0 ret k2 n (setOf cs (List.replicate 256 false)) s (s.length:Nat) (i:Nat)=ret (anyAt cs (s.drop i) i)
 | d,i,0,hi,hn=>by omega
 | 0,i,n+1,hi,hn=>by
  show qbW m0 ret k2 (qcP m0 ret k2 n) n _ s _ _=_;unfold qbW;rw[yx (by omega),yd,yA (by omega),hk];rfl
 | d+1,i,n+1,hi,hn=>by
  show qbW m0 ret k2 (qcP m0 ret k2 n) n _ s _ _=_;unfold qbW z168;have hlt:i < s.length:=by omega
  rw[qkF,yo hlt,yc,qak,y7,yc,qaZ,qxL _ _ _ yQ,qm (by omega),qFy ret k2 hk s cs hl d (i+1) n (by omega) (by omega),qV (d:=0) hlt];have:(List.replicate 256 false).getD (s.getD i 0).toNat false=false:=by rw[yZ,List.getElem?_replicate];split <;> rfl
  rw[this,Bool.or_false];show _=ret (bif cs.contains (s.getD i 0) then (i:Int) else anyAt cs (s.drop (i+1)) (i+1));cases cs.contains (s.getD i 0) <;> rfl
set_option maxRecDepth 100000 in
theorem qyf (ret:Int→OA) (k4:OA) (hk:k4=ret (-1)) (s cs:LU) (hl:s.length≤1048576) (ha:ascii cs=true) (hc2:2≤cs.length) (hcl:cs.length≤1048576) (d i n:Nat) (hi:i+d=s.length) (hn:d+cs.length+1 < n) :
 qbQ m0 ret k4 n s cs (i:Nat)=ret (anyAt cs (s.drop i) i):=by
 obtain⟨n,rfl⟩:∃ n',n=n'+1:=⟨n - 1,by omega⟩;show qcQ m0 ret k4 (qbQ m0 ret k4 n) n s cs (i:Nat)=_;unfold qcQ qp;match d,hi,hn with
 | 0,hi,hn =>
  rw[yx (by omega),yd,yA (by omega),hk];rfl
 | d+1,hi,hn =>
  have hlt:i < s.length:=by omega
  have hb:=qga (s.getD i 0);rw[qkF,yo hlt,yc,qak,y7,yc,yc,qaZ,qaZ,List.take_length,IntWalk.i32_in _ (by omega)]
  by_cases h128:(s.getD i 0).toNat < 128
  ·rw[yo (show (((s.getD i 0).toNat:Nat):Int) < 128 by omega),yc,qm (by omega),qyf ret k4 hk s cs hl ha hc2 hcl d (i+1) n (by omega) (by omega),qV (d:=0) hlt];show (bif decide ((0:Int)≤Lib.indexByte cs (s.getD i 0)) then ret i else ret (anyAt cs (s.drop (i+1)) ((i+1:Nat):Int)))=ret (bif cs.contains (s.getD i 0) then (i:Int) else anyAt cs (s.drop (i+1)) (i+1));rw[← Lib.contains_iff_indexByte];cases cs.contains (s.getD i 0) <;> rfl
  ·rw[yx (show ¬ (((s.getD i 0).toNat:Nat):Int) < 128 by omega),yd,yo (show (i:Int)≤((s.length:Nat):Int) by omega),yo (Int.le_refl _)];have hp:0 < (s.drop i).length:=by rw[yK];omega
   have h0:128≤((s.drop i).getD 0 0).toNat:=by
    rw[qV (d:=0) hlt];simp only[List.getD_cons_zero];omega
   obtain⟨f1,f2,f3,f4,f5⟩:=qDq (s.drop i) hp h0;rw[show qlu (s.drop i)=true by unfold qlu;exact yo hp];have hd1:(z169 (s.drop i)).1=((Lib.decodeL (s.drop i)).1:Int):=rfl;have hd2:(z169 (s.drop i)).2=((Lib.decodeL (s.drop i)).2:Int):=rfl;rw[hd1,hd2];obtain⟨r,hr⟩:∃ r,(Lib.decodeL (s.drop i)).1=r:=⟨_,rfl⟩;obtain⟨w,hw⟩:∃ w,(Lib.decodeL (s.drop i)).2=w:=⟨_,rfl⟩;rw[hr] at f1 f5;rw[hw] at f2 f3 f4 f5;rw[hr,hw];rw[yK] at f3;have hnext:qbQ m0 ret k4 n s cs (wrap .i64 ((i:Int)+(w:Int)))=ret (anyAt cs (s.drop i) i):=by
    rw[IntWalk.i64_in _ (by omega),show (i:Int)+(w:Int)=((i+w:Nat):Int) by omega,qyf ret k4 hk s cs hl ha hc2 hcl (d+1 - w) (i+w) n (by omega) (by omega),
     qye cs w (s.drop i) i (by rw[yK];exact f3) (fun j hj=>qqZ ha (f4 j hj)),List.drop_drop]
    congr 2
   have h48:qbP m0 ret (qeH m0 ret k4 (qbQ m0 ret k4 n) n) n s cs (w:Int) (i:Int) (r:Int) cs 0=ret (anyAt cs (s.drop i) i):=by
    rw[qFx m0 ret _ s cs w i r (by omega) ha cs.length 0 n (by omega) (by omega)];exact hnext
   simp only[Bool.and_self,yc]
   by_cases hre:r=65533
   ·rw[show ((r:Int) != 65533)=false by simp only[bne_eq_false_iff_eq];omega,yd,h48]
   ·obtain⟨e1,e2⟩:=f5 hre;rw[show ((r:Int) != 65533)=true by simp only[bne_iff_ne,ne_eq];omega,yc,qsx ha (by rintro rfl;simp at hc2) r f1,yd,hnext];cases ((cs.length:Int)==(w:Int)) with
    | true=>rfl
    | false =>
     rw[yd]
     by_cases hm:(w:Int)≤m0
     ·have hok:qlt m0 cs (Utf8.encode (r:Int)).data.toList=true:=by
       unfold qlt;rw[← Lib.size_eq];simp only[yf,ym];omega
      rw[yo hm,hok];unfold z170;rw[qoV ha r f1];rfl
     ·rw[yx hm,yd,h48]
 termination_by d
 decreasing_by all_goals omega
set_option maxRecDepth 100000 in
theorem qDr:∀ (s0:LU) (chars1:LU),(qdL s0 chars1=true)→∃ n,qqp m0 n s0 chars1=qEt (z109 s0 chars1):=fun s cs h=>⟨s.length+cs.length+2,by
 unfold qdL at h;simp only[yf,ym] at h;obtain⟨⟨hc2,ha,hcl⟩,hl⟩:=h;have hcl':=qd hcl;have hl':=qd hl;unfold qqp qcR z109;rw[show (cs==[])=false by cases cs with | nil=>simp at hc2 | cons c r=>rfl,yd];have hcne:(((cs.length:Nat):Int)==1)=false:=by rw[yB];omega
 by_cases h1:s.length=1
 ·rw[show (((s.length:Nat):Int)==1)=true by rw[beq_iff_eq];omega,yc];obtain⟨x,rfl⟩:=List.length_eq_one_iff.1 h1;have hx:=qga x;show (bif decide ((128:Int)≤wrap .i32 ((x.toNat:Nat):Int)) then _ else _)=_;rw[IntWalk.i32_in _ (by omega)]
  by_cases h128:x.toNat < 128
  ·rw[yx (show ¬ (128:Int)≤((x.toNat:Nat):Int) by omega),yd];show (bif decide ((0:Int)≤Lib.indexByte cs x) then qEt 0 else qEt (-1))=qEt (bif cs.contains x then 0 else -1);rw[← Lib.contains_iff_indexByte];cases cs.contains x <;> rfl
  ·rw[yo (show (128:Int)≤((x.toNat:Nat):Int) by omega),yc,qMA m0 _ _ cs ha cs.length 0 _ (by omega) (by omega)];show qEt (-1)=qEt (bif cs.contains x then 0 else -1);rw[qqZ ha (by omega)];rfl
 ·rw[show (((s.length:Nat):Int)==1)=false by rw[yB];omega,yd,hcne,yd];have h32:=qyf m0 qEt (qeI m0 (s.length+cs.length+2)) rfl s cs hl' ha hc2 hcl' s.length 0 (s.length+cs.length+2) (by omega) (by omega);have h24:=qFy m0 qEt (qhC m0 (s.length+cs.length+2)) rfl s cs hl' s.length 0 (s.length+cs.length+2) (by omega) (by omega);rw[show qdK cs=true by unfold qdK;rw[ha,hcl];rfl];cases z166 ((s.length:Nat):Int) with
  | true=>exact h24
  | false =>
   rw[yd];exact h32⟩
theorem qDs:∀ (b0:LU) (chars1:LU),(qlv b0 chars1=true)→∃ n,qFo n b0 chars1=qwM (z200 b0 chars1):=fun b cs h=>⟨0,by
 unfold qFo z200;rw[show qdL b cs=true from h];rfl⟩
theorem qyg (s:LU) (h:qlq s=true):qlv s [97,98,99,100,101,102]=true:=by
 unfold qlv qdL;rw[show lenOk s=true from h,yi];decide
theorem qDt:∀ (s0:LU),(qlq s0=true)→∃ n,qFp n s0=qwM (z146 s0):=fun s h=>⟨0,by
 unfold qFp z146;rw[qyg s h];rfl⟩
theorem qDu (c:UInt8) (r:LU):(([13,10]:LU).isPrefixOf (c :: r))=decide (c=13∧r.head? = some 10):=by
 cases r with
 | nil=>simp[List.isPrefixOf]
 | cons e r =>
  simp only[List.isPrefixOf,yi,List.head?_cons,ya];rw[Bool.eq_iff_iff];simp only[yf,beq_iff_eq,ym];exact⟨fun h=>⟨h.1.symm,h.2.symm⟩,fun h=>⟨h.1.symm,h.2.symm⟩⟩
theorem qoW (c:UInt8) (r:LU):Lib.index (c :: r) [13,10]=if c=13∧r.head? = some 10 then 0 else if Lib.index r [13,10] = -1 then -1 else Lib.index r [13,10]+1:=by
 have:Lib.index (c :: r) [13,10]=if ([13,10]:LU).isPrefixOf (c :: r) then 0 else if Lib.index r [13,10] == -1 then -1 else Lib.index r [13,10]+1:=rfl
 rw[this,qDu]
 by_cases h:c=13∧r.head? = some 10
 ·rw[if_pos h,if_pos (by simpa using h)]
 ·rw[if_neg h,if_neg (by simpa using h)]
  by_cases h2:Lib.index r [13,10] = -1
  ·simp[h2]
  ·rw[if_neg h2,if_neg (by simpa using h2)]
theorem qDv {r:LU} (h:r.head? = some 10):1≤r.length:=by cases r with
 | nil=>cases h
 | cons a b=>simp
theorem qra:∀ (s cur:LU),(Lib.index s [13,10] = -1∧qM cur s=[cur++s]) ∨
 (∃ k:Nat,Lib.index s [13,10]=k∧k+2≤s.length∧qM cur s=(cur++s.take k) :: qM [] (s.drop (k+2)))
 | [],cur=>.inl ⟨rfl,by simp[qeR]⟩
 | c :: r,cur=>by
  rw[qoW,qag]
  by_cases h:c=13∧r.head? = some 10
  ·right;rw[if_pos h,if_pos h];refine⟨0,rfl,by have:=qDv h.2;simp;omega,?_⟩;simp
  ·rw[if_neg h,if_neg h];rcases qra r (cur++[c]) with ⟨h1,h2⟩ | ⟨k,h1,h2,h3⟩
   ·left;rw[h1,if_pos rfl,h2];exact⟨rfl,by simp⟩
   ·right;refine⟨k+1,by rw[h1,if_neg (by omega)];omega,by simp;omega,?_⟩;rw[h3];simp
theorem qfL (s:LU):(z82 s [13,10]=(s,[],false)∧qM [] s=[s]∧Lib.index s [13,10] = -1) ∨
 (∃ k:Nat,k+2≤s.length∧z82 s [13,10]=(s.take k,s.drop (k+2),true)∧qM [] s=s.take k :: qM [] (s.drop (k+2))∧Lib.index s [13,10]=k):=by
 rcases qra s [] with ⟨h1,h2⟩ | ⟨k,h1,h2,h3⟩
 ·left;refine⟨?_,by simpa using h2,h1⟩;unfold z82;rw[h1];rfl
 ·right;refine⟨k,h2,?_,by simpa using h3,h1⟩;unfold z82;rw[h1,dT (by omega),yc,tn];rfl
theorem qDw:∀ (c0:UInt8) (ends1:Bool),∃ n,qFa n c0 ends1=qcX (z122 c0 ends1):=fun c e=>⟨0,by
 unfold qFa qcY z122 unitQ;rw[show qpL ([]:LU) 61 c=true from rfl];cases (c != 61) <;> cases z144 c 4 <;> cases z144 c 2 <;> cases e <;> rfl⟩
theorem qkr (c:UInt8) (e:Bool):(unitQ c e).length≤3∧1≤(unitQ c e).length:=by
 unfold unitQ;cases (((c != 61)&&z144 c 4)||(!e&&z144 c 2))
 ·exact⟨yv 3,by show 1≤3;omega⟩
 ·exact⟨by show 1≤3;omega,yv 1⟩
theorem qIL:∀ b1 b3:Bool,(bif b1 then 1 else bif b3 then 1 else 0:Nat)≤1:=by decide
theorem qIM:∀ b1 b2 b3:Bool,(bif b1 then (bif b2 then 2 else 1) else bif b3 then 1 else 0:Nat)≤2:=by decide
theorem qNU:∀ l:LU,brk l≤l.length∧brk l≤2
 | []=>⟨yv _,by decide⟩
 | [x]=>by
  have h:brk [x]≤1:=qIL (x==13) (x==10);exact⟨h,yL h (by omega)⟩
 | x :: y :: r=>by
  have h:brk (x :: y :: r)≤2:=qIM (x==13) (y==10) (x==10);exact⟨yL h (by simp),h⟩
theorem qNV (h:i < s.length):brk (s.drop i)=bif s.getD i 0==13 then (bif decide (i+1 < s.length) then (bif s.getD (i+1) 0==10 then 2 else 1) else 1) else bif s.getD i 0==10 then 1 else 0:=by
 rw[qV (d:=(0:UInt8)) h]
 by_cases h2:i+1 < s.length
 ·rw[qV (d:=(0:UInt8)) h2,yo h2];rfl
 ·rw[yA (by omega),yx h2];rfl
theorem qDx:∀ (s0:LU) (at1:Int),(qhA s0 at1=true)→∃ n,qEW n s0 at1=qEt (z120 s0 at1):=fun s at1 h=>⟨0,by
 unfold qhA at h;simp only[yf,ym] at h;have hl:=qd h.1;obtain⟨i,rfl⟩:∃ i:Nat,at1=(i:Int):=⟨at1.toNat,by omega⟩;unfold qEW qcW z120;rw[tn]
 by_cases hi:i < s.length
 ·rw[qNV hi,qm (by omega),dF (show ¬ ((s.length:Nat):Int)≤(i:Int) by omega),tn];simp (disch:=omega) only [dT,yc,yd,yi];rw[show decide (((i+1:Nat):Int) < ((s.length:Nat):Int))=decide (i+1 < s.length) by congr 1;apply propext;omega];generalize s.getD i 0=x;generalize s.getD (i+1) 0=y
  by_cases h13:x=13
  ·subst h13;cases decide (i+1 < s.length) <;> cases (y==10) <;> rfl
  ·have e1:(x==13)=false:=by simp[h13]
   have e2:(x != 13)=true:=by simp[bne,h13]
   rw[e1,e2]
   by_cases h10:x=10
   ·subst h10;rfl
   ·have e3:(x==10)=false:=by simp[h10]
    have e4:(x != 10)=true:=by simp[bne,h10]
    rw[e3,e4];rfl
 ·rw[dT (show ((s.length:Nat):Int)≤(i:Int) by omega),yA (by omega)];rfl⟩
theorem qrb:∀ (k:Nat) (l:LU) (p:Page),layS k l p=layS 0 (l.drop k) p
 | 0,l,p=>rfl
 | k+1,[],p=>rfl
 | k+1,x :: r,p=>by rw[show layS (k+1) (x :: r) p=layS k r p from rfl,qrb k r p];rfl
theorem qIN (h:i < s.length) (p:Page):layS 0 (s.drop i) p=bif decide (0 < brk (s.drop i)) then layS 0 (s.drop (i+brk (s.drop i))) (pEnd p false) else layS 0 (s.drop (i+1)) (pPut p (unitQ (s.getD i 0) (decide (0 < brk (s.drop (i+1)))))):=by
 have e:=qV (d:=(0:UInt8)) h;cases hb:brk (s.drop i) with
 | zero =>
  rw[e] at hb ⊢;rw[show layS 0 (s.getD i 0 :: s.drop (i+1)) p=(match brk (s.getD i 0 :: s.drop (i+1)) with | 0=>layS 0 (s.drop (i+1)) (pPut p (unitQ (s.getD i 0) (decide (0 < brk (s.drop (i+1)))))) | k+1=>layS k (s.drop (i+1)) (pEnd p false)) from rfl,hb];rfl
 | succ k =>
  rw[e] at hb ⊢;rw[show layS 0 (s.getD i 0 :: s.drop (i+1)) p=(match brk (s.getD i 0 :: s.drop (i+1)) with | 0=>layS 0 (s.drop (i+1)) (pPut p (unitQ (s.getD i 0) (decide (0 < brk (s.drop (i+1)))))) | k+1=>layS k (s.drop (i+1)) (pEnd p false)) from rfl,hb];show layS k (s.drop (i+1)) (pEnd p false)=layS 0 (s.drop (i+(k+1))) (pEnd p false);rw[qrb k,List.drop_drop,show i+1+k=i+(k+1) by omega]
theorem qih (s:LU) (i:Nat):z120 s (i:Int)=((brk (s.drop i):Nat):Int):=by unfold z120;rw[tn]
theorem qii (hl:s.length≤1048576) (hi:i≤1048577):qhA s (i:Int)=true:=by
 unfold qhA;rw[qu hl,dT (by omega)];rfl
theorem qDy:∀ (p0:LU×(Int×Unit)) (soft1:Bool),(qeG p0 soft1=true)→∃ n,qxn n p0 soft1=qoz (z121 p0 soft1):=fun p soft h=>⟨0,by
 unfold qeG at h;have hl:p.1.length≤100000000:=by simpa using h
 have hr:room=1073741824:=rfl;unfold qxn qca z121 pEnd;cases soft
 ·simp only[yd];rw[dT (by rw[hr];simp;omega),yc]
 ·simp only[yc];rw[dT (show p.1.length+([61]:LU).length≤room by rw[hr];simp;omega),yc,dT (by rw[hr];simp;omega),yc,yl];rfl⟩
theorem qDz:∀ (p0:LU×(Int×Unit)) (u1:LU),(qiH p0 u1=true)→∃ n,qxo n p0 u1=qoz (z119 p0 u1):=fun p u h=>⟨0,by
 unfold qiH at h;simp only[yf,ym] at h;obtain⟨h1,h2,h3⟩:=h;have hr:room=1073741824:=rfl;have he:qeG p true=true:=dT h1;unfold qxo z119 pPut;rw[he,show wrap .i64 (p.2.1+((u.length:Nat):Int))=p.2.1+((u.length:Nat):Int) from IntWalk.i64_in _ (by omega)]
 by_cases h75:75 < p.2.1+((u.length:Nat):Int)
 ·rw[dT h75];have hl:(pEnd p true).1.length≤100000003:=by unfold pEnd;simp;omega
  simp only[yc];rw[show z121 p true=pEnd p true from rfl,dT (by rw[hr];omega),yc,show (pEnd p true).2.1=0 from rfl,IntWalk.i64_in _ (by omega)]
 ·rw[dF h75];simp only[yd];rw[dT (by rw[hr];omega),yc]⟩
def okP (p:Page) (b:Nat):Prop:=p.1.length≤b∧0≤p.2.1∧p.2.1≤75
theorem qyh {p:Page} (h:okP p b) (soft:Bool):okP (pEnd p soft) (b+3):=by
 unfold okP pEnd at *
 cases soft <;> simp <;> omega
theorem qMB {p:Page} (h:okP p b) {u:LU} (hu:u.length≤3):okP (pPut p u) (b+6):=by
 unfold pPut
 by_cases h75:75 < p.2.1+((u.length:Nat):Int)
 ·rw[dT h75];have:=qyh h true;unfold okP at this ⊢;show ((pEnd p true).1++u).length≤_∧0≤(0:Int)+(u.length:Nat)∧(0:Int)+(u.length:Nat)≤75;rw[yn];omega
 ·rw[dF h75];unfold okP at h ⊢;show (p.1++u).length≤_∧0≤p.2.1+(u.length:Nat)∧p.2.1+(u.length:Nat)≤75;rw[yn];omega
theorem qks (k0:Page→OA) (s:LU) (hl:s.length≤1048576):∀ (d i n:Nat) (p:Page),i+d=s.length→d < n→okP p (6*i) →
 qsp k0 n s p (i:Nat)=k0 (layS 0 (s.drop i) p)∧okP (layS 0 (s.drop i) p) (6*s.length)
 | d,i,0,p,hi,hn,_=>by omega
 | 0,i,n+1,p,hi,hn,hp=>by
  obtain rfl:i=s.length:=by omega
  refine⟨?_,?_⟩
  ·show qcZ _ _ n _ _ _=_;unfold qcZ;rw[dF (by omega),yd,yA (by omega)];rfl
  ·rw[yA (by omega)];exact hp
 | d+1,i,n+1,p,hi,hn,hp=>by
  have hlt:i < s.length:=by omega
  have hbk:=qNU (s.drop i);rw[yK] at hbk;rw[qIN hlt]
  by_cases h0:0 < brk (s.drop i)
  ·have ih:=qks k0 s hl (d+1 - brk (s.drop i)) (i+brk (s.drop i)) n (pEnd p false) (by omega) (by omega) (by have:=qyh hp false;unfold okP at this ⊢;omega);rw[dT h0,yc];refine⟨?_,ih.2⟩;show qcZ _ _ n _ _ _=_;unfold qcZ;rw[qii hl (by omega),qih,dT (by omega),dT (show (0:Int) < ((brk (s.drop i):Nat):Int) by omega),show qeG p false=true from dT (by unfold okP at hp;omega),
    show wrap .i64 ((i:Int)+((brk (s.drop i):Nat):Int))=((i+brk (s.drop i):Nat):Int) by rw[IntWalk.i64_in _ (by omega)];omega]
   exact ih.1
  ·have hu:=qkr (s.getD i 0) (decide (0 < brk (s.drop (i+1))));have ih:=qks k0 s hl d (i+1) n (pPut p (unitQ (s.getD i 0) (decide (0 < brk (s.drop (i+1)))))) (by omega) (by omega) (by have:=qMB hp hu.1;unfold okP at this ⊢;omega);rw[dF h0,yd];refine⟨?_,ih.2⟩;show qcZ _ _ n _ _ _=_;unfold qcZ;rw[qm (by omega),qii hl (by omega),qii hl (by omega),qih,qih,tn,dT (show (i:Int) < ((s.length:Nat):Int) by omega),dF (show ¬ (0:Int) < ((brk (s.drop i):Nat):Int) by omega),
    show decide ((0:Int) < ((brk (s.drop (i+1)):Nat):Int))=decide (0 < brk (s.drop (i+1))) by congr 1;apply propext;omega]
   have hok:qiH p (z122 (s.getD i 0) (decide (0 < brk (s.drop (i+1)))))=true:=by
    unfold qiH okP at *
    rw[dT (by omega),dT (by omega),dT (by show (unitQ _ _).length≤_;omega)];rfl
   rw[hok,dT (show (0:Int)≤(i:Int) by omega)];exact ih.1
 termination_by d=>d
theorem qFz (s:LU) (hl:s.length≤1048576):okP (layS 0 s ([],(0,()))) (6*s.length):=by
 have:=(qks (fun _=>none) s hl s.length 0 (s.length+1) ([],(0,())) (by omega) (by omega) (by unfold okP;simp)).2;rwa[yw] at this
theorem qIO:∀ (s0:LU),(qBJ s0=true)→∃ n,qBT n s0=qwR (z62 s0):=fun s h=>⟨s.length+1,by
 have hl:=qd (l:=s) h;have hp:=qFz s hl;unfold qBT z62;refine(qks (qkd (s.length+1)) s hl s.length 0 (s.length+1) ([],(0,())) (by omega) (by omega) (by unfold okP;simp)).1.trans ?_;rw[yw];unfold qkd pDone;generalize layS 0 s ([],(0,()))=p at hp ⊢;rw[show qeG p true=true from dT (by unfold okP at hp;omega)];cases decide ((0:Int) < p.2.1) <;> rfl⟩
theorem qdD (s sep:LU):Lib.index s sep = -1∨0≤Lib.index s sep:=by
 rcases Lib.index_spec s sep with ⟨h1,_⟩ | ⟨i,h1,_⟩
 ·exact .inl h1
 ·right;omega
theorem qmx (ret:Int→OA) (sep:LU) (h2:2≤sep.length) (hs:sep.length≤1048576):∀ (f:Nat) (s:LU) (m n:Nat),s.length < f→f≤n→s.length≤1048576→m+s.length≤1048576 →
 qiL ret n s sep (m:Nat)=ret ((m+cntF sep f s:Nat):Int)
 | 0,s,m,n,h,_,_,_=>by omega
 | f+1,s,m,0,h,hn,_,_=>by omega
 | f+1,s,m,n+1,h,hn,hl,hm=>by
  show qgC _ _ n _ _ _=_;unfold qgC;have hok:qhq s sep=true:=by
   unfold qhq;rw[qu hl,qu hs,dT (by omega)];rfl
  rw[hok,show z143 s sep=Lib.index s sep from rfl];rw[show cntF sep (f+1) s=bif Lib.index s sep == -1 then 0 else cntF sep f (s.drop ((Lib.index s sep).toNat+sep.length))+1 from rfl];rcases qdD s sep with e | e
  ·rw[e];rfl
  ·have hr:=Lib.index_room s sep e;rw[show (Lib.index s sep == -1)=false by rw[yB];omega];rw[show wrap .i64 (Lib.index s sep+((sep.length:Nat):Int))=(((Lib.index s sep).toNat+sep.length:Nat):Int) by rw[IntWalk.i64_in _ (by omega)];omega];rw[tn,tn,List.take_length,qm (by omega),dT (by omega),dT (show (((Lib.index s sep).toNat+sep.length:Nat):Int)≤((s.length:Nat):Int) by omega),dT (Int.le_refl _)];simp only[Bool.and_self,yc,yd];rw[qmx ret sep h2 hs f (s.drop ((Lib.index s sep).toNat+sep.length)) (m+1) n (by rw[yK];omega) (by omega) (by rw[yK];omega) (by rw[yK];omega)];congr 1;omega
theorem qDA:∀ (s0:LU) (sep1:LU),(qeC s0 sep1=true)→∃ n,qqD n s0 sep1=qEt (z139 s0 sep1):=fun s sep h=>⟨s.length+1,by
 unfold qeC at h;simp only[yf,ym] at h;have hl:=qd h.1;have hs:=qd h.2.1
 by_cases h1:sep.length=1
 ·obtain⟨c,rfl⟩:=List.length_eq_one_iff.1 h1;rfl
 unfold qqD z139;rw[show (((sep.length:Nat):Int)==0)=false by rw[yB];omega,show (((sep.length:Nat):Int)==1)=false by rw[yB];omega,show (sep.length==1)=false by rw[yB];exact h1];have:=qmx qEt sep (by omega) hs (s.length+1) s 0 (s.length+1) (by omega) (by omega) hl (by omega);rw[yE] at this;exact this⟩
theorem qdf (l:LU) (i j:Nat):(l.drop i).getD j 0=l.getD (i+j) 0:=by
 simp[getD,List.getElem?_drop]
theorem qDB (hi:i < l.length):z145 l (i:Int) 61=z145 (l.drop i) 0 61:=by
 unfold z145;have e:(decide ((0:Int)≤(i:Int))&&decide ((i:Int)≤((l.length:Nat):Int) - 3))=(decide ((0:Int)≤0)&&decide ((0:Int)≤(((l.drop i).length:Nat):Int) - 3)):=by
  rw[yK,Bool.eq_iff_iff];simp only[yf,ym];omega
 rw[e];unfold qlp;rw[tn,show Int.toNat 0=0 from rfl,qdf,qdf,qdf];rfl
theorem qDC {i:Int} {c:UInt8} (h:(z145 l i c).2=true):0≤i∧i+3≤((l.length:Nat):Int):=by
 unfold z145 at h;cases hc:(decide (0≤i)&&decide (i≤((l.length:Nat):Int) - 3)) with
 | false=>rw[hc] at h;cases h
 | true =>
  simp only[yf,ym] at hc;omega
theorem qoX (h:0 < l.length):qaf l=z144 (l.getD (l.length - 1) 0) 2:=by
 unfold qaf;rw[List.getLast?_eq_getElem?];have:l[l.length - 1]? = some (l.getD (l.length - 1) 0):=by
  simp[getD,yO (show l.length - 1 < l.length by omega)]
 rw[this]
theorem qfM (x:UInt8) (r:LU):qdY (x :: r)=((z144 x 6)&&((bif (x==61) && !(r.isEmpty) then (z145 (x :: r) 0 61).2&&z146 (r.take 2) else true)&&qdY r)):=rfl
theorem qmy (ret:Bool→OA) (k0:LU→OA) (l:LU) (hl:l.length≤1048576):∀ (d i n:Nat),i+d=l.length→d < n →
 qsu ret k0 n l l ((l.length:Nat):Int) (i:Nat)=bif qdY (l.drop i) then k0 l else ret false
 | d,i,0,hi,hn=>by omega
 | 0,i,n+1,hi,hn=>by
  show qfI _ _ _ n _ _ _ _=_;unfold qfI;rw[dF (by omega),yd,yA (by omega)];rfl
 | d+1,i,n+1,hi,hn=>by
  have hlt:i < l.length:=by omega
  have ih:=qmy ret k0 l hl d (i+1) n (by omega) (by omega);show qfI _ _ _ n _ _ _ _=_;unfold qfI;rw[qDB hlt,tn,qm (by omega),ih,qV (d:=(0:UInt8)) hlt,qfM,show qiC l (i:Int) 61=true from qu hl,
   show wrap .i64 ((i:Int)+3)=((i+3:Nat):Int) by rw[IntWalk.i64_in _ (by omega)];omega,show wrap .i64 (((l.length:Nat):Int) - 1)=((l.length - 1:Nat):Int) by rw[IntWalk.i64_in _ (by omega)];omega,tn,tn,
   show drop (i+1) (take (i+3) l)=(l.drop (i+1)).take 2 by rw[List.drop_take,show i+3 - (i+1)=2 by omega],
   show qlq ((l.drop (i+1)).take 2)=true from qu (by rw[yz];omega)]
  simp (disch:=omega) only [dT,yc,yi];have hem:((i:Int)==((l.length - 1:Nat):Int))=(l.drop (i+1)).isEmpty:=by
   rw[Bool.eq_iff_iff,beq_iff_eq,List.isEmpty_iff,List.drop_eq_nil_iff];omega
  rw[hem];cases z144 (l.getD i 0) 6 with
  | false=>rfl
  | true =>
   by_cases h61:l.getD i 0=61
   ·rw[h61];cases hE:(l.drop (i+1)).isEmpty with
    | true=>rfl
    | false =>
     cases hT:(z145 (61 :: l.drop (i+1)) 0 61).2 with
     | false=>rfl
     | true =>
      have hr:=qDC hT;rw[yg,yK] at hr;rw[dT (show ((i+3:Nat):Int)≤((l.length:Nat):Int) by omega)];cases z146 ((l.drop (i+1)).take 2) <;> rfl
   ·have e1:(l.getD i 0==61)=false:=by simpa using h61
    have e2:(l.getD i 0 != 61)=true:=by simpa [bne] using h61
    rw[e1,e2];rfl
theorem qIP:∀ (l0:LU),(qwL l0=true)→∃ n,qCb n l0=qwM (z83 l0):=fun l h=>⟨l.length+1,by
 have hl:=qd (l:=l) h;unfold qCb z83;refine(qmy qwM (qhZ (l.length+1)) l hl l.length 0 (l.length+1) (by omega) (by omega)).trans ?_;rw[yw];cases qdY l with
 | false=>rfl
 | true =>
  show qhZ (l.length+1) l=_;unfold qhZ
  by_cases h0:l.length=0
  ·have:l=[]:=yF h0;subst this;rfl
  ·rw[show (((l.length:Nat):Int)==0)=false by rw[yB];omega,show wrap .i64 (((l.length:Nat):Int) - 1)=((l.length - 1:Nat):Int) by rw[IntWalk.i64_in _ (by omega)];omega,
    dT (by omega),dT (show ((l.length - 1:Nat):Int) < ((l.length:Nat):Int) by omega),tn,qoX (by omega)]
   rfl⟩
theorem cap2 (a b:UInt8):z146 [a,b]=(!(([97,98,99,100,101,102]:LU).contains a) && !(([97,98,99,100,101,102]:LU).contains b)):=by
 unfold z146 z200 z109;rw[show anyAt [97,98,99,100,101,102] [a,b] 0=bif ([97,98,99,100,101,102]:LU).contains a then 0 else bif ([97,98,99,100,101,102]:LU).contains b then 1 else -1 from rfl];cases ([97,98,99,100,101,102]:LU).contains a <;> cases ([97,98,99,100,101,102]:LU).contains b <;> rfl
theorem qoY:∀ l:List LU,(qar l).1=[]→(qar l).2=true
 | [],_=>rfl
 | [x],h=>by
  unfold qar at h ⊢;split at h
  ·rename_i e;rw[if_pos e]
  ·cases h
 | x :: y :: r,h=>by cases h
theorem qyi (s:LU):s≠[]→(z82 s [13,10]=(s,[],false)∧z102 s=([s],false)) ∨
 (∃ k:Nat,k+2≤s.length∧z82 s [13,10]=(s.take k,s.drop (k+2),true)∧z102 s=(s.take k :: (z102 (s.drop (k+2))).1,(z102 (s.drop (k+2))).2)):=fun hs=>by
 unfold z102;rcases qfL s with ⟨h1,h2,_⟩ | ⟨k,h1,h2,h3,_⟩
 ·left;refine⟨h1,?_⟩;rw[h2];unfold qar;rw[if_neg hs]
 ·right;refine⟨k,h1,h2,?_⟩;rw[h3];have:=qgH (s.drop (k+2)) [];cases hl:qM [] (s.drop (k+2)) with
  | nil=>exact absurd hl this
  | cons a b=>rfl
theorem qiY (x:LU) (L:List LU) (e:Bool) (h:L=[]→e=true):qoo (x :: L) e=bif decide (76 < x.length) then 12 else bif z83 x then qoo L e else 3:=by
 cases L with
 | nil=>rw[h rfl];rfl
 | cons y r=>rfl
theorem qmz (ret:Int→OA) (k0:OA) (hk:k0=ret 0):∀ (f:Nat) (s:LU) (n:Nat),s.length < f→f≤n→s.length≤1048576 →
 qoH ret k0 n s=ret (qoo (z102 s).1 (z102 s).2)
 | 0,s,n,h,_,_=>by omega
 | f+1,s,0,h,hn,_=>by omega
 | f+1,s,n+1,h,hn,hl=>by
  show qko _ _ _ n _=_;unfold qko qaV
  by_cases hs:s=[]
  ·subst hs;rw[hk];rfl
  ·have hp:0 < s.length:=List.length_pos_iff.2 hs;rw[dT (by omega),yc,show qip s [13,10]=true by unfold qip;rw[qu hl];rfl,y7,yc];rcases qyi s hs with ⟨h1,h2⟩ | ⟨k,h1,h2,h3⟩
   ·rw[h1,h2];show (bif decide ((76:Int) < ((s.length:Nat):Int)) then ret 12 else ret 4)=ret (bif decide (76 < s.length) then 12 else 4);rw[show decide ((76:Int) < ((s.length:Nat):Int))=decide (76 < s.length) by congr 1;apply propext;omega];cases decide (76 < s.length) <;> rfl
   ·rw[h2,h3];have hcc:=qiY (s.take k) (z102 (s.drop (k+2))).1 (z102 (s.drop (k+2))).2 (qoY _);have ih:=qmz ret k0 hk f (s.drop (k+2)) n (by rw[yK];omega) (by omega) (by rw[yK];omega);show (bif decide ((76:Int) < (((s.take k).length:Nat):Int)) then ret 12 else bif qwL (s.take k)&&true then (bif !(z83 (s.take k)) then ret 3 else qoH ret k0 n (s.drop (k+2))) else none)=ret (qoo (s.take k :: (z102 (s.drop (k+2))).1) (z102 (s.drop (k+2))).2);rw[hcc,ih,show decide ((76:Int) < (((s.take k).length:Nat):Int))=decide (76 < (s.take k).length) by congr 1;apply propext;omega,show qwL (s.take k)=true from qu (by rw[yz];omega)];cases decide (76 < (s.take k).length) <;> cases z83 (s.take k) <;> rfl
theorem qIQ:∀ (s0:LU),(qBK s0=true)→∃ n,qCc n s0=qEt (z38 s0):=fun s h=>⟨s.length+1,by
 unfold qCc z38;exact qmz qEt (qoI (s.length+1)) rfl (s.length+1) s (s.length+1) (by omega) (by omega) (qd (l:=s) h)⟩
theorem qDD:∀ (s0:LU) (cutset1:LU),(qiI s0 cutset1=true)→∃ n,qwU n s0 cutset1=qwR (z172 s0 cutset1):=fun s cs h=>⟨0,by
 unfold qiI at h;simp only[yf,ym] at h;obtain⟨h1,h2,h3,h4⟩:=h;cases s with
 | nil=>rfl
 | cons x r =>
  unfold qwU;have e1:((((x :: r).length:Nat):Int)==0)=false:=by simp;omega
  have e2:(cs==([]:LU))=false:=by cases cs <;> simp at h2 ⊢
  have e3:(((cs.length:Nat):Int)==1)=false:=by simp;omega
  rw[e1,e2,e3];have e4:qdK cs=true:=by unfold qdK;rw[h3,h4];rfl
  have e5:qlw (x :: r) (z167 cs).1=true:=h1;rw[e4,e5];simp only[yd,yi,yc];show qwR (z208 (x :: r) (z167 cs).1)=_;unfold z208 z172;rw[show (fun c=>z168 (z167 cs).1 c)=fun c=>cs.contains c from funext (qoL cs)]⟩
theorem qDE:∀ (s0:LU) (prefix1:LU),∃ n,qEv n s0 prefix1=qwM (z171 s0 prefix1):=fun s t=>⟨0,by
 unfold qEv z171
 by_cases hc:t.length≤s.length
 ·rw[tn,dT hc];simp (disch:=omega) only [dT,yc,yi];rfl
 ·rw[dF hc,dF (by omega)];rfl⟩
theorem qrc (p:UInt8→Bool) (l:LU):(dropR p l).length≤l.length:=by
 unfold dropR;rw[List.length_reverse];have:=(List.dropWhile_suffix p (l:=l.reverse)).sublist.length_le;simpa using this
theorem qkt:(fun c=>([32,9]:LU).contains c)=blank:=funext fun c=>by
 unfold blank;simp only[List.contains_cons,List.contains_nil,Bool.or_false]
theorem qsy (l:LU):z215 l [61]=qcO l:=by
 unfold z215 qcO;rcases List.eq_nil_or_concat l with rfl | ⟨t,x,rfl⟩
 ·rfl
 ·rw[List.concat_eq_append,dT (by simp),yc];have e:(t++[x]).length - ([61]:LU).length=t.length:=by simp
  rw[e,List.drop_left,List.getLast?_append];simp
theorem qrd (l:LU):(bareL l).length≤l.length:=by
 unfold bareL;have:=qrc blank l;cases qcO (dropR blank l)
 ·exact this
 ·show (dropR blank l).dropLast.length≤_;rw[List.length_dropLast];omega
theorem qDF:∀ (l0:LU),(qqm l0=true)→∃ n,qEz n l0=qor (z111 l0).1 (z111 l0).2:=fun l h=>⟨0,by
 have hl:=qd h;unfold qEz;have e1:qiI l [32,9]=true:=by unfold qiI;rw[show lenOk l=true from h];rfl
 have e2:z172 l [32,9]=dropR blank l:=by unfold z172;rw[qkt]
 have hd:=qrc blank l;have e3:qpZ (dropR blank l) [61]=true:=qu (by omega);rw[e1,e2,e3];simp only[yi,yc];have e4:z173 (dropR blank l) [61]=(z111 l):=by
  unfold z173 z111 bareL;rw[qsy];cases qcO (dropR blank l)
  ·rfl
  ·show ((dropR blank l).take ((dropR blank l).length - 1),true)=((dropR blank l).dropLast,true);rw[List.dropLast_eq_take]
 rw[e4]⟩
theorem qed (l:LU) (i k:Nat):(l.drop i).getD k 0=l.getD (i+k) 0:=by
 simp[getD,List.getElem?_drop]
theorem qyj (l:LU) (i:Nat):z145 l (i:Int) 61=z145 (l.drop i) 0 61:=by
 unfold z145
 by_cases h:i+3≤l.length
 ·have e1:decide ((i:Int)≤(l.length:Int) - 3)=true:=dT (by omega);have e2:decide ((0:Int)≤((l.drop i).length:Int) - 3)=true:=dT (by rw[yK];omega);rw[e1,e2,dT (show (0:Int)≤(i:Int) by omega),tn];simp only[yi,yc];show qlp l i 61=qlp (l.drop i) 0 61;unfold qlp;rw[qed,qed,qed];rfl
 ·have e1:decide ((i:Int)≤(l.length:Int) - 3)=false:=dF (by omega);have e2:decide ((0:Int)≤((l.drop i).length:Int) - 3)=false:=dF (by rw[yK];omega);rw[e1,e2];simp
theorem qDG (h:(z145 l (i:Int) 61).2=true):i+3≤l.length:=by
 unfold z145 at h
 by_cases hc:(i:Int)≤(l.length:Int) - 3
 ·omega
 ·rw[dF hc,Bool.and_false] at h;cases h
theorem qiZ:∀ (k:Nat) (l:LU),qz k l=qz 0 (l.drop k)
 | 0,l=>rfl
 | k+1,[]=>rfl
 | k+1,x :: r=>by rw[show qz (k+1) (x :: r)=qz k r from rfl,qiZ k r];rfl
theorem qyk (h:i < l.length):qz 0 (l.drop i)=bif (z145 l (i:Int) 61).2 then ((z145 l (i:Int) 61).1 :: (qz 0 (l.drop (i+3))).1,(qz 0 (l.drop (i+3))).2)
 else (l.getD i 0 :: (qz 0 (l.drop (i+1))).1,(qz 0 (l.drop (i+1))).2+(bif l.getD i 0==61 then 1 else 0)):=by
 have e:=qV (d:=(0:UInt8)) h;rw[qyj,e];show (bif (z145 (l.getD i 0 :: l.drop (i+1)) 0 61).2 then _ else _)=_;rw[qiZ 2,List.drop_drop,show i+1+2=i+3 by omega]
theorem qgI:∀ (k:Nat) (l:LU),(qz k l).1.length≤l.length∧(qz k l).2≤l.length
 | _,[]=>⟨yv _,yv _⟩
 | k+1,x :: r=>by
  have:=qgI k r;rw[show qz (k+1) (x :: r)=qz k r from rfl,yg];omega
 | 0,x :: r=>by
  have h1:=qgI 2 r;have h2:=qgI 0 r;show (bif (z145 (x :: r) 0 61).2 then _ else _:LU×Nat).1.length≤_∧(bif (z145 (x :: r) 0 61).2 then _ else _:LU×Nat).2≤_;cases (z145 (x :: r) 0 61).2
  ·simp only[yd,yg];cases (x==61) <;> simp only[yc,yd] <;> omega
  ·simp only[yc,yg];omega
theorem qNW (hl:l.length≤1048576) (i:Int) (c:UInt8):qiC l i c=true:=qu hl
theorem qeS (k0:LU→Int→OA) (l:LU) (hl:l.length≤1048576):∀ (d i n st:Nat) (out:LU),i+d=l.length→d < n→out.length+d≤room→st+d≤1048576 →
 qiJ k0 n l out (st:Int) (i:Int)=k0 (out++(qz 0 (l.drop i)).1) ((st+(qz 0 (l.drop i)).2:Nat):Int)
 | d,i,0,st,out,hi,hn,_,_=>by omega
 | 0,i,n+1,st,out,hi,hn,_,_=>by
  show qds _ _ n _ _ _ _=_;unfold qds qaP;rw[dF (by omega),yd,yA (by omega)];show k0 out st=k0 (out++[]) _;rw[yG];rfl
 | d+1,i,n+1,st,out,hi,hn,hb,hs=>by
  have hlt:i < l.length:=by omega
  show qds _ _ n _ _ _ _=_;unfold qds qaP;rw[qNW hl,qyk hlt,tn];cases ht:(z145 l (i:Int) 61).2 with
  | true =>
   have h3:=qDG ht;simp (disch:=(first | omega | (simp;omega))) only [dT,yc,yi];rw[show wrap .i64 ((i:Int)+3)=((i+3:Nat):Int) by rw[IntWalk.i64_in _ (by omega)];omega,
    qeS k0 l hl (d+1 - 3) (i+3) n st _ (by omega) (by omega) (by simp;omega) (by omega),yl]
   rfl
  | false =>
   simp (disch:=(first | omega | (simp;omega))) only [dT,yc,yd,yi];rw[qm (by omega),qm (by omega)];cases hq:l.getD i 0==61 with
   | true =>
    simp only[yc];rw[qeS k0 l hl d (i+1) n (st+1) _ (by omega) (by omega) (by simp;omega) (by omega),yl];congr 1;omega
   | false =>
    simp only[yd];rw[qeS k0 l hl d (i+1) n st _ (by omega) (by omega) (by simp;omega) (by omega),yl];rfl
 termination_by d=>d
theorem qDH:∀ (l0:LU),(qqn l0=true)→∃ n,qqv n l0=qxa (z112 l0).1 (z112 l0).2:=fun l h=>⟨l.length+1,by
 have hl:=qd h;unfold qqv;have:=qeS (qjZ (l.length+1)) l hl l.length 0 (l.length+1) 0 [] (by omega) (by omega) (by show 0+l.length≤room;unfold room;omega) (by omega);rw[show ((0:Nat):Int)=0 from rfl] at this;rw[this,yw,yE];rfl⟩
theorem qIR:∀ (l0:LU),(qBL l0=true)→∃ n,qLS n l0=qor (z53 l0).1 (z53 l0).2:=fun l h=>⟨0,by
 have hl:=qd h;unfold qLS;have hb:=qrd l;rw[show qqm l=true from h,show qqn (z111 l).1=true from qu (by show (bareL l).length≤_;omega)];rfl⟩
theorem qDI:∀ (s0:LU),∃ n,qEw n s0=qEt (z110 s0):=fun s=>⟨0,by
 unfold qEw z110;match s with
 | []=>rfl
 | [x]=>rfl
 | x :: y :: r =>
  have e:z171 (x :: y :: r) [13,10]=((x==13)&&(y==10)):=by
   unfold z171;rw[dT (by simp),yc];show ([x,y]==[13,10])=_;simp[List.cons_beq_cons]
  rw[e,dT (show (0:Int) < (((x :: y :: r).length:Nat):Int) by simp;omega)];show _=qEt ((bif (x==13)&&(y==10) then 2 else 1:Nat):Int);cases (x==13) <;> cases (y==10) <;> rfl⟩
theorem qoZ (c:UInt8):([13,10]:LU).contains c=isBrk c:=by
 unfold isBrk;simp only[List.contains_cons,List.contains_nil,Bool.or_false]
theorem qaY (s:LU):qx s++qT s=s:=List.takeWhile_append_dropWhile
theorem qmA:∀ (s:LU) (i:Int),anyAt [13,10] s i=bif (qT s).isEmpty then -1 else i+((qx s).length:Nat)
 | [],i=>rfl
 | x :: r,i=>by
  show (bif ([13,10]:LU).contains x then i else anyAt [13,10] r (i+1))=_;rw[qoZ];cases hb:isBrk x with
  | true =>
   have e1:qT (x :: r)=x :: r:=by unfold qT;rw[List.dropWhile_cons,hb];rfl
   have e2:qx (x :: r)=[]:=by unfold qx;rw[List.takeWhile_cons,hb];rfl
   rw[e1,e2];show i=i+0;omega
  | false =>
   have e1:qT (x :: r)=qT r:=by unfold qT;rw[List.dropWhile_cons,hb];rfl
   have e2:qx (x :: r)=x :: qx r:=by unfold qx;rw[List.takeWhile_cons,hb];rfl
   rw[e1,e2,yd,qmA r (i+1)];cases (qT r).isEmpty
   ·simp only[yd,yg];omega
   ·rfl
theorem qyl:∀ l:LU,brkA l≤l.length
 | []=>yv _
 | [x]=>yv _
 | x :: y :: r=>by
  show (bif (x==13)&&(y==10) then 2 else 1)≤_;simp only[yg];cases (x==13)&&(y==10) <;> simp
theorem qIS:∀ l:LU,l≠[]→0 < brkA l
 | [],h=>absurd rfl h
 | [x],_=>Nat.one_pos
 | x :: y :: r,_=>by
  show 0 < (bif (x==13)&&(y==10) then 2 else 1);cases (x==13)&&(y==10) <;> decide
theorem qgJ (s:LU):(qx s).length+(endOf s).length+(qbl s).length=s.length:=by
 have h:=congrArg List.length (qaY s);rw[yn] at h;unfold endOf qbl;rw[yz,yK];have:=qyl (qT s);omega
theorem qym (h:s≠[]):(qbl s).length < s.length:=by
 have hp:=qgJ s;cases hb:qT s with
 | nil =>
  have h1:=qaY s;rw[hb,yG] at h1;have:qbl s=[]:=by unfold qbl;rw[hb];rfl
  rw[this];cases s with
  | nil=>exact absurd rfl h
  | cons x r=>simp
 | cons x r =>
  have:=qIS (qT s) (by rw[hb];simp);have h2:=qyl (qT s);have h3:(endOf s).length=brkA (qT s):=by unfold endOf;rw[yz];omega
  omega
theorem anyOk (hl:s.length≤1048576):qdL s [13,10]=true:=by
 unfold qdL;rw[qu hl];rfl
theorem qDJ (s:LU):s.take (qx s).length=qx s:=by
 have:=congrArg (take (qx s).length) (qaY s);rw[List.take_left] at this;exact this.symm
theorem qDK (s:LU):s.drop (qx s).length=qT s:=by
 have:=congrArg (drop (qx s).length) (qaY s);rw[List.drop_left] at this;exact this.symm
theorem qja (V:Sigma Inv) (K:Den V.1→LU→OA):∀ (m:Nat) (x:Den V.1) (s:LU),s.length≤1048576→(qir (fun x a0 a1=>V.2.spec x [⟨(.sl .byte),a0⟩,⟨(.sl .byte),a1⟩]) m x s).1=true →
 qfX V K K m x s=K (qir (fun x a0 a1=>V.2.spec x [⟨(.sl .byte),a0⟩,⟨(.sl .byte),a1⟩]) m x s).2.1 (qir (fun x a0 a1=>V.2.spec x [⟨(.sl .byte),a0⟩,⟨(.sl .byte),a1⟩]) m x s).2.2
 | 0,x,s,_,h=>by cases h
 | m+1,x,s,hl,h=>by
  show qgz V K K (qfX V K K m) m x s=_;unfold qgz qbx qbw qbv qbu qaw qG qav qau;unfold qir at h ⊢
  by_cases hs:s=[]
  ·subst hs;rfl
  ·have e0:s.isEmpty=false:=by cases s with
    | nil=>exact absurd rfl hs
    | cons _ _=>rfl
   have hpos:0 < s.length:=List.length_pos_iff.2 hs;rw[e0,yd] at h;rw[e0,yd,dT (show (0:Int) < ((s.length:Nat):Int) by omega),yc,anyOk hl];simp only[yi,yc];have hp:=qgJ s;have hb:=qyl (qT s);have hlb:=congrArg List.length (qaY s);rw[yn] at hlb;have hrl:=qym hs;have fin:(bif (V.2.spec x [⟨(.sl .byte),qx s⟩,⟨(.sl .byte),endOf s⟩]).1 then (bif !(V.2.spec x [⟨(.sl .byte),qx s⟩,⟨(.sl .byte),endOf s⟩]).2.1 then K (V.2.spec x [⟨(.sl .byte),qx s⟩,⟨(.sl .byte),endOf s⟩]).2.2 s
    else qfX V K K m (V.2.spec x [⟨(.sl .byte),qx s⟩,⟨(.sl .byte),endOf s⟩]).2.2 (qbl s)) else none)=_:=(?_:_=K (bif (V.2.spec x [⟨(.sl .byte),qx s⟩,⟨(.sl .byte),endOf s⟩]).1 then
     bif (V.2.spec x [⟨(.sl .byte),qx s⟩,⟨(.sl .byte),endOf s⟩]).2.1 then qir (fun x a0 a1=>V.2.spec x [⟨(.sl .byte),a0⟩,⟨(.sl .byte),a1⟩]) m (V.2.spec x [⟨(.sl .byte),qx s⟩,⟨(.sl .byte),endOf s⟩]).2.2 (qbl s) else (true,(V.2.spec x [⟨(.sl .byte),qx s⟩,⟨(.sl .byte),endOf s⟩]).2.2,s)
     else (false,x,s)).2.1 (bif (V.2.spec x [⟨(.sl .byte),qx s⟩,⟨(.sl .byte),endOf s⟩]).1 then
     bif (V.2.spec x [⟨(.sl .byte),qx s⟩,⟨(.sl .byte),endOf s⟩]).2.1 then qir (fun x a0 a1=>V.2.spec x [⟨(.sl .byte),a0⟩,⟨(.sl .byte),a1⟩]) m (V.2.spec x [⟨(.sl .byte),qx s⟩,⟨(.sl .byte),endOf s⟩]).2.2 (qbl s) else (true,(V.2.spec x [⟨(.sl .byte),qx s⟩,⟨(.sl .byte),endOf s⟩]).2.2,s)
     else (false,x,s)).2.2)
   ·have eA:z109 s [13,10]=bif (qT s).isEmpty then (-1:Int) else (((qx s).length:Nat):Int):=by
     unfold z109;rw[qmA];cases (qT s).isEmpty
     ·simp only[yd];omega
     ·rfl
    rw[eA];cases hbe:(qT s).isEmpty with
    | true =>
     have hbn:qT s=[]:=List.isEmpty_iff.1 hbe;have hls:qx s=s:=by have:=qaY s;rw[hbn,yG] at this;exact this
     have eE:endOf s=[]:=by unfold endOf;rw[hbn];rfl
     have eR:qbl s=[]:=by unfold qbl;rw[hbn];rfl
     rw[eE,eR,hls] at fin;simp only[yc,tn,List.take_length,List.drop_length];rw[show z110 []=0 from rfl,Int.add_zero,wr (show -9223372036854775808≤((s.length:Nat):Int)∧((s.length:Nat):Int)≤9223372036854775807 by omega)];simp (disch:=omega) only [dT,yc,yd,yi,tn,List.take_length,List.drop_length];rw[hls,eE,eR];exact fin
    | false =>
     have eB:drop (qx s).length s=qT s:=qDK s;simp only[yd,tn,List.take_length];rw[dF (show ¬ (((qx s).length:Nat):Int) < 0 by omega),yd,eB,show z110 (qT s)=((brkA (qT s):Nat):Int) from rfl,
      show wrap .i64 ((((qx s).length:Nat):Int)+((brkA (qT s):Nat):Int))=(((qx s).length+brkA (qT s):Nat):Int) by rw[IntWalk.i64_in _ (by omega)];omega,tn]
     simp (disch:=omega) only [dT,yc,yd,yi];have eT:drop 0 (take (qx s).length s)=qx s:=qDJ s;have eE:drop (qx s).length (take ((qx s).length+brkA (qT s)) s)=endOf s:=by
      unfold endOf;rw[List.drop_take,eB,Nat.add_sub_cancel_left]
     have eR:drop ((qx s).length+brkA (qT s)) s=qbl s:=by
      unfold qbl;rw[← eB,List.drop_drop]
     rw[eT,eE,eR];exact fin
   ·cases h1:(V.2.spec x [⟨(.sl .byte),qx s⟩,⟨(.sl .byte),endOf s⟩]).1 with
    | false=>rw[h1] at h;cases h
    | true =>
     rw[h1] at h;simp only[yc] at h ⊢;cases h2:(V.2.spec x [⟨(.sl .byte),qx s⟩,⟨(.sl .byte),endOf s⟩]).2.1 with
     | false=>rfl
     | true =>
      rw[h2] at h;simp only[yc,Bool.not_true,yd] at h ⊢;exact qja V K m _ (qbl s) (by omega) h
theorem qDL (V:Sigma Inv):∀ (x0:Den V.1) (x1:LU),(z108 (fun x a0 a1=>V.2.spec x [⟨(.sl .byte),a0⟩,⟨(.sl .byte),a1⟩]) x0 x1).1=true→∃ n,qwQ V n x0 x1=qhE V (z108 (fun x a0 a1=>V.2.spec x [⟨(.sl .byte),a0⟩,⟨(.sl .byte),a1⟩]) x0 x1).2.1 (z108 (fun x a0 a1=>V.2.spec x [⟨(.sl .byte),a0⟩,⟨(.sl .byte),a1⟩]) x0 x1).2.2:=fun x s h=>⟨s.length+1,by
 unfold z108 at h ⊢;cases hl:lenOk s with
 | false=>rw[hl] at h;cases h
 | true =>
  rw[hl] at h;simp only[yc] at h ⊢;exact qja V (qhE V) (s.length+1) x s (qd hl) h⟩
theorem qjb:∀ (s cur:LU),qat false cur s=bif (qT s).isEmpty then [(cur++s,[])] else (cur++qx s,endOf s) :: qat false [] (qbl s)
 | [],cur=>by show [(cur,[])]=[(cur++[],[])];rw[yG]
 | x :: r,cur=>by
  show (bif isBrk x then (bif (x==13)&&(r.head? == some 10) then (cur,[13,10]) :: qat true [] r else (cur,[x]) :: qat false [] r) else qat false (cur++[x]) r)=_;cases hb:isBrk x with
  | true =>
   have e1:qT (x :: r)=x :: r:=by unfold qT;rw[List.dropWhile_cons,hb];rfl
   have e2:qx (x :: r)=[]:=by unfold qx;rw[List.takeWhile_cons,hb];rfl
   unfold endOf qbl;rw[e1,e2,yG];simp only[yc,List.isEmpty_cons,yd];cases r with
   | nil =>
    have:((x==13)&&(([]:LU).head? == some 10))=false:=by simp
    rw[this];rfl
   | cons y r' =>
    show (bif (x==13)&&(some y==some 10) then _ else _)=(cur,(x :: y :: r').take (bif (x==13)&&(y==10) then 2 else 1)) :: qat false [] ((x :: y :: r').drop (bif (x==13)&&(y==10) then 2 else 1));rw[show (some y==some (10:UInt8))=(y==10) from rfl];cases h1:x==13 with
    | false=>rfl
    | true =>
     cases h2:y==10 with
     | false=>rfl
     | true =>
      simp only[beq_iff_eq] at h1 h2;subst h1 h2;rfl
  | false =>
   have e1:qT (x :: r)=qT r:=by unfold qT;rw[List.dropWhile_cons,hb];rfl
   have e2:qx (x :: r)=x :: qx r:=by unfold qx;rw[List.takeWhile_cons,hb];rfl
   have e3:endOf (x :: r)=endOf r:=by unfold endOf;rw[e1]
   have e4:qbl (x :: r)=qbl r:=by unfold qbl;rw[e1]
   rw[yd,qjb r (cur++[x]),e1,e2,e3,e4];simp
theorem qgc (l:LU):(z53 l).1.length≤l.length:=yL (qgI 0 (bareL l)).1 (qrd l)
def readG (s:LU):LU:=(qat false [] s).flatMap qck
theorem qsz (h:qT s=[]):qx s=s∧endOf s=[]∧qbl s=[]:=by
 refine⟨?_,?_,?_⟩
 ·have:=qaY s;rw[h,yG] at this;exact this
 ·unfold endOf;rw[h];rfl
 ·unfold qbl;rw[h];rfl
theorem qmB (s:LU):readG s=qck (qx s,endOf s)++readG (qbl s):=by
 unfold readG;rw[qjb s []];cases hb:(qT s).isEmpty with
 | true =>
  obtain⟨h1,h2,h3⟩:=qsz (List.isEmpty_iff.1 hb);rw[h1,h2,h3];show [(s,[])].flatMap qck=qck (s,[])++[([],[])].flatMap qck;simp only[List.flatMap_cons,List.flatMap_nil];rfl
 | false=>rfl
theorem qmC (l e:LU):(qck (l,e)).length≤l.length+e.length:=by
 unfold qck;rw[yn];have:=qgc l;cases (z53 l).2
 ·simp only[yd];omega
 ·simp only[yc,List.length_nil];omega
theorem qre:∀ (n:Nat) (s:LU),s.length≤n→(readG s).length≤s.length
 | n,[],_=>yv _
 | 0,x :: r,h=>by simp at h
 | n+1,x :: r,h=>by
  have hr:=qym (s:=x :: r) (by simp);have hp:=qgJ (x :: r);have ih:=qre n (qbl (x :: r)) (by omega);rw[qmB,yn];have:=qmC (qx (x :: r)) (endOf (x :: r));omega
theorem qyn (n:Nat) (out l e:LU) (hl:l.length≤1048576) (hr:out.length+l.length+e.length≤room) :
 qos n (false,(out,())) l e=(true,true,(false,(out++qck (l,e),()))):=by
 unfold qos;have h1:=qgc l;have ok:qBL l=true:=qu hl;simp only[yd];rw[ok];simp (disch:=omega) only [yi,yc,dT];unfold qck;cases (z53 l).2 with
 | true =>
  simp only[Bool.not_true,yd,yc,yG];rw[qgr];rfl
 | false =>
  simp only[Bool.not_false,yc,yd];rw[dT (by rw[yn];omega),yc,qgr,yl];rfl
theorem qyo (k:Nat):∀ (m:Nat) (s out:LU),s.length < m→s.length≤1048576→out.length+s.length≤room→qir (qos k) m (false,(out,())) s=(true,(false,(out++readG s,())),[])
 | 0,s,out,h,_,_=>by omega
 | m+1,[],out,_,_,_=>by
  show (true,(false,(out,())),[])=_;rw[show readG []=[] from rfl,yG]
 | m+1,x :: r,out,h,hl,hr=>by
  have hlt:=qym (s:=x :: r) (by simp);have hp:=qgJ (x :: r);have hrd:=qmC (qx (x :: r)) (endOf (x :: r));unfold qir;rw[show (x :: r).isEmpty=false from rfl,yd,qyn k out _ _ (by omega) (by omega)];simp only[yc];rw[qyo k m (qbl (x :: r)) _ (by omega) (by omega) (by rw[yn];omega),qmB (x :: r),yl]
theorem qIT:∀ (s0:LU),(qBM s0=true)→∃ n,qHZ n s0=qwR (z27 s0):=fun s h=>⟨0,by
 have hl:=qd h;unfold qHZ;have e:z108 (qos 0) (false,(([]:LU),())) s=(true,(false,(readG s,())),[]):=by
  unfold z108;rw[show lenOk s=true from h,yc,qyo 0 (s.length+1) s [] (by omega) hl (by show 0+s.length≤room;unfold room;omega)];rfl
 rw[e];rfl⟩
theorem qFA (s:LU):(z27 s).length≤s.length:=qre s.length s (yv _)
end
end Go.Av
