import Derived.Test.YtmdadpepccbpcaaGreatDoorPoT
namespace Go.Av
set_option linter.unusedSimpArgs false
set_option linter.unusedVariables false
section
open List (length)
open Int (toNat)
open UInt8 (ofNat)
open IntKind (wrap)
theorem qGR:∀ (c0:UInt8),∃ n,qRg n c0=qje (z175 c0).1 (z175 c0).2:=fun c=>⟨0,by
 show qje (bif decide (Lib.indexByte b64D c < 0) then 0 else Lib.indexByte b64D c) (decide (0≤Lib.indexByte b64D c))=_;unfold z175
 by_cases h:Lib.indexByte b64D c < 0
 ·rw[dT h,dF (by omega)];rfl
 ·rw[dF h,dT (by omega)];rfl⟩
theorem u8_of (k:Nat):ofNat (toNat (wrap .u8 (k:Int)))=ofNat k:=by
 have:wrap .u8 (k:Int)=((k % 256:Nat):Int):=by
  rw[IntKind.wrap_u8];omega
 rw[this,Int.toNat_natCast];apply UInt8.toNat_inj.1;show (k % 256) % 256=k % 256;omega
def decT {R:Type} (K:LU→Int→Int→R) (N:R) (out:LU) (held many v:Int):R :=
 bif (decide ((8:Int)≤(wrap .i64 (many+(6:Int))))) then
  bif (decide ((0:Int)≤(wrap .i64 ((wrap .i64 (many+(6:Int))) - (8:Int))))) then
   bif (decide (length out+length ([(ofNat (toNat (wrap .u8 (Int.fdiv (bits .or .i64 (wrap .i64 (held*2 ^ (min (toNat (6:Int)) (IntKind.bits .i64)))) v) (2 ^ (min (toNat (wrap .i64 ((wrap .i64 (many+(6:Int))) - (8:Int)))) (IntKind.bits .i64)))))))]:LU)≤room)) then
    bif (decide ((0:Int)≤(wrap .i64 ((wrap .i64 (many+(6:Int))) - (8:Int))))) then
     K (out++([(ofNat (toNat (wrap .u8 (Int.fdiv (bits .or .i64 (wrap .i64 (held*2 ^ (min (toNat (6:Int)) (IntKind.bits .i64)))) v) (2 ^ (min (toNat (wrap .i64 ((wrap .i64 (many+(6:Int))) - (8:Int)))) (IntKind.bits .i64)))))))]:LU)) (bits .and .i64 (bits .or .i64 (wrap .i64 (held*2 ^ (min (toNat (6:Int)) (IntKind.bits .i64)))) v) (wrap .i64 ((wrap .i64 ((1:Int)*2 ^ (min (toNat (wrap .i64 ((wrap .i64 (many+(6:Int))) - (8:Int)))) (IntKind.bits .i64)))) - (1:Int)))) (wrap .i64 ((wrap .i64 (many+(6:Int))) - (8:Int)))
    else N
   else N
  else N
 else
  K out (bits .or .i64 (wrap .i64 (held*2 ^ (min (toNat (6:Int)) (IntKind.bits .i64)))) v) (wrap .i64 (many+(6:Int)))
theorem held6 (h n:Nat) (hh:h < 64) (hn:n < 64):bits .or .i64 (wrap .i64 ((h:Int)*2 ^ (min (toNat (6:Int)) (IntKind.bits .i64)))) (n:Int)=((h*64+n:Nat):Int):=by
 have e:wrap .i64 ((h:Int)*2 ^ (min (toNat (6:Int)) (IntKind.bits .i64)))=((h*2 ^ 6:Nat):Int):=by
  show wrap .i64 ((h:Int)*64)=_;rw[IntWalk.i64_in _ (by omega)];omega
 rw[e,qRH h n 6 (by omega) (by omega)]
theorem qIQ {R:Type} (K:LU→Int→Int→R) (N:R) (out:LU) (h m n:Nat) (hm:m=0∨m=2∨m=4∨m=6) (hh:h < 2 ^ m) (hn:n < 64) (ho:out.length+1≤room) :
 decT K N out (h:Int) (m:Int) (n:Int)=K (out++decO m h n) (decH m h n:Nat) (decM m:Nat):=by
 have hh6:h < 64:=by rcases hm with rfl | rfl | rfl | rfl <;> omega
 unfold decT;rw[held6 h n hh6 hn];rcases hm with rfl | rfl | rfl | rfl
 ·obtain rfl:h=0:=by omega
  rw[show decide ((8:Int)≤wrap .i64 (((0:Nat):Int)+6))=false from rfl,yd,Nat.zero_mul,yE];show K out _ 6=K (out++[]) _ 6;rw[yG];rfl
 ·rw[show decide ((8:Int)≤wrap .i64 (((2:Nat):Int)+6))=true from rfl,yc,show wrap .i64 (wrap .i64 (((2:Nat):Int)+6) - 8)=((0:Nat):Int) from rfl,dT (by omega),yc,yc];have e1:Int.fdiv ((h*64+n:Nat):Int) (2 ^ (min (toNat ((0:Nat):Int)) (IntKind.bits .i64)))=(((h*64+n) / 2 ^ 0:Nat):Int):=fdivN _ 1;have e2:wrap .i64 (wrap .i64 ((1:Int)*2 ^ (min (toNat ((0:Nat):Int)) (IntKind.bits .i64))) - 1)=((2 ^ 0 - 1:Nat):Int):=rfl;rw[e1,e2,u8_of,qkE _ 0 (by omega) (by decide),dT (show out.length+[_].length≤room from ho),yc];rfl
 ·rw[show decide ((8:Int)≤wrap .i64 (((4:Nat):Int)+6))=true from rfl,yc,show wrap .i64 (wrap .i64 (((4:Nat):Int)+6) - 8)=((2:Nat):Int) from rfl,dT (by omega),yc,yc];have e1:Int.fdiv ((h*64+n:Nat):Int) (2 ^ (min (toNat ((2:Nat):Int)) (IntKind.bits .i64)))=(((h*64+n) / 2 ^ 2:Nat):Int):=fdivN _ 4;have e2:wrap .i64 (wrap .i64 ((1:Int)*2 ^ (min (toNat ((2:Nat):Int)) (IntKind.bits .i64))) - 1)=((2 ^ 2 - 1:Nat):Int):=rfl;rw[e1,e2,u8_of,qkE _ 2 (by omega) (by decide),dT (show out.length+[_].length≤room from ho),yc];rfl
 ·rw[show decide ((8:Int)≤wrap .i64 (((6:Nat):Int)+6))=true from rfl,yc,show wrap .i64 (wrap .i64 (((6:Nat):Int)+6) - 8)=((4:Nat):Int) from rfl,dT (by omega),yc,yc];have e1:Int.fdiv ((h*64+n:Nat):Int) (2 ^ (min (toNat ((4:Nat):Int)) (IntKind.bits .i64)))=(((h*64+n) / 2 ^ 4:Nat):Int):=fdivN _ 16;have e2:wrap .i64 (wrap .i64 ((1:Int)*2 ^ (min (toNat ((4:Nat):Int)) (IntKind.bits .i64))) - 1)=((2 ^ 4 - 1:Nat):Int):=rfl;rw[e1,e2,u8_of,qkE _ 4 (by omega) (by decide),dT (show out.length+[_].length≤room from ho),yc];rfl
theorem qBh (m h n:Nat):(decO m h n).length≤1:=by
 unfold decO;cases m==0
 ·exact yv 1
 ·exact Nat.zero_le 1
theorem qoy (j:Nat) (s t:LU) (hl:t.length≤1048576):∀ (d i n:Nat) (out:LU) (h m:Nat),i+d=t.length→d < n→DecSt (t.take i) out m h→out.length≤i →
 qfL qAa (qcX j) n s out (h:Int) (m:Int) t (t.length:Nat) (i:Nat) =
  bif (t.drop i).all isB64 then (bif ((Int.tmod ((length s:Nat):Int) (4:Int)) != (0:Int)) then qAa [] 4 else bif !(z88 (bitsB t)).2 then qAa [] 3 else qAa (z88 (bitsB t)).1 0) else qAa [] 3
 | d,i,0,out,h,m,hi,hn,_,_=>by omega
 | 0,i,n+1,out,h,m,hi,hn,e,ho=>by
  obtain rfl:i=t.length:=by omega
  show qdY _ _ _ n _ _ _ _ _ _ _=_;unfold qdY qak qbi;rw[dF (by omega),yd,List.drop_length];rw[List.take_length] at e;obtain⟨e1,e2,e3⟩:=e.octets;rw[e1,e3,qug m h e.cases e.lt];unfold qcX;show _=(bif ((Int.tmod ((length s:Nat):Int) (4:Int)) != (0:Int)) then _ else _);cases ((Int.tmod ((length s:Nat):Int) (4:Int)) != (0:Int))
  ·rw[yd,yd];rfl
  ·rfl
 | d+1,i,n+1,out,h,m,hi,hn,e,ho=>by
  show qdY _ _ _ n _ _ _ _ _ _ _=_;unfold qdY qak qbi;have hlt:i < t.length:=by omega
  rw[qaS hlt,List.all_cons];simp (disch:=omega) only [dT,yc,yi,tn];unfold isB64;cases hv:(z175 (t.getD i 0)).2 with
  | false=>rfl
  | true =>
   obtain⟨v,hv1,hv2⟩:=qBb (t.getD i 0);rw[Bool.not_true,yd,y6,hv1,qj (by omega)];have hs:=qIQ (fun o h m=>qfL qAa (qcX j) n s o h m t (t.length:Nat) ((i+1:Nat):Int)) none out h m v e.cases e.lt hv2 (by unfold room;omega);refine(show _=decT (fun o h m=>qfL qAa (qcX j) n s o h m t (t.length:Nat) ((i+1:Nat):Int)) none out h m v from rfl).trans (hs.trans ?_);have e2:=e.step (t.getD i 0) v hv1 hv2;rw[qtr hlt] at e2;have hd:=qBh m h v;exact qoy j s t hl d (i+1) n _ _ _ (by omega) (by omega) e2 (by rw[yn];omega)
theorem qGS:∀ (s0:LU),(qrS s0=true)→∃ n,qta n s0=qAa (z148 s0).1 (z148 s0).2:=fun s h=>⟨s.length+1,by
 have hl:=qd h;have hb:=qBc s;unfold qta;rw[show qrR s=true from h,yi,yc];have:=qoy (s.length+1) s (bodyB s) (by omega) (bodyB s).length 0 (s.length+1) [] 0 0 (by omega) (by omega) DecSt.nil (yv 0);refine(show _=qfL qAa (qcX (s.length+1)) (s.length+1) s [] ((0:Nat):Int) ((0:Nat):Int) (bodyB s) ((bodyB s).length:Nat) ((0:Nat):Int) from rfl).trans (this.trans ?_);rw[yw,tmod4];unfold z148;cases (bodyB s).all isB64
 ·rfl
 ·cases (s.length % 4 != 0)
  ·cases (z88 (bitsB (bodyB s))).2 <;> rfl
  ·rfl⟩
theorem qGT:∀ (s0:LU) (suffix1:LU),(qiL s0 suffix1=true)→∃ n,qIq n s0 suffix1=qzR (z231 s0 suffix1):=fun s t h=>⟨0,by
 have hl:=qd h;unfold qIq z231;rw[show qkj s t=true from h,yi,yc];cases hs:z215 s t with
 | false=>rfl
 | true =>
  have hle:t.length≤s.length:=by
   unfold z215 at hs
   by_cases h:t.length≤s.length
   ·exact h
   ·rw[yx h] at hs;cases hs
  rw[yc,yc,show wrap .i64 (((s.length:Nat):Int) - ((t.length:Nat):Int))=((s.length - t.length:Nat):Int) by rw[IntWalk.i64_in _ (by omega)];omega];simp (disch:=omega) only [dT,yc,yi,tn];rfl⟩
theorem qmi (s:LU):z231 s [61]=bif s.getLast? == some 61 then s.dropLast else s:=by
 unfold z231 z215;match s with
 | []=>rfl
 | x :: r =>
  have hle:([61]:LU).length≤(x :: r).length:=by simp
  have hx:(x :: r)=(x :: r).dropLast++[(x :: r).getLast (by simp)]:=(List.dropLast_concat_getLast (by simp)).symm;generalize (x :: r).getLast (by simp)=y at hx;generalize (x :: r).dropLast=d at hx;rw[hx];have h1:(d++[y]).length - ([61]:LU).length=d.length:=by simp
  rw[h1,List.drop_left,List.take_left,yo (by simp),yc];have h2:(d++[y]).getLast? = some y:=by simp
  have h3:(d++[y]).dropLast=d:=by simp
  rw[h2]
  by_cases hy:y=61
  ·subst hy;rfl
  ·have e1:(([y]:LU)==[61])=false:=by simpa using hy
   have e2:((some y:Option UInt8)==some 61)=false:=by simpa using hy
   rw[e1,e2]
theorem qGU:∀ (s0:LU),(qrR s0=true)→∃ n,qsZ n s0=qzR (z201 s0):=fun s h=>⟨3,by
 have h2:qiL (z231 s [61]) [61]=true:=by
  have hl:=qd h;refine qn ?_;rw[qmi];cases s.getLast? == some 61
  ·exact hl
  ·rw[yc,List.length_dropLast];omega
 have e:qsZ 3 s=bif qiL s [61]&&true then (bif qiL (z231 s [61]) [61]&&true then qzR (z231 (z231 s [61]) [61]) else none) else none:=rfl
 rw[e,h2,show qiL s [61]=true from h,yi,yc,yc];congr 1;rw[qmi (z231 s [61]),qmi s];show _=bodyB s;unfold bodyB;cases hg:s.getLast? == some 61 with
 | false =>
  simp only[yd];rw[hg];rfl
 | true =>
  simp only[yc];have hne:s≠[]:=by rintro rfl;cases hg
  have hlen:(s.dropLast.length != s.length)=true:=by
   have:=List.length_pos_iff.2 hne;rw[bne_iff_ne,List.length_dropLast];omega
  rw[hlen,yi]⟩
theorem qBi {σ:Type} (sp:Bool×Bool×σ) (x:σ) (R N:σ→OA) (E:σ→Bool×σ) (hN:∀ y,(E y).1=true→N y=R (E y).2) (h:(bif sp.1 then bif sp.2.1 then E sp.2.2 else (true,sp.2.2) else (false,x)).1=true) :
 (bif sp.1 then bif (!sp.2.1) then R sp.2.2 else N sp.2.2 else none)=R (bif sp.1 then bif sp.2.1 then E sp.2.2 else (true,sp.2.2) else (false,x)).2:=by
 obtain⟨a,b,y⟩:=sp;cases a with
 | false=>cases h
 | true =>
  cases b with
  | false=>rfl
  | true=>exact hN y h
theorem qty (V:Sigma Inv) (j:Nat) (s s29:LU) (hl:s.length≤1048576):∀ (d i n:Nat) (x:Den V.1),i+d=s.length→d < n→(eachB (fun x a0 a1=>V.2.spec x [⟨.byte,a0⟩,⟨(.int .i64),a1⟩]) x (s.drop i)).1=true →
 qhm V (qjc V) (qfE V j) n s (s.length:Nat) (i:Nat) x s29=qjc V (eachB (fun x a0 a1=>V.2.spec x [⟨.byte,a0⟩,⟨(.int .i64),a1⟩]) x (s.drop i)).2 s29
 | d,i,0,x,hi,hn,_=>by omega
 | 0,i,n+1,x,hi,hn,h=>by
  obtain rfl:i=s.length:=by omega
  show qdW V _ _ _ n _ _ _ _ _=_;unfold qdW qA;rw[dF (by omega),yd,List.drop_length];rfl
 | d+1,i,n+1,x,hi,hn,h=>by
  show qdW V _ _ (qhm V (qjc V) (qfE V j) n) n _ _ _ _ _=_;unfold qdW qA;have hlt:i < s.length:=by omega
  have e:eachB (fun x a0 a1=>V.2.spec x [⟨.byte,a0⟩,⟨(.int .i64),a1⟩]) x (s.drop i)=bif s.getD i 0==61 then (true,x) else
   bif (V.2.spec x [⟨.byte,s.getD i 0⟩,⟨(.int .i64),(bif (z175 (s.getD i 0)).2 then (z175 (s.getD i 0)).1 else -1)⟩]).1 then
    bif (V.2.spec x [⟨.byte,s.getD i 0⟩,⟨(.int .i64),(bif (z175 (s.getD i 0)).2 then (z175 (s.getD i 0)).1 else -1)⟩]).2.1 then
     eachB (fun x a0 a1=>V.2.spec x [⟨.byte,a0⟩,⟨(.int .i64),a1⟩]) (V.2.spec x [⟨.byte,s.getD i 0⟩,⟨(.int .i64),(bif (z175 (s.getD i 0)).2 then (z175 (s.getD i 0)).1 else -1)⟩]).2.2 (s.drop (i+1))
    else (true,(V.2.spec x [⟨.byte,s.getD i 0⟩,⟨(.int .i64),(bif (z175 (s.getD i 0)).2 then (z175 (s.getD i 0)).1 else -1)⟩]).2.2)
   else (false,x):=by
   rw[qaS hlt];rfl
  rw[e] at h ⊢;simp (disch:=omega) only [dT,yc,yi,tn];cases h61:s.getD i 0==61 with
  | true=>rfl
  | false =>
   rw[h61] at h;rw[yd] at h ⊢;rw[yd];have hN:∀ y,(eachB (fun x a0 a1=>V.2.spec x [⟨.byte,a0⟩,⟨(.int .i64),a1⟩]) y (s.drop (i+1))).1=true→qhm V (qjc V) (qfE V j) n s (s.length:Nat) (wrap .i64 (((i:Nat):Int)+1)) y s29=qjc V (eachB (fun x a0 a1=>V.2.spec x [⟨.byte,a0⟩,⟨(.int .i64),a1⟩]) y (s.drop (i+1))).2 s29:=fun y hy=>by
    rw[qj (by omega)];exact qty V j s s29 hl d (i+1) n y (by omega) (by omega) hy
   cases hv:(z175 (s.getD i 0)).2 with
   | true =>
    rw[hv] at h;exact qBi (V.2.spec x [⟨.byte,s.getD i 0⟩,⟨(.int .i64),(z175 (s.getD i 0)).1⟩]) x (fun y=>qjc V y s29) _ _ hN h
   | false =>
    rw[hv] at h;exact qBi (V.2.spec x [⟨.byte,s.getD i 0⟩,⟨(.int .i64),-1⟩]) x (fun y=>qjc V y s29) _ _ hN h
theorem qGV (V:Sigma Inv):∀ (x0:Den V.1) (x1:LU),(z174 (fun x a0 a1=>V.2.spec x [⟨.byte,a0⟩,⟨(.int .i64),a1⟩]) x0 x1).1=true→∃ n,qsL V n x0 x1=qjc V (z174 (fun x a0 a1=>V.2.spec x [⟨.byte,a0⟩,⟨(.int .i64),a1⟩]) x0 x1).2.1 (z174 (fun x a0 a1=>V.2.spec x [⟨.byte,a0⟩,⟨(.int .i64),a1⟩]) x0 x1).2.2:=fun x s h=>⟨s.length+1,by
 unfold z174 at h ⊢;cases hk:lenOk s with
 | false=>rw[hk] at h;cases h
 | true =>
  rw[hk,yc] at h;rw[yc];unfold qsL;have:=qty V (s.length+1) s s (qd hk) s.length 0 (s.length+1) x (by omega) (by omega) (by rw[yw];exact h);rw[yw] at this;exact this⟩
theorem qMC (j:Nat) (c:UInt8) (out:LU) (h m:Int):qnS j (false,(out,(h,(m,())))) c (-1)=(true,true,(false,(out,(h,(m,()))))):=by
 unfold qnS;rw[show decide ((-1:Int) < 0)=true from rfl,yc];show (bif false then _ else yfin _ _ _)=_;rw[yd,qhJ];rfl
theorem qGW (j:Nat) (c:UInt8) (out:LU) (h m n:Nat) (hm:m=0∨m=2∨m=4∨m=6) (hh:h < 2 ^ m) (hn:n < 64) (ho:out.length+1≤room) :
 qnS j (false,(out,((h:Int),((m:Int),())))) c (n:Int)=(true,true,(false,(out++decO m h n,(((decH m h n:Nat):Int),(((decM m:Nat):Int),()))))):=by
 unfold qnS;rw[dF (show ¬ (n:Int) < 0 by omega),yd];have hs:=qIQ (fun o (h m:Int)=>(some (.dat (.pair .bool (.pair (.sl .byte) (.pair (.int .i64) (.pair (.int .i64) .unit)))) (false,(o,(h,(m,())))) none):OA)) none out h m n hm hh hn ho;refine(show _=yfin (.pair (.sl .byte) (.pair (.int .i64) (.pair (.int .i64) .unit))) (false,(out,((h:Int),((m:Int),())))) (decT (fun o (h m:Int)=>(some (.dat (.pair .bool (.pair (.sl .byte) (.pair (.int .i64) (.pair (.int .i64) .unit)))) (false,(o,(h,(m,())))) none):OA)) none out h m n) from rfl).trans ?_;rw[hs,qhJ];rfl
theorem qjG (j:Nat):∀ (s t out:LU) (h m:Nat),DecSt t out m h→out.length+s.length≤1048576 →
 ∃ (out':LU) (h' m':Nat),eachB (qnS j) (false,(out,((h:Int),((m:Int),())))) s=(true,(false,(out',((h':Int),((m':Int),())))))∧DecSt (t++digB s) out' m' h'
 | [],t,out,h,m,e,_=>⟨out,h,m,rfl,by rw[show digB []=[] from rfl,yG];exact e⟩
 | c :: r,t,out,h,m,e,hl=>by
  rw[qts];simp only[yg] at hl;cases h61:c==61 with
  | true =>
   refine⟨out,h,m,?_,by rw[yc,yG];exact e⟩;show (bif c==61 then _ else _)=_;rw[h61];rfl
  | false =>
   rw[yd];cases hv:(z175 c).2 with
   | false =>
    rw[show isB64 c=false from hv,yd];obtain⟨out',h',m',k1,k2⟩:=qjG j r t out h m e (by omega);refine⟨out',h',m',?_,k2⟩;unfold eachB;rw[h61,yd,hv,yd,qMC,← k1];rfl
   | true =>
    obtain⟨v,hv1,hv2⟩:=qBb c;rw[show isB64 c=true from hv,yc];have hd:=qBh m h v;obtain⟨out',h',m',k1,k2⟩:=qjG j r (t++[c]) (out++decO m h v) (decH m h v) (decM m) (e.step c v hv1 hv2) (by rw[yn];omega);refine⟨out',h',m',?_,by rw[yl] at k2;exact k2⟩;unfold eachB;rw[h61,yd,hv,yc,hv1,qGW j c out h m v e.cases e.lt hv2 (by unfold room;omega),← k1];rfl
theorem qMD:∀ (s0:LU),(qCy s0=true)→∃ n,qLC n s0=qAa (z54 s0).1 (z54 s0).2:=fun s h=>⟨0,by
 have hl:=qd h;obtain⟨out,hh,m,k1,k2⟩:=qjG 0 s [] [] 0 0 DecSt.nil (by simpa using hl);have k3:=k2.octets;rw[List.nil_append] at k3;have e:z174 (qnS 0) (false,(([]:LU),((0:Int),((0:Int),())))) s=(true,(false,(out,((hh:Int),((m:Int),())))),s):=by
  unfold z174;rw[show lenOk s=true from h,yc];have k1':eachB (qnS 0) (false,(([]:LU),((0:Int),((0:Int),())))) s=(true,(false,(out,((hh:Int),((m:Int),()))))):=k1;rw[k1']
 unfold qLC qhT qfF;rw[e];simp only[yc,yd,qBI];unfold z54;rw[k3.1,k3.2.1]⟩
theorem qME:∀ (s0:LU),(qCz s0=true)→∃ n,qRi n s0=qzR (z28 s0):=fun s h=>⟨0,by
 unfold qRi;rw[show qCy s=true from h];rfl⟩
theorem qtz {α:Type} (pre:List α) (c d:α):List.getD (pre++[c]) pre.length d=c:=by simp
theorem qMF {α:Type} (pre:List α) (c y:α):List.set (pre++[c]) pre.length y=pre++[y]:=by
 rw[List.set_append_right _ _ (yv _),Nat.sub_self];rfl
theorem qfT (cur:LU):qaA cur []=[cur]:=rfl
theorem qen (cur:LU) (c:UInt8) (r:LU):qaA cur (c :: r)=if c=13∧r.head? = some 10 then cur :: qaA [] (r.drop 1) else qaA (cur++[c]) r:=by
 have h:lineB true [] r=qaA [] (r.drop 1):=by cases r <;> rfl
 unfold qaA;rw[show lineB false cur (c :: r)=if c=13∧r.head? = some 10 then cur :: lineB true [] r else lineB false (cur++[c]) r from rfl,h];rfl
theorem qmj {s:LU} {i:Nat}:(s.drop i).head? = some 10↔(i < s.length∧s.getD i 0=10):=by
 rw[List.head?_drop];constructor
 ·intro h;obtain⟨h1,h2⟩:=List.getElem?_eq_some_iff.1 h;exact⟨h1,by simp[List.getD,h1,h2]⟩
 ·intro ⟨h1,h2⟩;simp[List.getD,h1] at h2;rw[yO h1,h2]
theorem qBj (k0:List LU→OA) (s:LU) (hl:s.length≤1048576):∀ (d i n:Nat) (pre:List LU) (cur:LU),i+d=s.length→d < n→pre.length+d≤1048576→cur.length+d≤1048576 →
 qhq k0 n s (pre++[cur]) (i:Nat)=k0 (pre++qaA cur (s.drop i)):=by
 intro d;induction d using Nat.strongRecOn with
 | ind d ih =>
  intro i n pre cur hi hn hp hc;cases n with
  | zero=>omega
  | succ n =>
   show qhZ k0 (qhq k0 n) n _ _ _=_;unfold qhZ qda qcd qcZ qcY qaI qam
   by_cases hlt:i < s.length
   ·have hlen:(pre++[cur]).length=pre.length+1:=by simp
    have hw:wrap .i64 (((pre++[cur]).length:Int) - 1)=((pre.length:Nat):Int):=by rw[wr (by omega)];omega
    rw[qG (d:=(0:UInt8)) hlt,qen];have one:qhq k0 n s (pre++[cur++[s.getD i 0]]) ((i+1:Nat):Int)=k0 (pre++qaA (cur++[s.getD i 0]) (s.drop (i+1))):=ih (d - 1) (by omega) (i+1) n pre _ (by omega) (by omega) (by omega) (by simp;omega);have hr:decide ((cur.length:Nat)+([s.getD i 0]:LU).length≤room)=true:=dT (by unfold room;simp;omega);have h13:(s.getD i 0==13)=decide (s.getD i 0=13):=rfl;rw[hw];simp (disch:=omega) only [dT,yc,yi,tn,qj,qtz,qMF,hr,h13,beq_self_eq_true]
    by_cases h1:s.getD i 0=13
    ·rw[yo h1,yc]
     by_cases h2:i+1 < s.length
     ·simp (disch:=omega) only [dT,yc,yi,tn,qj]
      by_cases h3:s.getD (i+1) 0=10
      ·rw[show (s.getD (i+1) 0==10)=true from beq_iff_eq.2 h3,yc,if_pos ⟨h1,qmj.2 ⟨h2,h3⟩⟩,dT (show (pre++[cur]).length+([[]]:List LU).length≤room by unfold room;simp;omega),yc,List.drop_drop];have:=ih (d - 2) (by omega) (i+2) n (pre++[cur]) [] (by omega) (by omega) (by simp;omega) (by simp;omega);refine Eq.trans this ?_;rw[yl,List.singleton_append]
      ·rw[show (s.getD (i+1) 0==10)=false from beq_eq_false_iff_ne.2 h3,yd,if_neg (fun h=>h3 (qmj.1 h.2).2)];exact one
     ·rw[dF (by omega),yd,if_neg (fun h=>h2 (qmj.1 h.2).1)];exact one
    ·rw[yx h1,yd,if_neg (fun h=>h1 h.1)];exact one
   ·rw[dF (by omega),yd,yA (by omega)];rfl
theorem qid:∀ (s cur:LU),qaA cur s≠[]
 | [],cur=>by simp[qfT]
 | c :: r,cur=>by
  rw[qen];split
  ·simp
  ·exact qid r _
theorem qht:∀ (pre:List LU) (x:LU),qar (pre++[x])=if x=[] then (pre,true) else (pre++[x],false)
 | [],x=>by
  simp only[List.nil_append,qar]
 | a :: pre,x=>by
  have ih:=qht pre x;have:qar (a :: pre++[x])=(a :: (qar (pre++[x])).1,(qar (pre++[x])).2):=by
   cases pre with
   | nil=>rfl
   | cons b p=>rfl
  rw[this,ih];split <;> rfl
theorem qGX:∀ (s0:LU),(qkl s0=true)→∃ n,qtm n s0=qqU (z102 s0).1 (z102 s0).2:=fun s h=>⟨s.length+1,by
 have hl:=qd h;unfold qtm;refine(qBj (qia (s.length+1)) s hl s.length 0 (s.length+1) [] [] (by omega) (by omega) (by simp;omega) (by simp;omega)).trans ?_;rw[List.nil_append,yw];unfold z102;have hlen:(qaA [] s).length≤s.length+1:=by
  have:∀ (n:Nat) (s cur:LU),s.length≤n→(qaA cur s).length≤s.length+1:=by
   intro n;induction n with
   | zero=>intro s cur h0;cases s with
    | nil=>simp[qfT]
    | cons a b=>simp at h0
   | succ n ih =>
    intro s cur h0;cases s with
    | nil=>simp[qfT]
    | cons c r =>
     rw[qen];simp only[yg] at h0 ⊢;split
     ·have:=ih (r.drop 1) [] (by simp;omega);simp only[yg,yK] at this ⊢;omega
     ·have:=ih r (cur++[c]) (by omega);omega
  exact this s.length s [] (yv _)
 rcases List.eq_nil_or_concat (qaA [] s) with h0 | ⟨pre,x,h0⟩
 ·exact absurd h0 (qid s [])
 ·rw[List.concat_eq_append] at h0;rw[h0] at hlen ⊢;rw[qht];have hl2:(pre++[x]).length=pre.length+1:=by simp
  have hw:wrap .i64 (((pre++[x]).length:Int) - 1)=((pre.length:Nat):Int):=by rw[wr (by omega)];omega
  unfold qia qaJ;rw[hw];have ht:List.drop (toNat ((0:Nat):Int)) (List.take pre.length (pre++[x]))=pre:=by simp
  simp (disch:=omega) only [dT,yc,yi,tn,qtz,ht];cases x with
  | nil=>rw[if_pos rfl];simp
  | cons a b=>rw[if_neg (by simp),bneI (by simp only[yg];omega)];rfl⟩
theorem qMG:∀ (s0:LU),(qCD s0=true)→∃ n,qRB n s0=qIK (z76 s0):=fun s h=>⟨0,by
 unfold qRB;rw[show qkl s=true from h];rfl⟩
end
section
open List (getD drop take)
open Int (toNat)
open UInt8 (ofNat)
open IntKind (wrap)
variable {cs r l s:LU} {i:Nat} {x:UInt8}
theorem qGY:∀ (bufLen0:Int),∃ n,qQZ n bufLen0=qzM (z166 bufLen0):=fun _=>⟨0,rfl⟩
theorem qrb (c:Nat) (h:128≤c):2≤(Utf8.encode (c:Int)).size∧(c < 2048→(Utf8.encode (c:Int)).size≤2)∧(c < 65536→(Utf8.encode (c:Int)).size≤3)∧(Utf8.encode (c:Int)).size≤4:=by
 by_cases hv:Utf8.valid (c:Int)=true
 ·have hc:(c:Int).toNat=c:=by omega
  unfold Utf8.encode;simp only[hv,if_true,hc];rw[if_neg (by omega)];split
  ·refine⟨?_,?_,?_,?_⟩ <;> simp[ByteArray.size]
  ·split
   ·refine⟨?_,?_,?_,?_⟩ <;> simp[ByteArray.size] <;> omega
   ·refine⟨?_,?_,?_,?_⟩ <;> simp[ByteArray.size] <;> omega
 ·have hn:2048≤c:=by
   rcases Nat.lt_or_ge c 2048 with h2 | h2
   ·exact absurd (by unfold Utf8.valid;simp;omega) hv
   ·exact h2
  have hv':Utf8.valid (c:Int)=false:=by simpa using hv
  have he:Utf8.encode (c:Int)=⟨#[239,191,189]⟩:=by
   unfold Utf8.encode;simp only[hv',yq,if_false];decide
  rw[he];refine⟨?_,?_,?_,?_⟩ <;> simp[ByteArray.size] <;> omega
theorem qtA (c:Nat) (h:128≤c):∃ e r,(Utf8.encode (c:Int)).data.toList=e :: r∧128≤e.toNat:=by
 unfold Utf8.encode;generalize hg:(if Utf8.valid (c:Int)=true then (c:Int).toNat else Utf8.runeError)=x;have hx:128≤x∧x≤1114111:=by
  split at hg
  ·rename_i hv;unfold Utf8.valid at hv;simp only[yR,yf,ym] at hv;omega
  ·unfold Utf8.runeError at hg;omega
 simp only[if_neg (show ¬ x < 128 by omega)];split
 ·exact⟨_,_,rfl,by simp;omega⟩
 ·split
  ·exact⟨_,_,rfl,by simp;omega⟩
  ·exact⟨_,_,rfl,by simp;omega⟩
theorem qGZ (p:LU) (hp:0 < p.length) (h0:128≤(p.getD 0 0).toNat):128≤(Lib.decodeL p).1∧1≤(Lib.decodeL p).2∧(Lib.decodeL p).2≤p.length∧(∀ j,j < (Lib.decodeL p).2→128≤(p.getD j 0).toNat) ∧
 ((Lib.decodeL p).1≠65533→2≤(Utf8.encode ((Lib.decodeL p).1:Int)).size∧(Utf8.encode ((Lib.decodeL p).1:Int)).size≤(Lib.decodeL p).2):=by
 rw[Lib.decodeL_N];have b0:=qhs (p.getD 0 0);have b1:=qhs (p.getD 1 0);have b2:=qhs (p.getD 2 0);have b3:=qhs (p.getD 3 0);rcases Lib.decodeN_shape p.length (p.getD 0 0).toNat (p.getD 1 0).toNat (p.getD 2 0).toNat (p.getD 3 0).toNat with ⟨h,_⟩ | ⟨h1,h2,h3,h4,e⟩ | ⟨h1,h2,h3,h4,h5,_,e⟩ | ⟨h1,h2,h3,h4,h5,h6,h7,e⟩ | e
 ·omega
 ·rw[e];dsimp only;have hs:=qrb _ h4;refine⟨h4,by omega,by omega,fun j hj=>?_,fun _=>⟨hs.1,hs.2.1 (by omega)⟩⟩;match j,hj with
  | 0,_=>exact h0
  | 1,_=>omega
  | n+2,hj=>omega
 ·rw[e];dsimp only;have hs:=qrb (((p.getD 0 0).toNat % 16)*4096+(p.getD 1 0).toNat % 64*64+(p.getD 2 0).toNat % 64) (by omega);refine⟨by omega,by omega,by omega,fun j hj=>?_,fun _=>⟨hs.1,hs.2.2.1 (by omega)⟩⟩;match j,hj with
  | 0,_=>exact h0
  | 1,_=>omega
  | 2,_=>omega
  | n+3,hj=>omega
 ·rw[e];dsimp only;have hs:=qrb (((p.getD 0 0).toNat % 8)*262144+(p.getD 1 0).toNat % 64*4096+(p.getD 2 0).toNat % 64*64+(p.getD 3 0).toNat % 64) (by omega);refine⟨by omega,by omega,by omega,fun j hj=>?_,fun _=>⟨hs.1,hs.2.2.2⟩⟩;match j,hj with
  | 0,_=>exact h0
  | 1,_=>omega
  | 2,_=>omega
  | 3,_=>omega
  | n+4,hj=>omega
 ·rw[e];dsimp only;refine⟨by omega,by omega,by omega,fun j hj=>?_,fun h=>absurd rfl h⟩;match j,hj with
  | 0,_=>exact h0
  | n+1,hj=>omega
theorem qjH (ha:ascii cs=true) (hi:i < cs.length):(cs.getD i 0).toNat < 128:=by
 unfold ascii at ha;rw[List.all_eq_true] at ha;have:=ha (cs.getD i 0) (by simp[getD,hi]);simp only[ym] at this;exact this
theorem qtB (ha:ascii cs=true) (hx:128≤x.toNat):cs.contains x=false:=by
 cases h:cs.contains x with
 | false=>rfl
 | true =>
  unfold ascii at ha;rw[List.all_eq_true] at ha;have:=ha x (by simpa using h);simp only[ym] at this;have:x.toNat < 128:=this;omega
theorem qoz (ha:ascii cs=true) (hi:i < cs.length):decL cs i=(((cs.getD i 0).toNat:Int),1):=by
 unfold decL;rw[Lib.decode_N];rw[Lib.decodeN_ascii _ _ _ _ _ (by simpa using qjH ha hi)]
theorem qrc (ha:ascii cs=true) (c:Nat) (hc:128≤c):Lib.index cs (Utf8.encode (c:Int)).data.toList = -1:=by
 obtain⟨e,r,he,h1⟩:=qtA c hc;rw[he];refine Lib.index_none fun j _=>?_;unfold Lib.occAt;cases hd:cs.drop j with
 | nil=>rfl
 | cons x t =>
  have hj:j < cs.length:=by
   rcases Nat.lt_or_ge j cs.length with h | h
   ·exact h
   ·rw[yA h] at hd;cases hd
  have hx:x=cs.getD j 0:=by
   rw[qG (d:=0) hj] at hd;exact(List.cons.inj hd).1.symm
  have:=qjH ha hj;rw[← hx] at this;have hne:(e==x)=false:=by
   rw[yB];rintro rfl;omega
  simp[List.isPrefixOf,hne]
theorem qvf (ha:ascii cs=true) (hn:cs≠[]) (c:Nat) (hc:128≤c):(cs==(Utf8.encode (c:Int)).data.toList)=false:=by
 obtain⟨e,r,he,h1⟩:=qtA c hc;rw[he,yB];rintro rfl;have:=qjH ha (i:=0) (by simp);simp at this;omega
theorem qBk (cs:LU):∀ (w:Nat) (p:LU) (i:Int),w≤p.length→(∀ j,j < w→cs.contains (p.getD j 0)=false)→anyAt cs p i=anyAt cs (p.drop w) (i+w)
 | 0,p,i,_,_=>by simp
 | w+1,[],i,h,_=>by simp at h
 | w+1,x :: p,i,h,hc=>by
  have h0:=hc 0 (by omega);simp only[List.getD_cons_zero] at h0;have ih:=qBk cs w p (i+1) (by simpa using h) (fun j hj=>by have:=hc (j+1) (by omega);simpa using this);show (bif cs.contains x then i else anyAt cs p (i+1))=anyAt cs (p.drop w) (i+((w+1:Nat):Int));rw[h0,yd,ih];congr 1;omega
variable (m0:Int)
theorem qRN (ret:Int→OA) (k0:OA) (cs:LU) (ha:ascii cs=true):∀ (d i n:Nat),i+d=cs.length→d < n→qhk m0 ret k0 n cs i=k0
 | d,i,0,hi,hn=>by omega
 | 0,i,n+1,hi,hn=>by
  show qdU m0 ret k0 (qhk m0 ret k0 n) n cs i=_;unfold qdU;rw[yx (by omega)];rfl
 | d+1,i,n+1,hi,hn=>by
  show qdU m0 ret k0 (qhk m0 ret k0 n) n cs i=_;unfold qdU;have hlt:i < cs.length:=by omega
  have hx:=qjH ha hlt;rw[yo hlt,qoz ha hlt,yc,yc,yc,show ((((cs.getD i 0).toNat:Nat):Int)==65533)=false by rw[yB];omega,yd];exact qRN ret k0 cs ha d (i+1) n (by omega) (by omega)
theorem qIR (ret:Int→OA) (k6:LU→LU→Int→Int→OA) (s cs:LU) (w at1 r:Int) (hr:128≤r) (ha:ascii cs=true):∀ (d i n:Nat),i+d=cs.length→d < n→qcu m0 ret k6 n s cs w at1 r cs i=k6 s cs w at1
 | d,i,0,hi,hn=>by omega
 | 0,i,n+1,hi,hn=>by
  show qcE m0 ret k6 (qcu m0 ret k6 n) n s cs w at1 r cs i=_;unfold qcE;rw[yx (by omega)];rfl
 | d+1,i,n+1,hi,hn=>by
  show qcE m0 ret k6 (qcu m0 ret k6 n) n s cs w at1 r cs i=_;unfold qcE;have hlt:i < cs.length:=by omega
  have hx:=qjH ha hlt;rw[yo hlt,qoz ha hlt,yc,yc,yc,show (r==(((cs.getD i 0).toNat:Nat):Int))=false by rw[yB];omega,yd];exact qIR ret k6 s cs w at1 r hr ha d (i+1) n (by omega) (by omega)
theorem qIS (ret:Int→OA) (k2:OA) (hk:k2=ret (-1)) (s cs:LU) (hl:s.length≤1048576):∀ (d i n:Nat),i+d=s.length→d < n →
 qdx m0 ret k2 n (setOf cs (List.replicate 256 false)) s (s.length:Nat) (i:Nat)=ret (anyAt cs (s.drop i) i)
 | d,i,0,hi,hn=>by omega
 | 0,i,n+1,hi,hn=>by
  show qcD m0 ret k2 (qdx m0 ret k2 n) n _ s _ _=_;unfold qcD;rw[yx (by omega),yd,yA (by omega),hk];rfl
 | d+1,i,n+1,hi,hn=>by
  show qcD m0 ret k2 (qdx m0 ret k2 n) n _ s _ _=_;unfold qcD z168;have hlt:i < s.length:=by omega
  rw[qih,yo hlt,yc,qaa,y6,yc,qan,qAN _ _ _ yQ,qj (by omega),qIS ret k2 hk s cs hl d (i+1) n (by omega) (by omega),qG (d:=0) hlt];have:(List.replicate 256 false).getD (s.getD i 0).toNat false=false:=by rw[yY,List.getElem?_replicate];split <;> rfl
  rw[this,Bool.or_false];show _=ret (bif cs.contains (s.getD i 0) then (i:Int) else anyAt cs (s.drop (i+1)) (i+1));cases cs.contains (s.getD i 0) <;> rfl
set_option maxRecDepth 100000 in
theorem qBl (ret:Int→OA) (k4:OA) (hk:k4=ret (-1)) (s cs:LU) (hl:s.length≤1048576) (ha:ascii cs=true) (hc2:2≤cs.length) (hcl:cs.length≤1048576) (d i n:Nat) (hi:i+d=s.length) (hn:d+cs.length+1 < n) :
 qcv m0 ret k4 n s cs (i:Nat)=ret (anyAt cs (s.drop i) i):=by
 obtain⟨n,rfl⟩:∃ n',n=n'+1:=⟨n - 1,by omega⟩;show qdy m0 ret k4 (qcv m0 ret k4 n) n s cs (i:Nat)=_;unfold qdy qB;match d,hi,hn with
 | 0,hi,hn =>
  rw[yx (by omega),yd,yA (by omega),hk];rfl
 | d+1,hi,hn =>
  have hlt:i < s.length:=by omega
  have hb:=qhs (s.getD i 0);rw[qih,yo hlt,yc,qaa,y6,yc,yc,qan,qan,List.take_length,IntWalk.i32_in _ (by omega)]
  by_cases h128:(s.getD i 0).toNat < 128
  ·rw[yo (show (((s.getD i 0).toNat:Nat):Int) < 128 by omega),yc,qj (by omega),qBl ret k4 hk s cs hl ha hc2 hcl d (i+1) n (by omega) (by omega),qG (d:=0) hlt];show (bif decide ((0:Int)≤Lib.indexByte cs (s.getD i 0)) then ret i else ret (anyAt cs (s.drop (i+1)) ((i+1:Nat):Int)))=ret (bif cs.contains (s.getD i 0) then (i:Int) else anyAt cs (s.drop (i+1)) (i+1));rw[← Lib.contains_iff_indexByte];cases cs.contains (s.getD i 0) <;> rfl
  ·rw[yx (show ¬ (((s.getD i 0).toNat:Nat):Int) < 128 by omega),yd,yo (show (i:Int)≤((s.length:Nat):Int) by omega),yo (Int.le_refl _)];have hp:0 < (s.drop i).length:=by rw[yK];omega
   have h0:128≤((s.drop i).getD 0 0).toNat:=by
    rw[qG (d:=0) hlt];simp only[List.getD_cons_zero];omega
   obtain⟨f1,f2,f3,f4,f5⟩:=qGZ (s.drop i) hp h0;rw[show qnf (s.drop i)=true by unfold qnf;exact yo hp];have hd1:(z169 (s.drop i)).1=((Lib.decodeL (s.drop i)).1:Int):=rfl;have hd2:(z169 (s.drop i)).2=((Lib.decodeL (s.drop i)).2:Int):=rfl;rw[hd1,hd2];obtain⟨r,hr⟩:∃ r,(Lib.decodeL (s.drop i)).1=r:=⟨_,rfl⟩;obtain⟨w,hw⟩:∃ w,(Lib.decodeL (s.drop i)).2=w:=⟨_,rfl⟩;rw[hr] at f1 f5;rw[hw] at f2 f3 f4 f5;rw[hr,hw];rw[yK] at f3;have hnext:qcv m0 ret k4 n s cs (wrap .i64 ((i:Int)+(w:Int)))=ret (anyAt cs (s.drop i) i):=by
    rw[IntWalk.i64_in _ (by omega),show (i:Int)+(w:Int)=((i+w:Nat):Int) by omega,qBl ret k4 hk s cs hl ha hc2 hcl (d+1 - w) (i+w) n (by omega) (by omega),
     qBk cs w (s.drop i) i (by rw[yK];exact f3) (fun j hj=>qtB ha (f4 j hj)),List.drop_drop]
    congr 2
   have h48:qcu m0 ret (qfC m0 ret k4 (qcv m0 ret k4 n) n) n s cs (w:Int) (i:Int) (r:Int) cs 0=ret (anyAt cs (s.drop i) i):=by
    rw[qIR m0 ret _ s cs w i r (by omega) ha cs.length 0 n (by omega) (by omega)];exact hnext
   simp only[Bool.and_self,yc]
   by_cases hre:r=65533
   ·rw[show ((r:Int) != 65533)=false by simp only[bne_eq_false_iff_eq];omega,yd,h48]
   ·obtain⟨e1,e2⟩:=f5 hre;rw[show ((r:Int) != 65533)=true by simp only[bne_iff_ne,ne_eq];omega,yc,qvf ha (by rintro rfl;simp at hc2) r f1,yd,hnext];cases ((cs.length:Int)==(w:Int)) with
    | true=>rfl
    | false =>
     rw[yd]
     by_cases hm:(w:Int)≤m0
     ·have hok:qne m0 cs (Utf8.encode (r:Int)).data.toList=true:=by
       unfold qne;rw[← Lib.size_eq];simp only[yf,ym];omega
      rw[yo hm,hok];unfold z170;rw[qrc ha r f1];rfl
     ·rw[yx hm,yd,h48]
 termination_by d
 decreasing_by all_goals omega
set_option maxRecDepth 100000 in
theorem qHa:∀ (s0:LU) (chars1:LU),(qet s0 chars1=true)→∃ n,qsE m0 n s0 chars1=qHL (z109 s0 chars1):=fun s cs h=>⟨s.length+cs.length+2,by
 unfold qet at h;simp only[yf,ym] at h;obtain⟨⟨hc2,ha,hcl⟩,hl⟩:=h;have hcl':=qd hcl;have hl':=qd hl;unfold qsE qdz z109;rw[show (cs==[])=false by cases cs with | nil=>simp at hc2 | cons c r=>rfl,yd];have hcne:(((cs.length:Nat):Int)==1)=false:=by rw[yB];omega
 by_cases h1:s.length=1
 ·rw[show (((s.length:Nat):Int)==1)=true by rw[beq_iff_eq];omega,yc];obtain⟨x,rfl⟩:=List.length_eq_one_iff.1 h1;have hx:=qhs x;show (bif decide ((128:Int)≤wrap .i32 ((x.toNat:Nat):Int)) then _ else _)=_;rw[IntWalk.i32_in _ (by omega)]
  by_cases h128:x.toNat < 128
  ·rw[yx (show ¬ (128:Int)≤((x.toNat:Nat):Int) by omega),yd];show (bif decide ((0:Int)≤Lib.indexByte cs x) then qHL 0 else qHL (-1))=qHL (bif cs.contains x then 0 else -1);rw[← Lib.contains_iff_indexByte];cases cs.contains x <;> rfl
  ·rw[yo (show (128:Int)≤((x.toNat:Nat):Int) by omega),yc,qRN m0 _ _ cs ha cs.length 0 _ (by omega) (by omega)];show qHL (-1)=qHL (bif cs.contains x then 0 else -1);rw[qtB ha (by omega)];rfl
 ·rw[show (((s.length:Nat):Int)==1)=false by rw[yB];omega,yd,hcne,yd];have h32:=qBl m0 qHL (qfD m0 (s.length+cs.length+2)) rfl s cs hl' ha hc2 hcl' s.length 0 (s.length+cs.length+2) (by omega) (by omega);have h24:=qIS m0 qHL (qja m0 (s.length+cs.length+2)) rfl s cs hl' s.length 0 (s.length+cs.length+2) (by omega) (by omega);rw[show qco cs=true by unfold qco;rw[ha,hcl];rfl];cases z166 ((s.length:Nat):Int) with
  | true=>exact h24
  | false =>
   rw[yd];exact h32⟩
theorem qHb:∀ (b0:LU) (chars1:LU),(qng b0 chars1=true)→∃ n,qIo n b0 chars1=qzM (z200 b0 chars1):=fun b cs h=>⟨0,by
 unfold qIo z200;rw[show qet b cs=true from h];rfl⟩
theorem qBm (s:LU) (h:qnb s=true):qng s [97,98,99,100,101,102]=true:=by
 unfold qng qet;rw[show lenOk s=true from h,yi];decide
theorem qHc:∀ (s0:LU),(qnb s0=true)→∃ n,qIp n s0=qzM (z146 s0):=fun s h=>⟨0,by
 unfold qIp z146;rw[qBm s h];rfl⟩
theorem qHd (c:UInt8) (r:LU):(([13,10]:LU).isPrefixOf (c :: r))=decide (c=13∧r.head? = some 10):=by
 cases r with
 | nil=>simp[List.isPrefixOf]
 | cons e r =>
  simp only[List.isPrefixOf,yi,List.head?_cons,ya];rw[Bool.eq_iff_iff];simp only[yf,beq_iff_eq,ym];exact⟨fun h=>⟨h.1.symm,h.2.symm⟩,fun h=>⟨h.1.symm,h.2.symm⟩⟩
theorem qrd (c:UInt8) (r:LU):Lib.index (c :: r) [13,10]=if c=13∧r.head? = some 10 then 0 else if Lib.index r [13,10] = -1 then -1 else Lib.index r [13,10]+1:=by
 have:Lib.index (c :: r) [13,10]=if ([13,10]:LU).isPrefixOf (c :: r) then 0 else if Lib.index r [13,10] == -1 then -1 else Lib.index r [13,10]+1:=rfl
 rw[this,qHd]
 by_cases h:c=13∧r.head? = some 10
 ·rw[if_pos h,if_pos (by simpa using h)]
 ·rw[if_neg h,if_neg (by simpa using h)]
  by_cases h2:Lib.index r [13,10] = -1
  ·simp[h2]
  ·rw[if_neg h2,if_neg (by simpa using h2)]
theorem qHe (h:r.head? = some 10):1≤r.length:=by cases r with
 | nil=>cases h
 | cons a b=>simp
theorem qtC:∀ (s cur:LU),(Lib.index s [13,10] = -1∧qaA cur s=[cur++s]) ∨
 (∃ k:Nat,Lib.index s [13,10]=k∧k+2≤s.length∧qaA cur s=(cur++s.take k) :: qaA [] (s.drop (k+2)))
 | [],cur=>.inl ⟨rfl,by simp[qfT]⟩
 | c :: r,cur=>by
  rw[qrd,qen]
  by_cases h:c=13∧r.head? = some 10
  ·right;rw[if_pos h,if_pos h];refine⟨0,rfl,by have:=qHe h.2;simp;omega,?_⟩;simp
  ·rw[if_neg h,if_neg h];rcases qtC r (cur++[c]) with ⟨h1,h2⟩ | ⟨k,h1,h2,h3⟩
   ·left;rw[h1,if_pos rfl,h2];exact⟨rfl,by simp⟩
   ·right;refine⟨k+1,by rw[h1,if_neg (by omega)];omega,by simp;omega,?_⟩;rw[h3];simp
theorem qha (s:LU):(z82 s [13,10]=(s,[],false)∧qaA [] s=[s]∧Lib.index s [13,10] = -1) ∨
 (∃ k:Nat,k+2≤s.length∧z82 s [13,10]=(s.take k,s.drop (k+2),true)∧qaA [] s=s.take k :: qaA [] (s.drop (k+2))∧Lib.index s [13,10]=k):=by
 rcases qtC s [] with ⟨h1,h2⟩ | ⟨k,h1,h2,h3⟩
 ·left;refine⟨?_,by simpa using h2,h1⟩;unfold z82;rw[h1];rfl
 ·right;refine⟨k,h2,?_,by simpa using h3,h1⟩;unfold z82;rw[h1,dT (by omega),yc,tn];rfl
theorem qeo (s sep:LU):Lib.index s sep = -1∨0≤Lib.index s sep:=by
 rcases Lib.index_spec s sep with ⟨h1,_⟩ | ⟨i,h1,_⟩
 ·exact .inl h1
 ·right;omega
theorem qoA (ret:Int→OA) (sep:LU) (h2:2≤sep.length) (hs:sep.length≤1048576):∀ (f:Nat) (s:LU) (m n:Nat),s.length < f→f≤n→s.length≤1048576→m+s.length≤1048576 →
 qks ret n s sep (m:Nat)=ret ((m+cntF sep f s:Nat):Int)
 | 0,s,m,n,h,_,_,_=>by omega
 | f+1,s,m,0,h,hn,_,_=>by omega
 | f+1,s,m,n+1,h,hn,hl,hm=>by
  show qhU _ _ n _ _ _=_;unfold qhU;have hok:qiM s sep=true:=by
   unfold qiM;rw[qn hl,qn hs,dT (by omega)];rfl
  rw[hok,show z143 s sep=Lib.index s sep from rfl];rw[show cntF sep (f+1) s=bif Lib.index s sep == -1 then 0 else cntF sep f (s.drop ((Lib.index s sep).toNat+sep.length))+1 from rfl];rcases qeo s sep with e | e
  ·rw[e];rfl
  ·have hr:=Lib.index_room s sep e;rw[show (Lib.index s sep == -1)=false by rw[yB];omega];rw[show wrap .i64 (Lib.index s sep+((sep.length:Nat):Int))=(((Lib.index s sep).toNat+sep.length:Nat):Int) by rw[IntWalk.i64_in _ (by omega)];omega];rw[tn,tn,List.take_length,qj (by omega),dT (by omega),dT (show (((Lib.index s sep).toNat+sep.length:Nat):Int)≤((s.length:Nat):Int) by omega),dT (Int.le_refl _)];simp only[Bool.and_self,yc,yd];rw[qoA ret sep h2 hs f (s.drop ((Lib.index s sep).toNat+sep.length)) (m+1) n (by rw[yK];omega) (by omega) (by rw[yK];omega) (by rw[yK];omega)];congr 1;omega
theorem qHf:∀ (s0:LU) (sep1:LU),(qfz s0 sep1=true)→∃ n,qsS n s0 sep1=qHL (z139 s0 sep1):=fun s sep h=>⟨s.length+1,by
 unfold qfz at h;simp only[yf,ym] at h;have hl:=qd h.1;have hs:=qd h.2.1
 by_cases h1:sep.length=1
 ·obtain⟨c,rfl⟩:=List.length_eq_one_iff.1 h1;rfl
 unfold qsS z139;rw[show (((sep.length:Nat):Int)==0)=false by rw[yB];omega,show (((sep.length:Nat):Int)==1)=false by rw[yB];omega,show (sep.length==1)=false by rw[yB];exact h1];have:=qoA qHL sep (by omega) hs (s.length+1) s 0 (s.length+1) (by omega) (by omega) hl (by omega);rw[yE] at this;exact this⟩
theorem qdK (l:LU) (i j:Nat):(l.drop i).getD j 0=l.getD (i+j) 0:=by
 simp[getD,List.getElem?_drop]
theorem qtD (hi:i < l.length):z145 l (i:Int) 61=z145 (l.drop i) 0 61:=by
 unfold z145;have e:(decide ((0:Int)≤(i:Int))&&decide ((i:Int)≤((l.length:Nat):Int) - 3))=(decide ((0:Int)≤0)&&decide ((0:Int)≤(((l.drop i).length:Nat):Int) - 3)):=by
  rw[yK,Bool.eq_iff_iff];simp only[yf,ym];omega
 rw[e];unfold qjQ;rw[tn,show toNat 0=0 from rfl,qdK,qdK,qdK];rfl
theorem qmk {i:Int} {c:UInt8} (h:(z145 l i c).2=true):0≤i∧i+3≤((l.length:Nat):Int):=by
 unfold z145 at h;cases hc:(decide (0≤i)&&decide (i≤((l.length:Nat):Int) - 3)) with
 | false=>rw[hc] at h;cases h
 | true =>
  simp only[yf,ym] at hc;omega
theorem qjI (h:0 < l.length):qlA l=z144 (l.getD (l.length - 1) 0) 2:=by
 unfold qlA;rw[List.getLast?_eq_getElem?];have:l[l.length - 1]? = some (l.getD (l.length - 1) 0):=by
  simp[getD,yO (show l.length - 1 < l.length by omega)]
 rw[this]
theorem qkI (x:UInt8) (r:LU):qhE (x :: r)=((z144 x 6)&&((bif (x==61) && !(r.isEmpty) then (z145 (x :: r) 0 61).2&&z146 (r.take 2) else true)&&qhE r)):=rfl
theorem qoB (ret:Bool→OA) (k0:LU→OA) (l:LU) (hl:l.length≤1048576):∀ (d i n:Nat),i+d=l.length→d < n →
 quS ret k0 n l l ((l.length:Nat):Int) (i:Nat)=bif qhE (l.drop i) then k0 l else ret false
 | d,i,0,hi,hn=>by omega
 | 0,i,n+1,hi,hn=>by
  show qgC _ _ _ n _ _ _ _=_;unfold qgC;rw[dF (by omega),yd,yA (by omega)];rfl
 | d+1,i,n+1,hi,hn=>by
  have hlt:i < l.length:=by omega
  have ih:=qoB ret k0 l hl d (i+1) n (by omega) (by omega);show qgC _ _ _ n _ _ _ _=_;unfold qgC;rw[qtD hlt,tn,qj (by omega),ih,qG (d:=(0:UInt8)) hlt,qkI,show qkh l (i:Int) 61=true from qn hl,
   show wrap .i64 ((i:Int)+3)=((i+3:Nat):Int) by rw[IntWalk.i64_in _ (by omega)];omega,show wrap .i64 (((l.length:Nat):Int) - 1)=((l.length - 1:Nat):Int) by rw[IntWalk.i64_in _ (by omega)];omega,tn,tn,
   show drop (i+1) (take (i+3) l)=(l.drop (i+1)).take 2 by rw[List.drop_take,show i+3 - (i+1)=2 by omega],
   show qnb ((l.drop (i+1)).take 2)=true from qn (by rw[yz];omega)]
  simp (disch:=omega) only [dT,yc,yi];have hem:((i:Int)==((l.length - 1:Nat):Int))=(l.drop (i+1)).isEmpty:=by
   rw[Bool.eq_iff_iff,beq_iff_eq,List.isEmpty_iff,List.drop_eq_nil_iff];omega
  rw[hem];cases z144 (l.getD i 0) 6 with
  | false=>rfl
  | true =>
   by_cases h61:l.getD i 0=61
   ·rw[h61];cases hE:(l.drop (i+1)).isEmpty with
    | true=>rfl
    | false =>
     cases hT:(z145 (61 :: l.drop (i+1)) 0 61).2 with
     | false=>rfl
     | true =>
      have hr:=qmk hT;rw[yg,yK] at hr;rw[dT (show ((i+3:Nat):Int)≤((l.length:Nat):Int) by omega)];cases z146 ((l.drop (i+1)).take 2) <;> rfl
   ·have e1:(l.getD i 0==61)=false:=by simpa using h61
    have e2:(l.getD i 0 != 61)=true:=by simpa [bne] using h61
    rw[e1,e2];rfl
theorem qMH:∀ (l0:LU),(qzL l0=true)→∃ n,qFu n l0=qzM (z83 l0):=fun l h=>⟨l.length+1,by
 have hl:=qd (l:=l) h;unfold qFu z83;refine(qoB qzM (qjp (l.length+1)) l hl l.length 0 (l.length+1) (by omega) (by omega)).trans ?_;rw[yw];cases qhE l with
 | false=>rfl
 | true =>
  show qjp (l.length+1) l=_;unfold qjp
  by_cases h0:l.length=0
  ·have:l=[]:=yF h0;subst this;rfl
  ·rw[show (((l.length:Nat):Int)==0)=false by rw[yB];omega,show wrap .i64 (((l.length:Nat):Int) - 1)=((l.length - 1:Nat):Int) by rw[IntWalk.i64_in _ (by omega)];omega,
    dT (by omega),dT (show ((l.length - 1:Nat):Int) < ((l.length:Nat):Int) by omega),tn,qjI (by omega)]
   rfl⟩
theorem is6:∀ i:Fin 256,z144 (ofNat i.val) 6=(z144 (ofNat i.val) 2||z144 (ofNat i.val) 4):=by decide +kernel
theorem qTG (c:UInt8):z144 c 6=(z144 c 2||z144 c 4):=qvb (P:=fun c=>z144 c 6=(z144 c 2||z144 c 4)) is6 c
theorem qHg:∀ i:Fin 256,(z230 (ofNat i.val)).2=true→(0≤(z230 (ofNat i.val)).1∧(z230 (ofNat i.val)).1≤15)∧(getD hexD (z230 (ofNat i.val)).1.toNat 0==ofNat i.val) = !(([97,98,99,100,101,102]:LU).contains (ofNat i.val)):=by decide +kernel
theorem qRO (c:UInt8):(z230 c).2=true→(0≤(z230 c).1∧(z230 c).1≤15)∧(getD hexD (z230 c).1.toNat 0==c) = !(([97,98,99,100,101,102]:LU).contains c) :=
 qvb (P:=fun c=>(z230 c).2=true→(0≤(z230 c).1∧(z230 c).1≤15)∧(getD hexD (z230 c).1.toNat 0==c) = !(([97,98,99,100,101,102]:LU).contains c)) qHg c
theorem cap2 (a b:UInt8):z146 [a,b]=(!(([97,98,99,100,101,102]:LU).contains a) && !(([97,98,99,100,101,102]:LU).contains b)):=by
 unfold z146 z200 z109;rw[show anyAt [97,98,99,100,101,102] [a,b] 0=bif ([97,98,99,100,101,102]:LU).contains a then 0 else bif ([97,98,99,100,101,102]:LU).contains b then 1 else -1 from rfl];cases ([97,98,99,100,101,102]:LU).contains a <;> cases ([97,98,99,100,101,102]:LU).contains b <;> rfl
theorem qMI {a b:UInt8} (h:(z199 a b).2=true):z10 (z137 [] 61 (z199 a b).1) [61,a,b]=z146 [a,b]:=by
 unfold z199 at h ⊢;cases ha:((z230 a).2&&(z230 b).2) with
 | false=>rw[ha] at h;cases h
 | true =>
  rw[yf] at ha;obtain⟨⟨a0,a1⟩,a2⟩:=qRO a ha.1;obtain⟨⟨b0,b1⟩,b2⟩:=qRO b ha.2;rw[cap2,← a2,← b2];show z10 (z137 [] 61 (ofNat (toNat ((z230 a).1*16+(z230 b).1)))) [61,a,b]=_;have hx:(ofNat (toNat ((z230 a).1*16+(z230 b).1))).toNat=(z230 a).1.toNat*16+(z230 b).1.toNat:=by
   rw[UInt8.toNat_ofNat',Nat.mod_eq_of_lt (by omega)];omega
  unfold z10 z137 z219;rw[hx,show ((z230 a).1.toNat*16+(z230 b).1.toNat) / 16=(z230 a).1.toNat by omega,show ((z230 a).1.toNat*16+(z230 b).1.toNat) % 16=(z230 b).1.toNat by omega];rw[Bool.eq_iff_iff];simp
theorem qHh (h:(z145 (x :: r) 0 61).2=true):∃ a b t,r=a :: b :: t∧x=61∧z145 (x :: r) 0 61=z199 a b:=by
 have hr:=qmk h;match r,hr with
 | [],hr=>simp at hr
 | [a],hr=>simp at hr
 | a :: b :: t,_ =>
  refine⟨a,b,t,rfl,?_⟩;unfold z145 at h ⊢;rw[dT (show (0:Int)≤0 by omega),dT (show (0:Int)≤(((x :: a :: b :: t).length:Nat):Int) - 3 by simp only[yg];omega)] at h ⊢;have h':(qjQ (x :: a :: b :: t) 0 61).2=true:=h;show x=61∧qjQ (x :: a :: b :: t) 0 61=z199 a b;rw[show qjQ (x :: a :: b :: t) 0 61=bif x==61 then z199 a b else (0,false) from rfl] at h' ⊢
  by_cases hx:x=61
  ·subst hx;exact⟨rfl,rfl⟩
  ·rw[show (x==61)=false by simpa using hx] at h';cases h'
theorem qhu (ret:Bool→OA) (k0:LU→OA) (l:LU) (hl:l.length≤1048576):∀ (d i n:Nat),i+d=l.length→d < n →
 qkB ret k0 n l (i:Nat)=bif qhE (l.drop i) then k0 l else ret false
 | d,i,0,hi,hn=>by omega
 | 0,i,n+1,hi,hn=>by
  show qek _ _ _ n _ _=_;unfold qek qdb qbp qbo qbn;rw[dF (by omega),yd,yA (by omega)];rfl
 | d+1,i,n+1,hi,hn=>by
  have hlt:i < l.length:=by omega
  have ih:=qhu ret k0 l hl d (i+1) n (by omega) (by omega);show qek _ _ _ n _ _=_;unfold qek qdb qbp qbo qbn;have hsl:drop i (take (i+3) l)=(l.drop i).take 3:=by rw[List.drop_take,show i+3 - i=3 by omega]
  rw[show z149 l (i:Int) 61=z145 l (i:Int) 61 from rfl,qtD hlt,tn,qj (by omega),ih,show wrap .i64 ((i:Int)+3)=((i+3:Nat):Int) by rw[IntWalk.i64_in _ (by omega)];omega,tn,hsl,
   qG (d:=(0:UInt8)) hlt,qkI,qTG,show qiK l (i:Int) 61=true from qn hl,show wrap .i64 (((l.length:Nat):Int) - 1)=((l.length - 1:Nat):Int) by rw[IntWalk.i64_in _ (by omega)];omega,
   show ∀ c,qna ([]:LU) 61 c=true from fun _=>rfl,show ∀ c m,qwE (z137 ([]:LU) 61 c) m=true from fun _ _=>rfl]
  simp (disch:=omega) only [dT,yc,yi,z136];have hem:decide ((i:Int) < ((l.length - 1:Nat):Int)) = !((l.drop (i+1)).isEmpty):=by
   rw[Bool.eq_iff_iff,ym,Bool.not_eq_true',← Bool.not_eq_true,List.isEmpty_iff,List.drop_eq_nil_iff];omega
  rw[hem];have key:(bif (l.getD i 0==61) then (bif !((l.drop (i+1)).isEmpty) then (bif !((z145 (l.getD i 0 :: l.drop (i+1)) 0 61).2) then ret false else
   bif decide (((i+3:Nat):Int)≤((l.length:Nat):Int)) then (bif !(z10 (z137 [] 61 (z145 (l.getD i 0 :: l.drop (i+1)) 0 61).1) ((l.getD i 0 :: l.drop (i+1)).take 3)) then ret false else (bif qhE (l.drop (i+1)) then k0 l else ret false)) else none)
   else (bif qhE (l.drop (i+1)) then k0 l else ret false)) else (bif qhE (l.drop (i+1)) then k0 l else ret false)) =
   bif ((bif (l.getD i 0==61) && !((l.drop (i+1)).isEmpty) then (z145 (l.getD i 0 :: l.drop (i+1)) 0 61).2&&z146 ((l.drop (i+1)).take 2) else true)&&qhE (l.drop (i+1))) then k0 l else ret false:=by
   cases h61:(l.getD i 0==61) with
   | false=>rfl
   | true =>
    cases hE:(l.drop (i+1)).isEmpty with
    | true=>rfl
    | false =>
     cases hT:(z145 (l.getD i 0 :: l.drop (i+1)) 0 61).2 with
     | false=>rfl
     | true =>
      have hr:=qmk hT;rw[yg,yK] at hr;obtain⟨a,b,t,e1,e2,e3⟩:=qHh hT;rw[dT (show ((i+3:Nat):Int)≤((l.length:Nat):Int) by omega),e3];rw[e3] at hT;rw[e1,e2,show (61 :: a :: b :: t).take 3=[61,a,b] from rfl,qMI hT,show (a :: b :: t).take 2=[a,b] from rfl];cases z146 [a,b] <;> rfl
  cases z144 (l.getD i 0) 2 with
  | true=>exact key
  | false =>
   cases z144 (l.getD i 0) 4 with
   | true=>exact key
   | false=>rfl
theorem qHi:∀ (l0:LU),(qnP l0=true)→∃ n,qtn n l0=qzM (z103 l0):=fun l h=>⟨l.length+1,by
 have hl:=qd (l:=l) h;unfold qtn z103 z83;refine(qhu qzM (qfR (l.length+1)) l hl l.length 0 (l.length+1) (by omega) (by omega)).trans ?_;rw[yw];cases qhE l with
 | false=>rfl
 | true =>
  show qfR (l.length+1) l=_;unfold qfR
  by_cases h0:l.length=0
  ·have:l=[]:=yF h0;subst this;rfl
  ·rw[show (((l.length:Nat):Int)==0)=false by rw[yB];omega,show wrap .i64 (((l.length:Nat):Int) - 1)=((l.length - 1:Nat):Int) by rw[IntWalk.i64_in _ (by omega)];omega,
    dT (by omega),dT (show ((l.length - 1:Nat):Int) < ((l.length:Nat):Int) by omega),tn,qjI (by omega)]
   rfl⟩
theorem qre:∀ l:List LU,(qar l).1=[]→(qar l).2=true
 | [],_=>rfl
 | [x],h=>by
  unfold qar at h ⊢;split at h
  ·rename_i e;rw[if_pos e]
  ·cases h
 | x :: y :: r,h=>by cases h
theorem qoC (s:LU):s≠[]→(z82 s [13,10]=(s,[],false)∧z102 s=([s],false)) ∨
 (∃ k:Nat,k+2≤s.length∧z82 s [13,10]=(s.take k,s.drop (k+2),true)∧z102 s=(s.take k :: (z102 (s.drop (k+2))).1,(z102 (s.drop (k+2))).2)):=fun hs=>by
 unfold z102;rcases qha s with ⟨h1,h2,_⟩ | ⟨k,h1,h2,h3,_⟩
 ·left;refine⟨h1,?_⟩;rw[h2];unfold qar;rw[if_neg hs]
 ·right;refine⟨k,h1,h2,?_⟩;rw[h3];have:=qid (s.drop (k+2)) [];cases hl:qaA [] (s.drop (k+2)) with
  | nil=>exact absurd hl this
  | cons a b=>rfl
theorem qvg (x:LU) (L:List LU) (e:Bool) (h:L=[]→e=true):qiY (x :: L) e=bif decide (76 < x.length) then 12 else bif z83 x then qiY L e else 3:=by
 cases L with
 | nil=>rw[h rfl];rfl
 | cons y r=>rfl
theorem qoD (ret:Int→OA) (k0:OA) (hk:k0=ret 0):∀ (f:Nat) (s:LU) (n:Nat),s.length < f→f≤n→s.length≤1048576 →
 qqF ret k0 n s=ret (qiY (z102 s).1 (z102 s).2)
 | 0,s,n,h,_,_=>by omega
 | f+1,s,0,h,hn,_=>by omega
 | f+1,s,n+1,h,hn,hl=>by
  show qlJ _ _ _ n _=_;unfold qlJ qbh
  by_cases hs:s=[]
  ·subst hs;rw[hk];rfl
  ·have hp:0 < s.length:=List.length_pos_iff.2 hs;rw[dT (by omega),yc,show qjS s [13,10]=true by unfold qjS;rw[qn hl];rfl,y6,yc];rcases qoC s hs with ⟨h1,h2⟩ | ⟨k,h1,h2,h3⟩
   ·rw[h1,h2];show (bif decide ((76:Int) < ((s.length:Nat):Int)) then ret 12 else ret 4)=ret (bif decide (76 < s.length) then 12 else 4);rw[show decide ((76:Int) < ((s.length:Nat):Int))=decide (76 < s.length) by congr 1;apply propext;omega];cases decide (76 < s.length) <;> rfl
   ·rw[h2,h3];have hcc:=qvg (s.take k) (z102 (s.drop (k+2))).1 (z102 (s.drop (k+2))).2 (qre _);have ih:=qoD ret k0 hk f (s.drop (k+2)) n (by rw[yK];omega) (by omega) (by rw[yK];omega);show (bif decide ((76:Int) < (((s.take k).length:Nat):Int)) then ret 12 else bif qzL (s.take k)&&true then (bif !(z83 (s.take k)) then ret 3 else qqF ret k0 n (s.drop (k+2))) else none)=ret (qiY (s.take k :: (z102 (s.drop (k+2))).1) (z102 (s.drop (k+2))).2);rw[hcc,ih,show decide ((76:Int) < (((s.take k).length:Nat):Int))=decide (76 < (s.take k).length) by congr 1;apply propext;omega,show qzL (s.take k)=true from qn (by rw[yz];omega)];cases decide (76 < (s.take k).length) <;> cases z83 (s.take k) <;> rfl
theorem qMJ:∀ (s0:LU),(qFi s0=true)→∃ n,qFv n s0=qHL (z38 s0):=fun s h=>⟨s.length+1,by
 unfold qFv z38;exact qoD qHL (qqG (s.length+1)) rfl (s.length+1) s (s.length+1) (by omega) (by omega) (qd (l:=s) h)⟩
theorem qBn:∀ (f:Nat) (s:LU),s.length < f→(z102 s).1.length≤s.length∧∀ x∈(z102 s).1,x.length≤s.length
 | 0,s,h=>by omega
 | f+1,s,h=>by
  by_cases hs:s=[]
  ·subst hs;exact⟨yv _,fun x hx=>by cases hx⟩
  ·have hp:0 < s.length:=List.length_pos_iff.2 hs;rcases qoC s hs with ⟨h1,h2⟩ | ⟨k,h1,h2,h3⟩
   ·rw[h2];exact⟨hp,fun x hx=>by simp only[List.mem_singleton] at hx;subst hx;exact yv _⟩
   ·rw[h3];obtain⟨i1,i2⟩:=qBn f (s.drop (k+2)) (by rw[yK];omega);rw[yK] at i1;refine⟨by simp only[yg];omega,fun x hx=>?_⟩;simp only[List.mem_cons] at hx;rcases hx with rfl | hx
    ·rw[yz];omega
    ·have:=i2 x hx;rw[yK] at this;omega
theorem qhv (ret:Int→OA) (k0:OA) (hk:k0=ret 0) (l:List LU) (e:Bool) (hl:l.length≤1048576) (hx:∀ x∈l,x.length≤1048576):∀ (d i n:Nat),i+d=l.length→d < n →
 qva ret k0 n l e (i:Nat)=ret (qiY (l.drop i) e)
 | d,i,0,hi,hn=>by omega
 | 0,i,n+1,hi,hn=>by
  show qgU _ _ _ n _ _ _=_;unfold qgU;rw[dF (by omega),yd,yA (by omega),hk];rfl
 | d+1,i,n+1,hi,hn=>by
  have hlt:i < l.length:=by omega
  have ih:=qhv ret k0 hk l e hl hx d (i+1) n (by omega) (by omega);have hm:l.getD i []∈l:=by simp[getD,yO hlt]
  show qgU _ _ _ n _ _ _=_;unfold qgU;rw[qj (by omega),ih,tn,show wrap .i64 (((l.length:Nat):Int) - 1)=((l.length - 1:Nat):Int) by rw[IntWalk.i64_in _ (by omega)];omega,show qnP (l.getD i [])=true from qn (hx _ hm),qG (d:=([]:LU)) hlt];simp (disch:=omega) only [dT,yc,yi];rw[show decide ((76:Int) < (((l.getD i []).length:Nat):Int))=decide (76 < (l.getD i []).length) by congr 1;apply propext;omega,show z103 (l.getD i [])=z83 (l.getD i []) from rfl]
  by_cases hlast:i+1=l.length
  ·rw[beqT (show (i:Int)=((l.length - 1:Nat):Int) by omega),yA (show l.length≤i+1 by omega)];rw[show qiY [l.getD i []] e=bif decide (76 < (l.getD i []).length) then 12 else bif !e then 4 else bif z83 (l.getD i []) then 0 else 3 from rfl];cases decide (76 < (l.getD i []).length) <;> cases e <;> cases z83 (l.getD i []) <;> rfl
  ·rw[beqF (show (i:Int)≠((l.length - 1:Nat):Int) by omega),qG (d:=([]:LU)) (show i+1 < l.length by omega)];rw[show qiY (l.getD i [] :: l.getD (i+1) [] :: l.drop (i+1+1)) e=bif decide (76 < (l.getD i []).length) then 12 else bif z83 (l.getD i []) then qiY (l.getD (i+1) [] :: l.drop (i+1+1)) e else 3 from rfl];cases decide (76 < (l.getD i []).length) <;> cases z83 (l.getD i []) <;> rfl
theorem qMK:∀ (s0:LU),(qFj s0=true)→∃ n,qFG n s0=qHL (z47 s0):=fun s h=>⟨(z102 s).1.length+1,by
 have hl:=qd (l:=s) h;obtain⟨h1,h2⟩:=qBn (s.length+1) s (by omega);unfold qFG z47;rw[show qkl s=true from h,y6,yc];refine(qhv qHL (qqV ((z102 s).1.length+1)) rfl (z102 s).1 (z102 s).2 (by omega) (fun x hx=>by have:=h2 x hx;omega) (z102 s).1.length 0 ((z102 s).1.length+1) (by omega) (by omega)).trans ?_;rw[yw]⟩
theorem qHj:∀ (s0:LU) (cutset1:LU),(qkp s0 cutset1=true)→∃ n,qzU n s0 cutset1=qzR (z172 s0 cutset1):=fun s cs h=>⟨0,by
 unfold qkp at h;simp only[yf,ym] at h;obtain⟨h1,h2,h3,h4⟩:=h;cases s with
 | nil=>rfl
 | cons x r =>
  unfold qzU;have e1:((((x :: r).length:Nat):Int)==0)=false:=by simp;omega
  have e2:(cs==([]:LU))=false:=by cases cs <;> simp at h2 ⊢
  have e3:(((cs.length:Nat):Int)==1)=false:=by simp;omega
  rw[e1,e2,e3];have e4:qco cs=true:=by unfold qco;rw[h3,h4];rfl
  have e5:qhg (x :: r) (z167 cs).1=true:=h1;rw[e4,e5];simp only[yd,yi,yc];show qzR (z208 (x :: r) (z167 cs).1)=_;unfold z208 z172;rw[show (fun c=>z168 (z167 cs).1 c)=fun c=>cs.contains c from funext (qjB cs)]⟩
theorem qHk:∀ (s0:LU) (prefix1:LU),∃ n,qHN n s0 prefix1=qzM (z171 s0 prefix1):=fun s t=>⟨0,by
 unfold qHN z171
 by_cases hc:t.length≤s.length
 ·rw[tn,dT hc];simp (disch:=omega) only [dT,yc,yi];rfl
 ·rw[dF hc,dF (by omega)];rfl⟩
theorem qml (p:UInt8→Bool) (l:LU):(dropR p l).length≤l.length:=by
 unfold dropR;rw[List.length_reverse];have:=(List.dropWhile_suffix p (l:=l.reverse)).sublist.length_le;simpa using this
theorem qmm:(fun c=>([32,9]:LU).contains c)=blank:=funext fun c=>by
 unfold blank;simp only[List.contains_cons,List.contains_nil,Bool.or_false]
theorem qvh (l:LU):z215 l [61]=qfB l:=by
 unfold z215 qfB;rcases List.eq_nil_or_concat l with rfl | ⟨t,x,rfl⟩
 ·rfl
 ·rw[List.concat_eq_append,dT (by simp),yc];have e:(t++[x]).length - ([61]:LU).length=t.length:=by simp
  rw[e,List.drop_left,List.getLast?_append];simp
theorem qmn (l:LU):(bareL l).length≤l.length:=by
 unfold bareL;have:=qml blank l;cases qfB (dropR blank l)
 ·exact this
 ·show (dropR blank l).dropLast.length≤_;rw[List.length_dropLast];omega
theorem qHl:∀ (l0:LU),(qsB l0=true)→∃ n,qHR n l0=qqx (z111 l0).1 (z111 l0).2:=fun l h=>⟨0,by
 have hl:=qd h;unfold qHR;have e1:qkp l [32,9]=true:=by unfold qkp;rw[show lenOk l=true from h];rfl
 have e2:z172 l [32,9]=dropR blank l:=by unfold z172;rw[qmm]
 have hd:=qml blank l;have e3:qrX (dropR blank l) [61]=true:=qn (by omega);rw[e1,e2,e3];simp only[yi,yc];have e4:z173 (dropR blank l) [61]=(z111 l):=by
  unfold z173 z111 bareL;rw[qvh];cases qfB (dropR blank l)
  ·rfl
  ·show ((dropR blank l).take ((dropR blank l).length - 1),true)=((dropR blank l).dropLast,true);rw[List.dropLast_eq_take]
 rw[e4]⟩
theorem qeZ (l:LU) (i k:Nat):(l.drop i).getD k 0=l.getD (i+k) 0:=by
 simp[getD,List.getElem?_drop]
theorem qBo (l:LU) (i:Nat):z145 l (i:Int) 61=z145 (l.drop i) 0 61:=by
 unfold z145
 by_cases h:i+3≤l.length
 ·have e1:decide ((i:Int)≤(l.length:Int) - 3)=true:=dT (by omega);have e2:decide ((0:Int)≤((l.drop i).length:Int) - 3)=true:=dT (by rw[yK];omega);rw[e1,e2,dT (show (0:Int)≤(i:Int) by omega),tn];simp only[yi,yc];show qjQ l i 61=qjQ (l.drop i) 0 61;unfold qjQ;rw[qeZ,qeZ,qeZ];rfl
 ·have e1:decide ((i:Int)≤(l.length:Int) - 3)=false:=dF (by omega);have e2:decide ((0:Int)≤((l.drop i).length:Int) - 3)=false:=dF (by rw[yK];omega);rw[e1,e2];simp
theorem qtE (h:(z145 l (i:Int) 61).2=true):i+3≤l.length:=by
 unfold z145 at h
 by_cases hc:(i:Int)≤(l.length:Int) - 3
 ·omega
 ·rw[dF hc,Bool.and_false] at h;cases h
theorem qkJ:∀ (k:Nat) (l:LU),qaT k l=qaT 0 (l.drop k)
 | 0,l=>rfl
 | k+1,[]=>rfl
 | k+1,x :: r=>by rw[show qaT (k+1) (x :: r)=qaT k r from rfl,qkJ k r];rfl
theorem qoE (h:i < l.length):qaT 0 (l.drop i)=bif (z145 l (i:Int) 61).2 then ((z145 l (i:Int) 61).1 :: (qaT 0 (l.drop (i+3))).1,(qaT 0 (l.drop (i+3))).2)
 else (l.getD i 0 :: (qaT 0 (l.drop (i+1))).1,(qaT 0 (l.drop (i+1))).2+(bif l.getD i 0==61 then 1 else 0)):=by
 have e:=qG (d:=(0:UInt8)) h;rw[qBo,e];show (bif (z145 (l.getD i 0 :: l.drop (i+1)) 0 61).2 then _ else _)=_;rw[qkJ 2,List.drop_drop,show i+1+2=i+3 by omega]
theorem qfU:∀ (k:Nat) (l:LU),(qaT k l).1.length≤l.length∧(qaT k l).2≤l.length
 | _,[]=>⟨yv _,yv _⟩
 | k+1,x :: r=>by
  have:=qfU k r;rw[show qaT (k+1) (x :: r)=qaT k r from rfl,yg];omega
 | 0,x :: r=>by
  have h1:=qfU 2 r;have h2:=qfU 0 r;show (bif (z145 (x :: r) 0 61).2 then _ else _:LU×Nat).1.length≤_∧(bif (z145 (x :: r) 0 61).2 then _ else _:LU×Nat).2≤_;cases (z145 (x :: r) 0 61).2
  ·simp only[yd,yg];cases (x==61) <;> simp only[yc,yd] <;> omega
  ·simp only[yc,yg];omega
theorem qTH (hl:l.length≤1048576) (i:Int) (c:UInt8):qkh l i c=true:=qn hl
theorem qfV (k0:LU→Int→OA) (l:LU) (hl:l.length≤1048576):∀ (d i n st:Nat) (out:LU),i+d=l.length→d < n→out.length+d≤room→st+d≤1048576 →
 qkq k0 n l out (st:Int) (i:Int)=k0 (out++(qaT 0 (l.drop i)).1) ((st+(qaT 0 (l.drop i)).2:Nat):Int)
 | d,i,0,st,out,hi,hn,_,_=>by omega
 | 0,i,n+1,st,out,hi,hn,_,_=>by
  show qdV _ _ n _ _ _ _=_;unfold qdV qbc;rw[dF (by omega),yd,yA (by omega)];show k0 out st=k0 (out++[]) _;rw[yG];rfl
 | d+1,i,n+1,st,out,hi,hn,hb,hs=>by
  have hlt:i < l.length:=by omega
  show qdV _ _ n _ _ _ _=_;unfold qdV qbc;rw[qTH hl,qoE hlt,tn];cases ht:(z145 l (i:Int) 61).2 with
  | true =>
   have h3:=qtE ht;simp (disch:=(first | omega | (simp;omega))) only [dT,yc,yi];rw[show wrap .i64 ((i:Int)+3)=((i+3:Nat):Int) by rw[IntWalk.i64_in _ (by omega)];omega,
    qfV k0 l hl (d+1 - 3) (i+3) n st _ (by omega) (by omega) (by simp;omega) (by omega),yl]
   rfl
  | false =>
   simp (disch:=(first | omega | (simp;omega))) only [dT,yc,yd,yi];rw[qj (by omega),qj (by omega)];cases hq:l.getD i 0==61 with
   | true =>
    simp only[yc];rw[qfV k0 l hl d (i+1) n (st+1) _ (by omega) (by omega) (by simp;omega) (by omega),yl];congr 1;omega
   | false =>
    simp only[yd];rw[qfV k0 l hl d (i+1) n st _ (by omega) (by omega) (by simp;omega) (by omega),yl];rfl
 termination_by d=>d
theorem qHm:∀ (l0:LU),(qsC l0=true)→∃ n,qsK n l0=qAa (z112 l0).1 (z112 l0).2:=fun l h=>⟨l.length+1,by
 have hl:=qd h;unfold qsK;have:=qfV (qlF (l.length+1)) l hl l.length 0 (l.length+1) 0 [] (by omega) (by omega) (by show 0+l.length≤room;unfold room;omega) (by omega);rw[show ((0:Nat):Int)=0 from rfl] at this;rw[this,yw,yE];rfl⟩
theorem qML:∀ (l0:LU),(qFk l0=true)→∃ n,qRf n l0=qqx (z53 l0).1 (z53 l0).2:=fun l h=>⟨0,by
 have hl:=qd h;unfold qRf;have hb:=qmn l;rw[show qsB l=true from h,show qsC (z111 l).1=true from qn (by show (bareL l).length≤_;omega)];rfl⟩
theorem qHn:∀ (s0:LU),∃ n,qHO n s0=qHL (z110 s0):=fun s=>⟨0,by
 unfold qHO z110;match s with
 | []=>rfl
 | [x]=>rfl
 | x :: y :: r =>
  have e:z171 (x :: y :: r) [13,10]=((x==13)&&(y==10)):=by
   unfold z171;rw[dT (by simp),yc];show ([x,y]==[13,10])=_;simp[List.cons_beq_cons]
  rw[e,dT (show (0:Int) < (((x :: y :: r).length:Nat):Int) by simp;omega)];show _=qHL ((bif (x==13)&&(y==10) then 2 else 1:Nat):Int);cases (x==13) <;> cases (y==10) <;> rfl⟩
theorem refIs (c:UInt8):z136 c 2=blank c:=qMp c
theorem qjJ (k0:LU→OA):∀ (d:Nat) (s:LU) (n:Nat),s.length=d→d < n→s.length≤1048576→qqK k0 n s=k0 (dropR blank s)
 | d,s,0,hd,hn,hl=>by omega
 | d,s,n+1,hd,hn,hl=>by
  show qlM k0 (qqK k0 n) n s=_;unfold qlM qbj;rcases List.eq_nil_or_concat s with rfl | ⟨t,x,rfl⟩
  ·rfl
  ·rw[List.concat_eq_append] at *
   have hlen:(t++[x]).length=t.length+1:=by simp
   have ih:=qjJ k0 t.length t n rfl (by omega) (by omega);have hg:(t++[x]).getD (toNat (((t++[x]).length:Int) - 1)) 0=x:=by
    rw[show toNat (((t++[x]).length:Int) - 1)=t.length by omega];simp
   have ht:take (toNat (((t++[x]).length:Int) - 1)) (t++[x])=t:=by
    rw[show toNat (((t++[x]).length:Int) - 1)=t.length by omega];simp
   simp (disch:=omega) only [wr,dT,yc,yi,hg,ht,qjA,refIs];cases blank x with
   | true=>simpa using ih
   | false=>rfl
theorem qcr (k2:Bool→LU→Int→OA) (soft:Bool) (l:LU) (hl:l.length≤1048576):∀ (d i n st:Nat) (out:LU),i+d=l.length→d < n→out.length+d≤room→st+d≤1048576 →
 qlN k2 n l soft out (st:Int) (i:Int)=k2 soft (out++(qaT 0 (l.drop i)).1) ((st+(qaT 0 (l.drop i)).2:Nat):Int)
 | d,i,0,st,out,hi,hn,_,_=>by omega
 | 0,i,n+1,st,out,hi,hn,_,_=>by
  show qgE _ _ n _ _ _ _ _=_;unfold qgE qbL;rw[dF (by omega),yd,yA (by omega)];show k2 soft out st=k2 soft (out++[]) _;rw[yG];rfl
 | d+1,i,n+1,st,out,hi,hn,hb,hs=>by
  have hlt:i < l.length:=by omega
  show qgE _ _ n _ _ _ _ _=_;unfold qgE qbL z149;rw[show qiK l i 61=true from qn hl,qoE hlt,tn];cases ht:(z145 l (i:Int) 61).2 with
  | true =>
   have h3:=qtE ht;simp (disch:=(first | omega | (simp;omega))) only [dT,yc,yi];rw[show wrap .i64 ((i:Int)+2)=((i+2:Nat):Int) by rw[IntWalk.i64_in _ (by omega)];omega,qj (by omega),show i+2+1=i+3 by omega,
    qcr k2 soft l hl (d+1 - 3) (i+3) n st _ (by omega) (by omega) (by simp;omega) (by omega),yl]
   rfl
  | false =>
   simp (disch:=(first | omega | (simp;omega))) only [dT,yc,yd,yi];rw[qj (by omega),qj (by omega)];cases hq:l.getD i 0==61 with
   | true =>
    simp only[yc];rw[qcr k2 soft l hl d (i+1) n (st+1) _ (by omega) (by omega) (by simp;omega) (by omega),yl];congr 1;omega
   | false =>
    simp only[yd];rw[qcr k2 soft l hl d (i+1) n st _ (by omega) (by omega) (by simp;omega) (by omega),yl];rfl
 termination_by d=>d
theorem qMM:∀ (l0:LU),(quL l0=true)→∃ n,qFw n l0=qAv (z85 l0).1 (z85 l0).2.1 (z85 l0).2.2:=fun l h=>⟨l.length+1,by
 have hl:=qd h;unfold qFw;rw[qjJ _ l.length l _ rfl (by omega) hl];have hd:=qml blank l;unfold z85 qas z53 bareL;generalize dropR blank l=m at hd;have fin:∀ (m':LU) (soft:Bool),m'.length≤l.length→qlN (qgF (l.length+1)) (l.length+1) m' soft [] 0 0=qAv (qaT 0 m').1 soft ((qaT 0 m').2:Int):=fun m' soft hm=>by
  have:=qcr (qgF (l.length+1)) soft m' (by omega) m'.length 0 (l.length+1) 0 [] (by omega) (by omega) (by show 0+m'.length≤room;unfold room;omega) (by omega);rw[show ((0:Nat):Int)=0 from rfl] at this;rw[this,yw,yE];rfl
 unfold qgG qcH qaK;rcases List.eq_nil_or_concat m with rfl | ⟨t,x,rfl⟩
 ·rw[show decide ((0:Int) < ((([]:LU).length:Nat):Int))=false from rfl,yd,fin [] false (by simp)];rfl
 ·rw[List.concat_eq_append] at *
  have hlen:(t++[x]).length=t.length+1:=by simp
  have hg:(t++[x]).getD (toNat (((t++[x]).length:Int) - 1)) 0=x:=by
   rw[show toNat (((t++[x]).length:Int) - 1)=t.length by omega];simp
  have ht:drop (toNat ((0:Nat):Int)) (take (toNat (((t++[x]).length:Int) - 1)) (t++[x]))=t:=by
   rw[show toNat (((t++[x]).length:Int) - 1)=t.length by omega];simp
  have hs:qfB (t++[x])=(x==61):=by unfold qfB;rw[List.getLast?_append];simp
  have hdl:(t++[x]).dropLast=t:=by simp
  simp (disch:=omega) only [wr,dT,yc,yi,hg,ht,hs,hdl];cases x==61 with
  | true=>simp only[yc];rw[fin t true (by omega)]
  | false=>simp only[yd];rw[fin (t++[x]) false (by omega)]⟩
theorem qrf (c:UInt8):([13,10]:LU).contains c=isBrk c:=by
 unfold isBrk;simp only[List.contains_cons,List.contains_nil,Bool.or_false]
theorem qbs (s:LU):qJ s++qad s=s:=List.takeWhile_append_dropWhile
theorem qoF:∀ (s:LU) (i:Int),anyAt [13,10] s i=bif (qad s).isEmpty then -1 else i+((qJ s).length:Nat)
 | [],i=>rfl
 | x :: r,i=>by
  show (bif ([13,10]:LU).contains x then i else anyAt [13,10] r (i+1))=_;rw[qrf];cases hb:isBrk x with
  | true =>
   have e1:qad (x :: r)=x :: r:=by unfold qad;rw[List.dropWhile_cons,hb];rfl
   have e2:qJ (x :: r)=[]:=by unfold qJ;rw[List.takeWhile_cons,hb];rfl
   rw[e1,e2];show i=i+0;omega
  | false =>
   have e1:qad (x :: r)=qad r:=by unfold qad;rw[List.dropWhile_cons,hb];rfl
   have e2:qJ (x :: r)=x :: qJ r:=by unfold qJ;rw[List.takeWhile_cons,hb];rfl
   rw[e1,e2,yd,qoF r (i+1)];cases (qad r).isEmpty
   ·simp only[yd,yg];omega
   ·rfl
theorem qBp:∀ l:LU,brkA l≤l.length
 | []=>yv _
 | [x]=>yv _
 | x :: y :: r=>by
  show (bif (x==13)&&(y==10) then 2 else 1)≤_;simp only[yg];cases (x==13)&&(y==10) <;> simp
theorem qMN:∀ l:LU,l≠[]→0 < brkA l
 | [],h=>absurd rfl h
 | [x],_=>Nat.one_pos
 | x :: y :: r,_=>by
  show 0 < (bif (x==13)&&(y==10) then 2 else 1);cases (x==13)&&(y==10) <;> decide
theorem qie (s:LU):(qJ s).length+(endOf s).length+(qbG s).length=s.length:=by
 have h:=congrArg List.length (qbs s);rw[yn] at h;unfold endOf qbG;rw[yz,yK];have:=qBp (qad s);omega
theorem qBq (h:s≠[]):(qbG s).length < s.length:=by
 have hp:=qie s;cases hb:qad s with
 | nil =>
  have h1:=qbs s;rw[hb,yG] at h1;have:qbG s=[]:=by unfold qbG;rw[hb];rfl
  rw[this];cases s with
  | nil=>exact absurd rfl h
  | cons x r=>simp
 | cons x r =>
  have:=qMN (qad s) (by rw[hb];simp);have h2:=qBp (qad s);have h3:(endOf s).length=brkA (qad s):=by unfold endOf;rw[yz];omega
  omega
theorem anyOk (hl:s.length≤1048576):qet s [13,10]=true:=by
 unfold qet;rw[qn hl];rfl
theorem qHo (s:LU):s.take (qJ s).length=qJ s:=by
 have:=congrArg (take (qJ s).length) (qbs s);rw[List.take_left] at this;exact this.symm
theorem qHp (s:LU):s.drop (qJ s).length=qad s:=by
 have:=congrArg (drop (qJ s).length) (qbs s);rw[List.drop_left] at this;exact this.symm
theorem qkK (V:Sigma Inv) (K:Den V.1→LU→OA):∀ (m:Nat) (x:Den V.1) (s:LU),s.length≤1048576→(qjT (fun x a0 a1=>V.2.spec x [⟨(.sl .byte),a0⟩,⟨(.sl .byte),a1⟩]) m x s).1=true →
 qhl V K K m x s=K (qjT (fun x a0 a1=>V.2.spec x [⟨(.sl .byte),a0⟩,⟨(.sl .byte),a1⟩]) m x s).2.1 (qjT (fun x a0 a1=>V.2.spec x [⟨(.sl .byte),a0⟩,⟨(.sl .byte),a1⟩]) m x s).2.2
 | 0,x,s,_,h=>by cases h
 | m+1,x,s,hl,h=>by
  show qhR V K K (qhl V K K m) m x s=_;unfold qhR qbX qbW qbV qbU qaE qU qaD qaC;unfold qjT at h ⊢
  by_cases hs:s=[]
  ·subst hs;rfl
  ·have e0:s.isEmpty=false:=by cases s with
    | nil=>exact absurd rfl hs
    | cons _ _=>rfl
   have hpos:0 < s.length:=List.length_pos_iff.2 hs;rw[e0,yd] at h;rw[e0,yd,dT (show (0:Int) < ((s.length:Nat):Int) by omega),yc,anyOk hl];simp only[yi,yc];have hp:=qie s;have hb:=qBp (qad s);have hlb:=congrArg List.length (qbs s);rw[yn] at hlb;have hrl:=qBq hs;have fin:(bif (V.2.spec x [⟨(.sl .byte),qJ s⟩,⟨(.sl .byte),endOf s⟩]).1 then (bif !(V.2.spec x [⟨(.sl .byte),qJ s⟩,⟨(.sl .byte),endOf s⟩]).2.1 then K (V.2.spec x [⟨(.sl .byte),qJ s⟩,⟨(.sl .byte),endOf s⟩]).2.2 s
    else qhl V K K m (V.2.spec x [⟨(.sl .byte),qJ s⟩,⟨(.sl .byte),endOf s⟩]).2.2 (qbG s)) else none)=_:=(?_:_=K (bif (V.2.spec x [⟨(.sl .byte),qJ s⟩,⟨(.sl .byte),endOf s⟩]).1 then
     bif (V.2.spec x [⟨(.sl .byte),qJ s⟩,⟨(.sl .byte),endOf s⟩]).2.1 then qjT (fun x a0 a1=>V.2.spec x [⟨(.sl .byte),a0⟩,⟨(.sl .byte),a1⟩]) m (V.2.spec x [⟨(.sl .byte),qJ s⟩,⟨(.sl .byte),endOf s⟩]).2.2 (qbG s) else (true,(V.2.spec x [⟨(.sl .byte),qJ s⟩,⟨(.sl .byte),endOf s⟩]).2.2,s)
     else (false,x,s)).2.1 (bif (V.2.spec x [⟨(.sl .byte),qJ s⟩,⟨(.sl .byte),endOf s⟩]).1 then
     bif (V.2.spec x [⟨(.sl .byte),qJ s⟩,⟨(.sl .byte),endOf s⟩]).2.1 then qjT (fun x a0 a1=>V.2.spec x [⟨(.sl .byte),a0⟩,⟨(.sl .byte),a1⟩]) m (V.2.spec x [⟨(.sl .byte),qJ s⟩,⟨(.sl .byte),endOf s⟩]).2.2 (qbG s) else (true,(V.2.spec x [⟨(.sl .byte),qJ s⟩,⟨(.sl .byte),endOf s⟩]).2.2,s)
     else (false,x,s)).2.2)
   ·have eA:z109 s [13,10]=bif (qad s).isEmpty then (-1:Int) else (((qJ s).length:Nat):Int):=by
     unfold z109;rw[qoF];cases (qad s).isEmpty
     ·simp only[yd];omega
     ·rfl
    rw[eA];cases hbe:(qad s).isEmpty with
    | true =>
     have hbn:qad s=[]:=List.isEmpty_iff.1 hbe;have hls:qJ s=s:=by have:=qbs s;rw[hbn,yG] at this;exact this
     have eE:endOf s=[]:=by unfold endOf;rw[hbn];rfl
     have eR:qbG s=[]:=by unfold qbG;rw[hbn];rfl
     rw[eE,eR,hls] at fin;simp only[yc,tn,List.take_length,List.drop_length];rw[show z110 []=0 from rfl,Int.add_zero,wr (show -9223372036854775808≤((s.length:Nat):Int)∧((s.length:Nat):Int)≤9223372036854775807 by omega)];simp (disch:=omega) only [dT,yc,yd,yi,tn,List.take_length,List.drop_length];rw[hls,eE,eR];exact fin
    | false =>
     have eB:drop (qJ s).length s=qad s:=qHp s;simp only[yd,tn,List.take_length];rw[dF (show ¬ (((qJ s).length:Nat):Int) < 0 by omega),yd,eB,show z110 (qad s)=((brkA (qad s):Nat):Int) from rfl,
      show wrap .i64 ((((qJ s).length:Nat):Int)+((brkA (qad s):Nat):Int))=(((qJ s).length+brkA (qad s):Nat):Int) by rw[IntWalk.i64_in _ (by omega)];omega,tn]
     simp (disch:=omega) only [dT,yc,yd,yi];have eT:drop 0 (take (qJ s).length s)=qJ s:=qHo s;have eE:drop (qJ s).length (take ((qJ s).length+brkA (qad s)) s)=endOf s:=by
      unfold endOf;rw[List.drop_take,eB,Nat.add_sub_cancel_left]
     have eR:drop ((qJ s).length+brkA (qad s)) s=qbG s:=by
      unfold qbG;rw[← eB,List.drop_drop]
     rw[eT,eE,eR];exact fin
   ·cases h1:(V.2.spec x [⟨(.sl .byte),qJ s⟩,⟨(.sl .byte),endOf s⟩]).1 with
    | false=>rw[h1] at h;cases h
    | true =>
     rw[h1] at h;simp only[yc] at h ⊢;cases h2:(V.2.spec x [⟨(.sl .byte),qJ s⟩,⟨(.sl .byte),endOf s⟩]).2.1 with
     | false=>rfl
     | true =>
      rw[h2] at h;simp only[yc,Bool.not_true,yd] at h ⊢;exact qkK V K m _ (qbG s) (by omega) h
theorem qHq (V:Sigma Inv):∀ (x0:Den V.1) (x1:LU),(z108 (fun x a0 a1=>V.2.spec x [⟨(.sl .byte),a0⟩,⟨(.sl .byte),a1⟩]) x0 x1).1=true→∃ n,qzQ V n x0 x1=qjc V (z108 (fun x a0 a1=>V.2.spec x [⟨(.sl .byte),a0⟩,⟨(.sl .byte),a1⟩]) x0 x1).2.1 (z108 (fun x a0 a1=>V.2.spec x [⟨(.sl .byte),a0⟩,⟨(.sl .byte),a1⟩]) x0 x1).2.2:=fun x s h=>⟨s.length+1,by
 unfold z108 at h ⊢;cases hl:lenOk s with
 | false=>rw[hl] at h;cases h
 | true =>
  rw[hl] at h;simp only[yc] at h ⊢;exact qkK V (qjc V) (s.length+1) x s (qd hl) h⟩
theorem qkL:∀ (s cur:LU),qah false cur s=bif (qad s).isEmpty then [(cur++s,[])] else (cur++qJ s,endOf s) :: qah false [] (qbG s)
 | [],cur=>by show [(cur,[])]=[(cur++[],[])];rw[yG]
 | x :: r,cur=>by
  show (bif isBrk x then (bif (x==13)&&(r.head? == some 10) then (cur,[13,10]) :: qah true [] r else (cur,[x]) :: qah false [] r) else qah false (cur++[x]) r)=_;cases hb:isBrk x with
  | true =>
   have e1:qad (x :: r)=x :: r:=by unfold qad;rw[List.dropWhile_cons,hb];rfl
   have e2:qJ (x :: r)=[]:=by unfold qJ;rw[List.takeWhile_cons,hb];rfl
   unfold endOf qbG;rw[e1,e2,yG];simp only[yc,List.isEmpty_cons,yd];cases r with
   | nil =>
    have:((x==13)&&(([]:LU).head? == some 10))=false:=by simp
    rw[this];rfl
   | cons y r' =>
    show (bif (x==13)&&(some y==some 10) then _ else _)=(cur,(x :: y :: r').take (bif (x==13)&&(y==10) then 2 else 1)) :: qah false [] ((x :: y :: r').drop (bif (x==13)&&(y==10) then 2 else 1));rw[show (some y==some (10:UInt8))=(y==10) from rfl];cases h1:x==13 with
    | false=>rfl
    | true =>
     cases h2:y==10 with
     | false=>rfl
     | true =>
      simp only[beq_iff_eq] at h1 h2;subst h1 h2;rfl
  | false =>
   have e1:qad (x :: r)=qad r:=by unfold qad;rw[List.dropWhile_cons,hb];rfl
   have e2:qJ (x :: r)=x :: qJ r:=by unfold qJ;rw[List.takeWhile_cons,hb];rfl
   have e3:endOf (x :: r)=endOf r:=by unfold endOf;rw[e1]
   have e4:qbG (x :: r)=qbG r:=by unfold qbG;rw[e1]
   rw[yd,qkL r (cur++[x]),e1,e2,e3,e4];simp
theorem qdL (l:LU):(z53 l).1.length≤l.length:=yL (qfU 0 (bareL l)).1 (qmn l)
theorem qrg (l:LU):qas l≤l.length:=yL (qfU 0 (bareL l)).2 (qmn l)
def readG (s:LU):LU:=(qah false [] s).flatMap qcQ
theorem qvi (h:qad s=[]):qJ s=s∧endOf s=[]∧qbG s=[]:=by
 refine⟨?_,?_,?_⟩
 ·have:=qbs s;rw[h,yG] at this;exact this
 ·unfold endOf;rw[h];rfl
 ·unfold qbG;rw[h];rfl
theorem qoG (s:LU):readG s=qcQ (qJ s,endOf s)++readG (qbG s):=by
 unfold readG;rw[qkL s []];cases hb:(qad s).isEmpty with
 | true =>
  obtain⟨h1,h2,h3⟩:=qvi (List.isEmpty_iff.1 hb);rw[h1,h2,h3];show [(s,[])].flatMap qcQ=qcQ (s,[])++[([],[])].flatMap qcQ;simp only[List.flatMap_cons,List.flatMap_nil];rfl
 | false=>rfl
theorem qoH (l e:LU):(qcQ (l,e)).length≤l.length+e.length:=by
 unfold qcQ;rw[yn];have:=qdL l;cases (z53 l).2
 ·simp only[yd];omega
 ·simp only[yc,List.length_nil];omega
theorem qtF:∀ (n:Nat) (s:LU),s.length≤n→(readG s).length≤s.length
 | n,[],_=>yv _
 | 0,x :: r,h=>by simp at h
 | n+1,x :: r,h=>by
  have hr:=qBq (s:=x :: r) (by simp);have hp:=qie (x :: r);have ih:=qtF n (qbG (x :: r)) (by omega);rw[qoG,yn];have:=qoH (qJ (x :: r)) (endOf (x :: r));omega
theorem qBr (n:Nat) (out l e:LU) (hl:l.length≤1048576) (hr:out.length+l.length+e.length≤room) :
 qqy n (false,(out,())) l e=(true,true,(false,(out++qcQ (l,e),()))):=by
 unfold qqy;have h1:=qdL l;have ok:qFk l=true:=qn hl;simp only[yd];rw[ok];simp (disch:=omega) only [yi,yc,dT];unfold qcQ;cases (z53 l).2 with
 | true =>
  simp only[Bool.not_true,yd,yc,yG];rw[qhJ];rfl
 | false =>
  simp only[Bool.not_false,yc,yd];rw[dT (by rw[yn];omega),yc,qhJ,yl];rfl
theorem qBs (k:Nat):∀ (m:Nat) (s out:LU),s.length < m→s.length≤1048576→out.length+s.length≤room→qjT (qqy k) m (false,(out,())) s=(true,(false,(out++readG s,())),[])
 | 0,s,out,h,_,_=>by omega
 | m+1,[],out,_,_,_=>by
  show (true,(false,(out,())),[])=_;rw[show readG []=[] from rfl,yG]
 | m+1,x :: r,out,h,hl,hr=>by
  have hlt:=qBq (s:=x :: r) (by simp);have hp:=qie (x :: r);have hrd:=qoH (qJ (x :: r)) (endOf (x :: r));unfold qjT;rw[show (x :: r).isEmpty=false from rfl,yd,qBr k out _ _ (by omega) (by omega)];simp only[yc];rw[qBs k m (qbG (x :: r)) _ (by omega) (by omega) (by rw[yn];omega),qoG (x :: r),yl]
theorem qMO:∀ (s0:LU),(qFl s0=true)→∃ n,qLB n s0=qzR (z27 s0):=fun s h=>⟨0,by
 have hl:=qd h;unfold qLB;have e:z108 (qqy 0) (false,(([]:LU),())) s=(true,(false,(readG s,())),[]):=by
  unfold z108;rw[show lenOk s=true from h,yc,qBs 0 (s.length+1) s [] (by omega) hl (by show 0+s.length≤room;unfold room;omega)];rfl
 rw[e];rfl⟩
theorem qBt (s:LU):(z27 s).length≤s.length:=qtF s.length s (yv _)
theorem qvj (cur:LU) (x:UInt8) (r:LU):qah true cur (x :: r)=qah false cur r:=rfl
theorem qHr (cur:LU):(qah false cur []).flatMap qcQ=(z53 cur).1:=by
 show [(cur,[])].flatMap qcQ=_;simp only[List.flatMap_cons,List.flatMap_nil,yG];unfold qcQ;cases (z53 cur).2 <;> simp
theorem qdc (k0:LU→Int→OA) (s:LU) (hl:s.length≤1048576):∀ (d i n st:Nat) (out line:LU),i+d=s.length→d+1 < n→line.length≤i→out.length+line.length+d≤1048576→st+line.length+d≤1048576 →
 qjU k0 n s out line (st:Int) (i:Int)=k0 (out++(qah false line (s.drop i)).flatMap qcQ) ((st+qcR (qah false line (s.drop i)):Nat):Int)
 | d,i,0,st,out,line,hi,hn,_,_,_=>by omega
 | d,i,n+1,st,out,line,hi,hn,hli,hb,hs=>by
  have hLine:quL line=true:=qn (by omega);have hlen:(z85 line).1.length≤line.length:=qdL line;have hstr:=qrg line;have hw:wrap .i64 ((st:Int)+(z85 line).2.2)=((st+qas line:Nat):Int):=by
   rw[show (z85 line).2.2=((qas line:Nat):Int) from rfl,IntWalk.i64_in _ (by omega)];omega
  show qlO _ _ n _ _ _ _ _=_;unfold qlO qec qbk qeb qag qaf qC qE qL qg qcI;rw[hLine,hw,tn,dT (show (i:Int)≤((s.length:Nat):Int) by omega),yc];have hroom:room=1073741824:=rfl;cases d with
  | zero =>
   have he:i=s.length:=by omega
   subst he;rw[dF (by omega),yd,List.drop_length,qHr];simp (disch:=omega) only [dT,yc,yi];rw[show (((s.length:Nat):Int)==((s.length:Nat):Int))=true by simp,yc];rfl
  | succ d =>
   have hlt:i < s.length:=by omega
   have hne:((i:Int)==((s.length:Nat):Int))=false:=by simp;omega
   rw[dT (show (i:Int) < ((s.length:Nat):Int) by omega),hne];simp (disch:=omega) only [dT,yc,yd,yi];rw[qj (by omega),tn,qG (d:=(0:UInt8)) hlt];have hstep:qah false line (s.getD i 0 :: s.drop (i+1))=bif isBrk (s.getD i 0) then
    bif (s.getD i 0==13)&&((s.drop (i+1)).head? == some 10) then (line,[13,10]) :: qah true [] (s.drop (i+1)) else (line,[s.getD i 0]) :: qah false [] (s.drop (i+1))
    else qah false (line++[s.getD i 0]) (s.drop (i+1)):=rfl
   have h2:∀ (h2:i+1 < s.length),((s.drop (i+1)).head? == some 10)=(s.getD (i+1) 0==10):=fun h2=>by
    rw[qG (d:=(0:UInt8)) h2];rfl
   have h3:¬ i+1 < s.length→((s.drop (i+1)).head? == some (10:UInt8))=false:=fun h3=>by rw[yA (by omega)];rfl
   rw[hstep];generalize hc:s.getD i 0=c;have goLine:∀ (h13:(c != 13)=true) (h10:(c != 10)=true),isBrk c=false:=fun h13 h10=>by
    unfold isBrk;simp only[bne,Bool.not_eq_true'] at h13 h10;rw[h13,h10];rfl
   have go1:∀ out',out'.length≤out.length+line.length+1→qjU k0 n s out' [] ((st+qas line:Nat):Int) ((i+1:Nat):Int)=k0 (out'++(qah false [] (s.drop (i+1))).flatMap qcQ) ((st+qas line+qcR (qah false [] (s.drop (i+1))):Nat):Int) :=
    fun out' ho=>qdc k0 s hl d (i+1) n (st+qas line) out' [] (by omega) (by omega) (by simp) (by simp only[List.length_nil];omega) (by simp only[List.length_nil];omega)
   have fin1:isBrk c=true→((c==13)&&((s.drop (i+1)).head? == some 10))=false →
    (bif !((z85 line).2.1) then (bif decide (List.length (out++(z85 line).1)+List.length [c]≤room) then qjU k0 n s (out++(z85 line).1++[c]) [] ((st+qas line:Nat):Int) ((i+1:Nat):Int) else none)
     else qjU k0 n s (out++(z85 line).1) [] ((st+qas line:Nat):Int) ((i+1:Nat):Int)) =
    k0 (out++List.flatMap qcQ (bif isBrk c then bif (c==13)&&((s.drop (i+1)).head? == some 10) then (line,[13,10]) :: qah true [] (s.drop (i+1)) else (line,[c]) :: qah false [] (s.drop (i+1)) else qah false (line++[c]) (s.drop (i+1))))
     ((st+qcR (bif isBrk c then bif (c==13)&&((s.drop (i+1)).head? == some 10) then (line,[13,10]) :: qah true [] (s.drop (i+1)) else (line,[c]) :: qah false [] (s.drop (i+1)) else qah false (line++[c]) (s.drop (i+1))):Nat):Int):=fun k1 k2=>by
    rw[k1,k2];simp only[yc,yd,List.flatMap_cons];have es:qcR ((line,[c]) :: qah false [] (s.drop (i+1)))=qas line+qcR (qah false [] (s.drop (i+1))):=rfl;rw[es,← yS];have er:qcQ (line,[c])=(z85 line).1++(bif (z85 line).2.1 then [] else [c]):=rfl;rw[er];cases (z85 line).2.1 with
    | true =>
     simp only[Bool.not_true,yd,yc,yG];rw[go1 _ (by rw[yn];omega),yl]
    | false =>
     simp only[Bool.not_false,yc,yd];rw[dT (by simp only[yn,yg,List.length_nil];omega),yc,go1 _ (by simp only[yn,yg,List.length_nil];omega)];simp only[yl]
   by_cases h13:c=13
   ·subst h13;rw[show ((13:UInt8) != 13)=false from rfl,yd,show ((13:UInt8)==13)=true from rfl,yc]
    by_cases hlt2:i+1 < s.length
    ·rw[dT (show ((i+1:Nat):Int) < ((s.length:Nat):Int) by omega),yc,qj (by omega)];simp (disch:=omega) only [dT,yc,yi];cases h10:s.getD (i+1) 0==10 with
     | true =>
      simp only[yc];have e1:s.drop (i+1)=s.getD (i+1) 0 :: s.drop (i+1+1):=qG (d:=(0:UInt8)) hlt2;rw[h2 hlt2,h10];simp only[yi,yc,show isBrk 13=true from rfl,show ((13:UInt8)==13)=true from rfl];rw[e1,qvj];obtain⟨d',rfl⟩:∃ d',d=d'+1:=⟨d - 1,by omega⟩;have go2:∀ out',out'.length≤out.length+line.length+2→qjU k0 n s out' [] ((st+qas line:Nat):Int) ((i+1+1:Nat):Int)=k0 (out'++(qah false [] (s.drop (i+1+1))).flatMap qcQ) ((st+qas line+qcR (qah false [] (s.drop (i+1+1))):Nat):Int) :=
       fun out' ho=>qdc k0 s hl d' (i+1+1) n (st+qas line) out' [] (by omega) (by omega) (by simp) (by simp only[List.length_nil];omega) (by simp only[List.length_nil];omega)
      have es:qcR ((line,[13,10]) :: qah false [] (s.drop (i+1+1)))=qas line+qcR (qah false [] (s.drop (i+1+1))):=rfl;rw[es,← yS,List.flatMap_cons,show qcQ (line,[13,10])=(z85 line).1++(bif (z85 line).2.1 then [] else [13,10]) from rfl];cases (z85 line).2.1 with
      | true =>
       simp only[Bool.not_true,yd,yc,yG];rw[go2 _ (by rw[yn];omega),yl]
      | false =>
       simp only[Bool.not_false,yc,yd];rw[dT (by simp only[yn,yg,List.length_nil];omega),yc,dT (by simp only[yn,yg,List.length_nil];omega),yc,go2 _ (by simp only[yn,yg,List.length_nil];omega)];simp only[yl];rfl
     | false =>
      simp only[yd];exact fin1 rfl (by rw[h2 hlt2,h10];rfl)
    ·rw[dF (show ¬ ((i+1:Nat):Int) < ((s.length:Nat):Int) by omega),yd];exact fin1 rfl (by rw[h3 hlt2];rfl)
   ·have e13:(c==13)=false:=by simp[h13]
    have n13:(c != 13)=true:=by simp[bne,h13]
    rw[n13,yc,e13]
    by_cases h10:c=10
    ·subst h10;rw[show ((10:UInt8) != 10)=false from rfl,yd,yd];exact fin1 rfl rfl
    ·have n10:(c != 10)=true:=by simp[bne,h10]
     rw[n10,yc,dT (by simp only[yg,List.length_nil];omega),yc,goLine n13 n10,yd];exact qdc k0 s hl d (i+1) n st out (line++[c]) (by omega) (by omega) (by simp;omega) (by simp only[yn,yg,List.length_nil];omega) (by simp only[yn,yg,List.length_nil];omega)
 termination_by d=>d
theorem qMP:∀ (s0:LU),(qFm s0=true)→∃ n,qFx n s0=qAa (z40 s0).1 (z40 s0).2:=fun s h=>⟨s.length+2,by
 have hl:=qd h;unfold qFx;have:=qdc (qqL (s.length+2)) s hl s.length 0 (s.length+2) 0 [] [] (by omega) (by omega) (yv _) (by simp only[List.length_nil];omega) (by simp only[List.length_nil];omega);rw[show ((0:Nat):Int)=0 from rfl] at this;rw[this,yw,yE];rfl⟩
end
end Go.Av
