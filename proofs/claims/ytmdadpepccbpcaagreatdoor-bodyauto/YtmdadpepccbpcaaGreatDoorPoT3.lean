import Derived.Test.YtmdadpepccbpcaaGreatDoorPoT
namespace Go.Av
set_option linter.unusedSimpArgs false
set_option linter.unusedVariables false
section
open Int (toNat)
open UInt8 (ofNat)
open IntKind (wrap)
theorem qJO:∀ (c0:UInt8),∃ n,qUI n c0=qjk (z175 c0).1 (z175 c0).2:=fun c=>⟨0,by
 show qjk (bif decide (Lib.indexByte b64D c < 0) then 0 else Lib.indexByte b64D c) (decide (0≤Lib.indexByte b64D c))=_;unfold z175
 by_cases h:Lib.indexByte b64D c < 0
 ·rw[dT h,dF (by omega)];rfl
 ·rw[dF h,dT (by omega)];rfl⟩
theorem u8_of (k:Nat):ofNat (toNat (wrap .u8 (k:Int)))=ofNat k:=by
 have:wrap .u8 (k:Int)=((k % 256:Nat):Int):=by
  rw[IntKind.wrap_u8];omega
 rw[this,Int.toNat_natCast];apply UInt8.toNat_inj.1;show (k % 256) % 256=k % 256;omega
def decT {R:Type} (K:LU→Int→Int→R) (N:R) (out:LU) (held many v:Int):R :=
 bif (decide ((8:Int)≤(wrap .i64 (many+(6:Int))))) then
  bif (decide ((0:Int)≤(wrap .i64 ((wrap .i64 (many+(6:Int))) - (8:Int))))) then
   bif (decide (List.length out+List.length ([(ofNat (toNat (wrap .u8 (Int.fdiv (bits .or .i64 (wrap .i64 (held*2 ^ (min (toNat (6:Int)) (IntKind.bits .i64)))) v) (2 ^ (min (toNat (wrap .i64 ((wrap .i64 (many+(6:Int))) - (8:Int)))) (IntKind.bits .i64)))))))]:LU)≤room)) then
    bif (decide ((0:Int)≤(wrap .i64 ((wrap .i64 (many+(6:Int))) - (8:Int))))) then
     K (out++([(ofNat (toNat (wrap .u8 (Int.fdiv (bits .or .i64 (wrap .i64 (held*2 ^ (min (toNat (6:Int)) (IntKind.bits .i64)))) v) (2 ^ (min (toNat (wrap .i64 ((wrap .i64 (many+(6:Int))) - (8:Int)))) (IntKind.bits .i64)))))))]:LU)) (bits .and .i64 (bits .or .i64 (wrap .i64 (held*2 ^ (min (toNat (6:Int)) (IntKind.bits .i64)))) v) (wrap .i64 ((wrap .i64 ((1:Int)*2 ^ (min (toNat (wrap .i64 ((wrap .i64 (many+(6:Int))) - (8:Int)))) (IntKind.bits .i64)))) - (1:Int)))) (wrap .i64 ((wrap .i64 (many+(6:Int))) - (8:Int)))
    else N
   else N
  else N
 else
  K out (bits .or .i64 (wrap .i64 (held*2 ^ (min (toNat (6:Int)) (IntKind.bits .i64)))) v) (wrap .i64 (many+(6:Int)))
theorem held6 (h n:Nat) (hh:h < 64) (hn:n < 64):bits .or .i64 (wrap .i64 ((h:Int)*2 ^ (min (toNat (6:Int)) (IntKind.bits .i64)))) (n:Int)=((h*64+n:Nat):Int):=by
 have e:wrap .i64 ((h:Int)*2 ^ (min (toNat (6:Int)) (IntKind.bits .i64)))=((h*2 ^ 6:Nat):Int):=by
  show wrap .i64 ((h:Int)*64)=_;rw[IntWalk.i64_in _ (by omega)];omega
 rw[e,qVy h n 6 (by omega) (by omega)]
theorem qVE {R:Type} (K:LU→Int→Int→R) (N:R) (out:LU) (h m n:Nat) (hm:m=0∨m=2∨m=4∨m=6) (hh:h < 2 ^ m) (hn:n < 64) (ho:out.length+1≤room) :
 decT K N out (h:Int) (m:Int) (n:Int)=K (out++decO m h n) (decH m h n:Nat) (decM m:Nat):=by
 have hh6:h < 64:=by rcases hm with rfl | rfl | rfl | rfl <;> omega
 unfold decT;rw[held6 h n hh6 hn];rcases hm with rfl | rfl | rfl | rfl
 ·obtain rfl:h=0:=by omega
  rw[show decide ((8:Int)≤wrap .i64 (((0:Nat):Int)+6))=false from rfl,yd,Nat.zero_mul,yE];show K out _ 6=K (out++[]) _ 6;rw[yG];rfl
 ·rw[show decide ((8:Int)≤wrap .i64 (((2:Nat):Int)+6))=true from rfl,yc,show wrap .i64 (wrap .i64 (((2:Nat):Int)+6) - 8)=((0:Nat):Int) from rfl,dT (by omega),yc,yc];have e1:Int.fdiv ((h*64+n:Nat):Int) (2 ^ (min (toNat ((0:Nat):Int)) (IntKind.bits .i64)))=(((h*64+n) / 2 ^ 0:Nat):Int):=fdivN _ 1;have e2:wrap .i64 (wrap .i64 ((1:Int)*2 ^ (min (toNat ((0:Nat):Int)) (IntKind.bits .i64))) - 1)=((2 ^ 0 - 1:Nat):Int):=rfl;rw[e1,e2,u8_of,qla _ 0 (by omega) (by decide),dT (show out.length+[_].length≤room from ho),yc];rfl
 ·rw[show decide ((8:Int)≤wrap .i64 (((4:Nat):Int)+6))=true from rfl,yc,show wrap .i64 (wrap .i64 (((4:Nat):Int)+6) - 8)=((2:Nat):Int) from rfl,dT (by omega),yc,yc];have e1:Int.fdiv ((h*64+n:Nat):Int) (2 ^ (min (toNat ((2:Nat):Int)) (IntKind.bits .i64)))=(((h*64+n) / 2 ^ 2:Nat):Int):=fdivN _ 4;have e2:wrap .i64 (wrap .i64 ((1:Int)*2 ^ (min (toNat ((2:Nat):Int)) (IntKind.bits .i64))) - 1)=((2 ^ 2 - 1:Nat):Int):=rfl;rw[e1,e2,u8_of,qla _ 2 (by omega) (by decide),dT (show out.length+[_].length≤room from ho),yc];rfl
 ·rw[show decide ((8:Int)≤wrap .i64 (((6:Nat):Int)+6))=true from rfl,yc,show wrap .i64 (wrap .i64 (((6:Nat):Int)+6) - 8)=((4:Nat):Int) from rfl,dT (by omega),yc,yc];have e1:Int.fdiv ((h*64+n:Nat):Int) (2 ^ (min (toNat ((4:Nat):Int)) (IntKind.bits .i64)))=(((h*64+n) / 2 ^ 4:Nat):Int):=fdivN _ 16;have e2:wrap .i64 (wrap .i64 ((1:Int)*2 ^ (min (toNat ((4:Nat):Int)) (IntKind.bits .i64))) - 1)=((2 ^ 4 - 1:Nat):Int):=rfl;rw[e1,e2,u8_of,qla _ 4 (by omega) (by decide),dT (show out.length+[_].length≤room from ho),yc];rfl
theorem qQp (m h n:Nat):(decO m h n).length≤1:=by
 unfold decO;cases m==0
 ·exact yv 1
 ·exact Nat.zero_le 1
theorem qDp {σ:Type} (sp:Bool×Bool×σ) (x:σ) (R N:σ→OA) (E:σ→Bool×σ) (hN:∀ y,(E y).1=true→N y=R (E y).2) (h:(bif sp.1 then bif sp.2.1 then E sp.2.2 else (true,sp.2.2) else (false,x)).1=true) :
 (bif sp.1 then bif (!sp.2.1) then R sp.2.2 else N sp.2.2 else none)=R (bif sp.1 then bif sp.2.1 then E sp.2.2 else (true,sp.2.2) else (false,x)).2:=by
 obtain⟨a,b,y⟩:=sp;cases a with
 | false=>cases h
 | true =>
  cases b with
  | false=>rfl
  | true=>exact hN y h
theorem quW (V:Sigma Inv) (j:Nat) (s s29:LU) (hl:s.length≤1048576):∀ (d i n:Nat) (x:Den V.1),i+d=s.length→d < n→(eachB (fun x a0 a1=>V.2.spec x [⟨.byte,a0⟩,⟨(.int .i64),a1⟩]) x (s.drop i)).1=true →
 qhv V (qji V) (qfN V j) n s (s.length:Nat) (i:Nat) x s29=qji V (eachB (fun x a0 a1=>V.2.spec x [⟨.byte,a0⟩,⟨(.int .i64),a1⟩]) x (s.drop i)).2 s29
 | d,i,0,x,hi,hn,_=>by omega
 | 0,i,n+1,x,hi,hn,h=>by
  obtain rfl:i=s.length:=by omega
  show qeh V _ _ _ n _ _ _ _ _=_;unfold qeh qp;rw[dF (by omega),yd,List.drop_length];rfl
 | d+1,i,n+1,x,hi,hn,h=>by
  show qeh V _ _ (qhv V (qji V) (qfN V j) n) n _ _ _ _ _=_;unfold qeh qp;have hlt:i < s.length:=by omega
  have e:eachB (fun x a0 a1=>V.2.spec x [⟨.byte,a0⟩,⟨(.int .i64),a1⟩]) x (s.drop i)=bif s.getD i 0==61 then (true,x) else
   bif (V.2.spec x [⟨.byte,s.getD i 0⟩,⟨(.int .i64),(bif (z175 (s.getD i 0)).2 then (z175 (s.getD i 0)).1 else -1)⟩]).1 then
    bif (V.2.spec x [⟨.byte,s.getD i 0⟩,⟨(.int .i64),(bif (z175 (s.getD i 0)).2 then (z175 (s.getD i 0)).1 else -1)⟩]).2.1 then
     eachB (fun x a0 a1=>V.2.spec x [⟨.byte,a0⟩,⟨(.int .i64),a1⟩]) (V.2.spec x [⟨.byte,s.getD i 0⟩,⟨(.int .i64),(bif (z175 (s.getD i 0)).2 then (z175 (s.getD i 0)).1 else -1)⟩]).2.2 (s.drop (i+1))
    else (true,(V.2.spec x [⟨.byte,s.getD i 0⟩,⟨(.int .i64),(bif (z175 (s.getD i 0)).2 then (z175 (s.getD i 0)).1 else -1)⟩]).2.2)
   else (false,x):=by
   rw[qbD hlt];rfl
  rw[e] at h ⊢;simp (disch:=omega) only [dT,yc,yi,tn];cases h61:s.getD i 0==61 with
  | true=>rfl
  | false =>
   rw[h61] at h;rw[yd] at h ⊢;rw[yd];have hN:∀ y,(eachB (fun x a0 a1=>V.2.spec x [⟨.byte,a0⟩,⟨(.int .i64),a1⟩]) y (s.drop (i+1))).1=true→qhv V (qji V) (qfN V j) n s (s.length:Nat) (wrap .i64 (((i:Nat):Int)+1)) y s29=qji V (eachB (fun x a0 a1=>V.2.spec x [⟨.byte,a0⟩,⟨(.int .i64),a1⟩]) y (s.drop (i+1))).2 s29:=fun y hy=>by
    rw[qd (by omega)];exact quW V j s s29 hl d (i+1) n y (by omega) (by omega) hy
   cases hv:(z175 (s.getD i 0)).2 with
   | true =>
    rw[hv] at h;exact qDp (V.2.spec x [⟨.byte,s.getD i 0⟩,⟨(.int .i64),(z175 (s.getD i 0)).1⟩]) x (fun y=>qji V y s29) _ _ hN h
   | false =>
    rw[hv] at h;exact qDp (V.2.spec x [⟨.byte,s.getD i 0⟩,⟨(.int .i64),-1⟩]) x (fun y=>qji V y s29) _ _ hN h
theorem qJP (V:Sigma Inv):∀ (x0:Den V.1) (x1:LU),(z174 (fun x a0 a1=>V.2.spec x [⟨.byte,a0⟩,⟨(.int .i64),a1⟩]) x0 x1).1=true→∃ n,qua V n x0 x1=qji V (z174 (fun x a0 a1=>V.2.spec x [⟨.byte,a0⟩,⟨(.int .i64),a1⟩]) x0 x1).2.1 (z174 (fun x a0 a1=>V.2.spec x [⟨.byte,a0⟩,⟨(.int .i64),a1⟩]) x0 x1).2.2:=fun x s h=>⟨s.length+1,by
 unfold z174 at h ⊢;cases hk:lenOk s with
 | false=>rw[hk] at h;cases h
 | true =>
  rw[hk,yc] at h;rw[yc];unfold qua;have:=quW V (s.length+1) s s (qb hk) s.length 0 (s.length+1) x (by omega) (by omega) (by rw[yw];exact h);rw[yw] at this;exact this⟩
theorem qQq (j:Nat) (c:UInt8) (out:LU) (h m:Int):qoV j (false,(out,(h,(m,())))) c (-1)=(true,true,(false,(out,(h,(m,()))))):=by
 unfold qoV;rw[show decide ((-1:Int) < 0)=true from rfl,yc];show (bif false then _ else yfin _ _ _)=_;rw[yd,qhU];rfl
theorem qJQ (j:Nat) (c:UInt8) (out:LU) (h m n:Nat) (hm:m=0∨m=2∨m=4∨m=6) (hh:h < 2 ^ m) (hn:n < 64) (ho:out.length+1≤room) :
 qoV j (false,(out,((h:Int),((m:Int),())))) c (n:Int)=(true,true,(false,(out++decO m h n,(((decH m h n:Nat):Int),(((decM m:Nat):Int),()))))):=by
 unfold qoV;rw[dF (show ¬ (n:Int) < 0 by omega),yd];have hs:=qVE (fun o (h m:Int)=>(some (.dat (.pair .bool (.pair (.sl .byte) (.pair (.int .i64) (.pair (.int .i64) .unit)))) (false,(o,(h,(m,())))) none):OA)) none out h m n hm hh hn ho;refine(show _=yfin (.pair (.sl .byte) (.pair (.int .i64) (.pair (.int .i64) .unit))) (false,(out,((h:Int),((m:Int),())))) (decT (fun o (h m:Int)=>(some (.dat (.pair .bool (.pair (.sl .byte) (.pair (.int .i64) (.pair (.int .i64) .unit)))) (false,(o,(h,(m,())))) none):OA)) none out h m n) from rfl).trans ?_;rw[hs,qhU];rfl
theorem qjU (j:Nat):∀ (s t out:LU) (h m:Nat),DecSt t out m h→out.length+s.length≤1048576 →
 ∃ (out':LU) (h' m':Nat),eachB (qoV j) (false,(out,((h:Int),((m:Int),())))) s=(true,(false,(out',((h':Int),((m':Int),())))))∧DecSt (t++digB s) out' m' h'
 | [],t,out,h,m,e,_=>⟨out,h,m,rfl,by rw[show digB []=[] from rfl,yG];exact e⟩
 | c :: r,t,out,h,m,e,hl=>by
  rw[qcp];simp only[yg] at hl;cases h61:c==61 with
  | true =>
   refine⟨out,h,m,?_,by rw[yc,yG];exact e⟩;show (bif c==61 then _ else _)=_;rw[h61];rfl
  | false =>
   rw[yd];cases hv:(z175 c).2 with
   | false =>
    rw[show isB64 c=false from hv,yd];obtain⟨out',h',m',k1,k2⟩:=qjU j r t out h m e (by omega);refine⟨out',h',m',?_,k2⟩;unfold eachB;rw[h61,yd,hv,yd,qQq,← k1];rfl
   | true =>
    obtain⟨v,hv1,hv2⟩:=qMd c;rw[show isB64 c=true from hv,yc];have hd:=qQp m h v;obtain⟨out',h',m',k1,k2⟩:=qjU j r (t++[c]) (out++decO m h v) (decH m h v) (decM m) (e.step c v hv1 hv2) (by rw[yn];omega);refine⟨out',h',m',?_,by rw[yl] at k2;exact k2⟩;unfold eachB;rw[h61,yd,hv,yc,hv1,qJQ j c out h m v e.cases e.lt hv2 (by unfold room;omega),← k1];rfl
theorem qQr:∀ (s0:LU),(qEX s0=true)→∃ n,qPh n s0=qBM (z54 s0).1 (z54 s0).2:=fun s h=>⟨0,by
 have hl:=qb h;obtain⟨out,hh,m,k1,k2⟩:=qjU 0 s [] [] 0 0 DecSt.nil (by simpa using hl);have k3:=k2.octets;rw[List.nil_append] at k3;have e:z174 (qoV 0) (false,(([]:LU),((0:Int),((0:Int),())))) s=(true,(false,(out,((hh:Int),((m:Int),())))),s):=by
  unfold z174;rw[show lenOk s=true from h,yc];have k1':eachB (qoV 0) (false,(([]:LU),((0:Int),((0:Int),())))) s=(true,(false,(out,((hh:Int),((m:Int),()))))):=k1;rw[k1']
 unfold qPh qic qfO;rw[e];simp only[yc,yd,qDY];unfold z54;rw[k3.1,k3.2.1]⟩
theorem qQs:∀ (s0:LU),(qEY s0=true)→∃ n,qUK n s0=qBD (z28 s0):=fun s h=>⟨0,by
 unfold qUK;rw[show qEX s=true from h];rfl⟩
theorem quX {α:Type} (pre:List α) (c d:α):List.getD (pre++[c]) pre.length d=c:=by simp
theorem qQt {α:Type} (pre:List α) (c y:α):List.set (pre++[c]) pre.length y=pre++[y]:=by
 rw[List.set_append_right _ _ (yv _),Nat.sub_self];rfl
theorem qfX (cur:LU):qaL cur []=[cur]:=rfl
theorem qeD (cur:LU) (c:UInt8) (r:LU):qaL cur (c :: r)=if c=13∧r.head? = some 10 then cur :: qaL [] (r.drop 1) else qaL (cur++[c]) r:=by
 have h:lineB true [] r=qaL [] (r.drop 1):=by cases r <;> rfl
 unfold qaL;rw[show lineB false cur (c :: r)=if c=13∧r.head? = some 10 then cur :: lineB true [] r else lineB false (cur++[c]) r from rfl,h];rfl
theorem qng {s:LU} {i:Nat}:(s.drop i).head? = some 10↔(i < s.length∧s.getD i 0=10):=by
 rw[List.head?_drop];constructor
 ·intro h;obtain⟨h1,h2⟩:=List.getElem?_eq_some_iff.1 h;exact⟨h1,by simp[List.getD,h1,h2]⟩
 ·intro ⟨h1,h2⟩;simp[List.getD,h1] at h2;rw[yO h1,h2]
theorem qDq (k0:List LU→OA) (s:LU) (hl:s.length≤1048576):∀ (d i n:Nat) (pre:List LU) (cur:LU),i+d=s.length→d < n→pre.length+d≤1048576→cur.length+d≤1048576 →
 qhB k0 n s (pre++[cur]) (i:Nat)=k0 (pre++qaL cur (s.drop i)):=by
 intro d;induction d using Nat.strongRecOn with
 | ind d ih =>
  intro i n pre cur hi hn hp hc;cases n with
  | zero=>omega
  | succ n =>
   show qik k0 (qhB k0 n) n _ _ _=_;unfold qik qde qcc qdd qdc qaB qah
   by_cases hlt:i < s.length
   ·have hlen:(pre++[cur]).length=pre.length+1:=by simp
    have hw:wrap .i64 (((pre++[cur]).length:Int) - 1)=((pre.length:Nat):Int):=by rw[wr (by omega)];omega
    rw[qr (d:=(0:UInt8)) hlt,qeD];have one:qhB k0 n s (pre++[cur++[s.getD i 0]]) ((i+1:Nat):Int)=k0 (pre++qaL (cur++[s.getD i 0]) (s.drop (i+1))):=ih (d - 1) (by omega) (i+1) n pre _ (by omega) (by omega) (by omega) (by simp;omega);have hr:decide ((cur.length:Nat)+([s.getD i 0]:LU).length≤room)=true:=dT (by unfold room;simp;omega);have h13:(s.getD i 0==13)=decide (s.getD i 0=13):=rfl;rw[hw];simp (disch:=omega) only [dT,yc,yi,tn,qd,quX,qQt,hr,h13,beq_self_eq_true]
    by_cases h1:s.getD i 0=13
    ·rw[yo h1,yc]
     by_cases h2:i+1 < s.length
     ·simp (disch:=omega) only [dT,yc,yi,tn,qd]
      by_cases h3:s.getD (i+1) 0=10
      ·rw[show (s.getD (i+1) 0==10)=true from beq_iff_eq.2 h3,yc,if_pos ⟨h1,qng.2 ⟨h2,h3⟩⟩,dT (show (pre++[cur]).length+([[]]:List LU).length≤room by unfold room;simp;omega),yc,List.drop_drop];have:=ih (d - 2) (by omega) (i+2) n (pre++[cur]) [] (by omega) (by omega) (by simp;omega) (by simp;omega);refine Eq.trans this ?_;rw[yl,List.singleton_append]
      ·rw[show (s.getD (i+1) 0==10)=false from beq_eq_false_iff_ne.2 h3,yd,if_neg (fun h=>h3 (qng.1 h.2).2)];exact one
     ·rw[dF (by omega),yd,if_neg (fun h=>h2 (qng.1 h.2).1)];exact one
    ·rw[yx h1,yd,if_neg (fun h=>h1 h.1)];exact one
   ·rw[dF (by omega),yd,yA (by omega)];rfl
theorem qnh:∀ (s cur:LU),qaL cur s≠[]
 | [],cur=>by simp[qfX]
 | c :: r,cur=>by
  rw[qeD];split
  ·simp
  ·exact qnh r _
theorem qhG:∀ (pre:List LU) (x:LU),qbs (pre++[x])=if x=[] then (pre,true) else (pre++[x],false)
 | [],x=>by
  simp only[List.nil_append,qbs]
 | a :: pre,x=>by
  have ih:=qhG pre x;have:qbs (a :: pre++[x])=(a :: (qbs (pre++[x])).1,(qbs (pre++[x])).2):=by
   cases pre with
   | nil=>rfl
   | cons b p=>rfl
  rw[this,ih];split <;> rfl
theorem qJR:∀ (s0:LU),(qtv s0=true)→∃ n,quC n s0=qrZ (z102 s0).1 (z102 s0).2:=fun s h=>⟨s.length+1,by
 have hl:=qb h;unfold quC;refine(qDq (qil (s.length+1)) s hl s.length 0 (s.length+1) [] [] (by omega) (by omega) (by simp;omega) (by simp;omega)).trans ?_;rw[List.nil_append,yw];unfold z102;have hlen:(qaL [] s).length≤s.length+1:=by
  have:∀ (n:Nat) (s cur:LU),s.length≤n→(qaL cur s).length≤s.length+1:=by
   intro n;induction n with
   | zero=>intro s cur h0;cases s with
    | nil=>simp[qfX]
    | cons a b=>simp at h0
   | succ n ih =>
    intro s cur h0;cases s with
    | nil=>simp[qfX]
    | cons c r =>
     rw[qeD];simp only[yg] at h0 ⊢;split
     ·have:=ih (r.drop 1) [] (by simp;omega);simp only[yg,yK] at this ⊢;omega
     ·have:=ih r (cur++[c]) (by omega);omega
  exact this s.length s [] (yv _)
 rcases List.eq_nil_or_concat (qaL [] s) with h0 | ⟨pre,x,h0⟩
 ·exact absurd h0 (qnh s [])
 ·rw[List.concat_eq_append] at h0;rw[h0] at hlen ⊢;rw[qhG];have hl2:(pre++[x]).length=pre.length+1:=by simp
  have hw:wrap .i64 (((pre++[x]).length:Int) - 1)=((pre.length:Nat):Int):=by rw[wr (by omega)];omega
  unfold qil qaC;rw[hw];have ht:List.drop (toNat ((0:Nat):Int)) (List.take pre.length (pre++[x]))=pre:=by simp
  simp (disch:=omega) only [dT,yc,yi,tn,quX,ht];cases x with
  | nil=>rw[if_pos rfl];simp
  | cons a b=>rw[if_neg (by simp),bneI (by simp only[yg];omega)];rfl⟩
theorem qQu:∀ (s0:LU),(qFd s0=true)→∃ n,qVj n s0=qLV (z76 s0):=fun s h=>⟨0,by
 unfold qVj;rw[show qtv s=true from h];rfl⟩
end
section
open List (drop take)
open Int (toNat)
open IntKind (wrap)
variable {cs s l:LU} {i b:Nat}
theorem qJS:∀ (bufLen0:Int),∃ n,qUB n bufLen0=qBy (z166 bufLen0):=fun _=>⟨0,rfl⟩
theorem qsp (c:Nat) (h:128≤c):2≤(Utf8.encode (c:Int)).size∧(c < 2048→(Utf8.encode (c:Int)).size≤2)∧(c < 65536→(Utf8.encode (c:Int)).size≤3)∧(Utf8.encode (c:Int)).size≤4:=by
 by_cases hv:Utf8.valid (c:Int)=true
 ·have hc:(c:Int).toNat=c:=by omega
  unfold Utf8.encode;simp only[hv,if_true,hc];rw[if_neg (by omega)];split
  ·refine⟨?_,?_,?_,?_⟩ <;> simp[ByteArray.size]
  ·split
   ·refine⟨?_,?_,?_,?_⟩ <;> simp[ByteArray.size] <;> omega
   ·refine⟨?_,?_,?_,?_⟩ <;> simp[ByteArray.size] <;> omega
 ·have hn:2048≤c:=by
   rcases Nat.lt_or_ge c 2048 with h2 | h2
   ·exact absurd (by unfold Utf8.valid;simp;omega) hv
   ·exact h2
  have hv':Utf8.valid (c:Int)=false:=by simpa using hv
  have he:Utf8.encode (c:Int)=⟨#[239,191,189]⟩:=by
   unfold Utf8.encode;simp only[hv',yq,if_false];decide
  rw[he];refine⟨?_,?_,?_,?_⟩ <;> simp[ByteArray.size] <;> omega
theorem quY (c:Nat) (h:128≤c):∃ e r,(Utf8.encode (c:Int)).data.toList=e :: r∧128≤e.toNat:=by
 unfold Utf8.encode;generalize hg:(if Utf8.valid (c:Int)=true then (c:Int).toNat else Utf8.runeError)=x;have hx:128≤x∧x≤1114111:=by
  split at hg
  ·rename_i hv;unfold Utf8.valid at hv;simp only[yR,yf,ym] at hv;omega
  ·unfold Utf8.runeError at hg;omega
 simp only[if_neg (show ¬ x < 128 by omega)];split
 ·exact⟨_,_,rfl,by simp;omega⟩
 ·split
  ·exact⟨_,_,rfl,by simp;omega⟩
  ·exact⟨_,_,rfl,by simp;omega⟩
theorem qJT (p:LU) (hp:0 < p.length) (h0:128≤(p.getD 0 0).toNat):128≤(Lib.decodeL p).1∧1≤(Lib.decodeL p).2∧(Lib.decodeL p).2≤p.length∧(∀ j,j < (Lib.decodeL p).2→128≤(p.getD j 0).toNat) ∧
 ((Lib.decodeL p).1≠65533→2≤(Utf8.encode ((Lib.decodeL p).1:Int)).size∧(Utf8.encode ((Lib.decodeL p).1:Int)).size≤(Lib.decodeL p).2):=by
 rw[Lib.decodeL_N];have b0:=qhF (p.getD 0 0);have b1:=qhF (p.getD 1 0);have b2:=qhF (p.getD 2 0);have b3:=qhF (p.getD 3 0);rcases Lib.decodeN_shape p.length (p.getD 0 0).toNat (p.getD 1 0).toNat (p.getD 2 0).toNat (p.getD 3 0).toNat with ⟨h,_⟩ | ⟨h1,h2,h3,h4,e⟩ | ⟨h1,h2,h3,h4,h5,_,e⟩ | ⟨h1,h2,h3,h4,h5,h6,h7,e⟩ | e
 ·omega
 ·rw[e];dsimp only;have hs:=qsp _ h4;refine⟨h4,by omega,by omega,fun j hj=>?_,fun _=>⟨hs.1,hs.2.1 (by omega)⟩⟩;match j,hj with
  | 0,_=>exact h0
  | 1,_=>omega
  | n+2,hj=>omega
 ·rw[e];dsimp only;have hs:=qsp (((p.getD 0 0).toNat % 16)*4096+(p.getD 1 0).toNat % 64*64+(p.getD 2 0).toNat % 64) (by omega);refine⟨by omega,by omega,by omega,fun j hj=>?_,fun _=>⟨hs.1,hs.2.2.1 (by omega)⟩⟩;match j,hj with
  | 0,_=>exact h0
  | 1,_=>omega
  | 2,_=>omega
  | n+3,hj=>omega
 ·rw[e];dsimp only;have hs:=qsp (((p.getD 0 0).toNat % 8)*262144+(p.getD 1 0).toNat % 64*4096+(p.getD 2 0).toNat % 64*64+(p.getD 3 0).toNat % 64) (by omega);refine⟨by omega,by omega,by omega,fun j hj=>?_,fun _=>⟨hs.1,hs.2.2.2⟩⟩;match j,hj with
  | 0,_=>exact h0
  | 1,_=>omega
  | 2,_=>omega
  | 3,_=>omega
  | n+4,hj=>omega
 ·rw[e];dsimp only;refine⟨by omega,by omega,by omega,fun j hj=>?_,fun h=>absurd rfl h⟩;match j,hj with
  | 0,_=>exact h0
  | n+1,hj=>omega
theorem qjV (ha:ascii cs=true) (hi:i < cs.length):(cs.getD i 0).toNat < 128:=by
 unfold ascii at ha;rw[List.all_eq_true] at ha;have:=ha (cs.getD i 0) (by simp[List.getD,hi]);simp only[ym] at this;exact this
theorem quZ (ha:ascii cs=true) {x:UInt8} (hx:128≤x.toNat):cs.contains x=false:=by
 cases h:cs.contains x with
 | false=>rfl
 | true =>
  unfold ascii at ha;rw[List.all_eq_true] at ha;have:=ha x (by simpa using h);simp only[ym] at this;have:x.toNat < 128:=this;omega
theorem qpz (ha:ascii cs=true) (hi:i < cs.length):decL cs i=(((cs.getD i 0).toNat:Int),1):=by
 unfold decL;rw[Lib.decode_N];rw[Lib.decodeN_ascii _ _ _ _ _ (by simpa using qjV ha hi)]
theorem qsq (ha:ascii cs=true) (c:Nat) (hc:128≤c):Lib.index cs (Utf8.encode (c:Int)).data.toList = -1:=by
 obtain⟨e,r,he,h1⟩:=quY c hc;rw[he];refine Lib.index_none fun j _=>?_;unfold Lib.occAt;cases hd:cs.drop j with
 | nil=>rfl
 | cons x t =>
  have hj:j < cs.length:=by
   rcases Nat.lt_or_ge j cs.length with h | h
   ·exact h
   ·rw[yA h] at hd;cases hd
  have hx:x=cs.getD j 0:=by
   rw[qr (d:=0) hj] at hd;exact(List.cons.inj hd).1.symm
  have:=qjV ha hj;rw[← hx] at this;have hne:(e==x)=false:=by
   rw[yB];rintro rfl;omega
  simp[List.isPrefixOf,hne]
theorem qwK (ha:ascii cs=true) (hn:cs≠[]) (c:Nat) (hc:128≤c):(cs==(Utf8.encode (c:Int)).data.toList)=false:=by
 obtain⟨e,r,he,h1⟩:=quY c hc;rw[he,yB];rintro rfl;have:=qjV ha (i:=0) (by simp);simp at this;omega
theorem qDr (cs:LU):∀ (w:Nat) (p:LU) (i:Int),w≤p.length→(∀ j,j < w→cs.contains (p.getD j 0)=false)→anyAt cs p i=anyAt cs (p.drop w) (i+w)
 | 0,p,i,_,_=>by simp
 | w+1,[],i,h,_=>by simp at h
 | w+1,x :: p,i,h,hc=>by
  have h0:=hc 0 (by omega);simp only[List.getD_cons_zero] at h0;have ih:=qDr cs w p (i+1) (by simpa using h) (fun j hj=>by have:=hc (j+1) (by omega);simpa using this);show (bif cs.contains x then i else anyAt cs p (i+1))=anyAt cs (p.drop w) (i+((w+1:Nat):Int));rw[h0,yd,ih];congr 1;omega
variable (m0:Int)
theorem qVF (ret:Int→OA) (k0:OA) (cs:LU) (ha:ascii cs=true):∀ (d i n:Nat),i+d=cs.length→d < n→qht m0 ret k0 n cs i=k0
 | d,i,0,hi,hn=>by omega
 | 0,i,n+1,hi,hn=>by
  show qef m0 ret k0 (qht m0 ret k0 n) n cs i=_;unfold qef;rw[yx (by omega)];rfl
 | d+1,i,n+1,hi,hn=>by
  show qef m0 ret k0 (qht m0 ret k0 n) n cs i=_;unfold qef;have hlt:i < cs.length:=by omega
  have hx:=qjV ha hlt;rw[yo hlt,qpz ha hlt,yc,yc,yc,show ((((cs.getD i 0).toNat:Nat):Int)==65533)=false by rw[yB];omega,yd];exact qVF ret k0 cs ha d (i+1) n (by omega) (by omega)
theorem qMe (ret:Int→OA) (k6:LU→LU→Int→Int→OA) (s cs:LU) (w at1 r:Int) (hr:128≤r) (ha:ascii cs=true):∀ (d i n:Nat),i+d=cs.length→d < n→qct m0 ret k6 n s cs w at1 r cs i=k6 s cs w at1
 | d,i,0,hi,hn=>by omega
 | 0,i,n+1,hi,hn=>by
  show qcE m0 ret k6 (qct m0 ret k6 n) n s cs w at1 r cs i=_;unfold qcE;rw[yx (by omega)];rfl
 | d+1,i,n+1,hi,hn=>by
  show qcE m0 ret k6 (qct m0 ret k6 n) n s cs w at1 r cs i=_;unfold qcE;have hlt:i < cs.length:=by omega
  have hx:=qjV ha hlt;rw[yo hlt,qpz ha hlt,yc,yc,yc,show (r==(((cs.getD i 0).toNat:Nat):Int))=false by rw[yB];omega,yd];exact qMe ret k6 s cs w at1 r hr ha d (i+1) n (by omega) (by omega)
theorem qMf (ret:Int→OA) (k2:OA) (hk:k2=ret (-1)) (s cs:LU) (hl:s.length≤1048576):∀ (d i n:Nat),i+d=s.length→d < n →
 qdD m0 ret k2 n (setOf cs (List.replicate 256 false)) s (s.length:Nat) (i:Nat)=ret (anyAt cs (s.drop i) i)
 | d,i,0,hi,hn=>by omega
 | 0,i,n+1,hi,hn=>by
  show qcD m0 ret k2 (qdD m0 ret k2 n) n _ s _ _=_;unfold qcD;rw[yx (by omega),yd,yA (by omega),hk];rfl
 | d+1,i,n+1,hi,hn=>by
  show qcD m0 ret k2 (qdD m0 ret k2 n) n _ s _ _=_;unfold qcD z168;have hlt:i < s.length:=by omega
  rw[qgf,yo hlt,yc,qK,y6,yc,qab,qCL _ _ _ yQ,qd (by omega),qMf ret k2 hk s cs hl d (i+1) n (by omega) (by omega),qr (d:=0) hlt];have:(List.replicate 256 false).getD (s.getD i 0).toNat false=false:=by rw[yY,List.getElem?_replicate];split <;> rfl
  rw[this,Bool.or_false];show _=ret (bif cs.contains (s.getD i 0) then (i:Int) else anyAt cs (s.drop (i+1)) (i+1));cases cs.contains (s.getD i 0) <;> rfl
set_option maxRecDepth 100000 in
theorem qDs (ret:Int→OA) (k4:OA) (hk:k4=ret (-1)) (s cs:LU) (hl:s.length≤1048576) (ha:ascii cs=true) (hc2:2≤cs.length) (hcl:cs.length≤1048576) (d i n:Nat) (hi:i+d=s.length) (hn:d+cs.length+1 < n) :
 qcu m0 ret k4 n s cs (i:Nat)=ret (anyAt cs (s.drop i) i):=by
 obtain⟨n,rfl⟩:∃ n',n=n'+1:=⟨n - 1,by omega⟩;show qdE m0 ret k4 (qcu m0 ret k4 n) n s cs (i:Nat)=_;unfold qdE qq;match d,hi,hn with
 | 0,hi,hn =>
  rw[yx (by omega),yd,yA (by omega),hk];rfl
 | d+1,hi,hn =>
  have hlt:i < s.length:=by omega
  have hb:=qhF (s.getD i 0);rw[qgf,yo hlt,yc,qK,y6,yc,yc,qab,qab,List.take_length,IntWalk.i32_in _ (by omega)]
  by_cases h128:(s.getD i 0).toNat < 128
  ·rw[yo (show (((s.getD i 0).toNat:Nat):Int) < 128 by omega),yc,qd (by omega),qDs ret k4 hk s cs hl ha hc2 hcl d (i+1) n (by omega) (by omega),qr (d:=0) hlt];show (bif decide ((0:Int)≤Lib.indexByte cs (s.getD i 0)) then ret i else ret (anyAt cs (s.drop (i+1)) ((i+1:Nat):Int)))=ret (bif cs.contains (s.getD i 0) then (i:Int) else anyAt cs (s.drop (i+1)) (i+1));rw[← Lib.contains_iff_indexByte];cases cs.contains (s.getD i 0) <;> rfl
  ·rw[yx (show ¬ (((s.getD i 0).toNat:Nat):Int) < 128 by omega),yd,yo (show (i:Int)≤((s.length:Nat):Int) by omega),yo (Int.le_refl _)];have hp:0 < (s.drop i).length:=by rw[yK];omega
   have h0:128≤((s.drop i).getD 0 0).toNat:=by
    rw[qr (d:=0) hlt];simp only[List.getD_cons_zero];omega
   obtain⟨f1,f2,f3,f4,f5⟩:=qJT (s.drop i) hp h0;rw[show qoe (s.drop i)=true by unfold qoe;exact yo hp];have hd1:(z169 (s.drop i)).1=((Lib.decodeL (s.drop i)).1:Int):=rfl;have hd2:(z169 (s.drop i)).2=((Lib.decodeL (s.drop i)).2:Int):=rfl;rw[hd1,hd2];obtain⟨r,hr⟩:∃ r,(Lib.decodeL (s.drop i)).1=r:=⟨_,rfl⟩;obtain⟨w,hw⟩:∃ w,(Lib.decodeL (s.drop i)).2=w:=⟨_,rfl⟩;rw[hr] at f1 f5;rw[hw] at f2 f3 f4 f5;rw[hr,hw];rw[yK] at f3;have hnext:qcu m0 ret k4 n s cs (wrap .i64 ((i:Int)+(w:Int)))=ret (anyAt cs (s.drop i) i):=by
    rw[IntWalk.i64_in _ (by omega),show (i:Int)+(w:Int)=((i+w:Nat):Int) by omega,qDs ret k4 hk s cs hl ha hc2 hcl (d+1 - w) (i+w) n (by omega) (by omega),
     qDr cs w (s.drop i) i (by rw[yK];exact f3) (fun j hj=>quZ ha (f4 j hj)),List.drop_drop]
    congr 2
   have h48:qct m0 ret (qfL m0 ret k4 (qcu m0 ret k4 n) n) n s cs (w:Int) (i:Int) (r:Int) cs 0=ret (anyAt cs (s.drop i) i):=by
    rw[qMe m0 ret _ s cs w i r (by omega) ha cs.length 0 n (by omega) (by omega)];exact hnext
   simp only[Bool.and_self,yc]
   by_cases hre:r=65533
   ·rw[show ((r:Int) != 65533)=false by simp only[bne_eq_false_iff_eq];omega,yd,h48]
   ·obtain⟨e1,e2⟩:=f5 hre;rw[show ((r:Int) != 65533)=true by simp only[bne_iff_ne,ne_eq];omega,yc,qwK ha (by rintro rfl;simp at hc2) r f1,yd,hnext];cases ((cs.length:Int)==(w:Int)) with
    | true=>rfl
    | false =>
     rw[yd]
     by_cases hm:(w:Int)≤m0
     ·have hok:qod m0 cs (Utf8.encode (r:Int)).data.toList=true:=by
       unfold qod;rw[← Lib.size_eq];simp only[yf,ym];omega
      rw[yo hm,hok];unfold z170;rw[qsq ha r f1];rfl
     ·rw[yx hm,yd,h48]
 termination_by d
 decreasing_by all_goals omega
set_option maxRecDepth 100000 in
theorem qJU:∀ (s0:LU) (chars1:LU),(qkw s0 chars1=true)→∃ n,qtT m0 n s0 chars1=qKR (z109 s0 chars1):=fun s cs h=>⟨s.length+cs.length+2,by
 unfold qkw at h;simp only[yf,ym] at h;obtain⟨⟨hc2,ha,hcl⟩,hl⟩:=h;have hcl':=qb hcl;have hl':=qb hl;unfold qtT qdF z109;rw[show (cs==[])=false by cases cs with | nil=>simp at hc2 | cons c r=>rfl,yd];have hcne:(((cs.length:Nat):Int)==1)=false:=by rw[yB];omega
 by_cases h1:s.length=1
 ·rw[show (((s.length:Nat):Int)==1)=true by rw[beq_iff_eq];omega,yc];obtain⟨x,rfl⟩:=List.length_eq_one_iff.1 h1;have hx:=qhF x;show (bif decide ((128:Int)≤wrap .i32 ((x.toNat:Nat):Int)) then _ else _)=_;rw[IntWalk.i32_in _ (by omega)]
  by_cases h128:x.toNat < 128
  ·rw[yx (show ¬ (128:Int)≤((x.toNat:Nat):Int) by omega),yd];show (bif decide ((0:Int)≤Lib.indexByte cs x) then qKR 0 else qKR (-1))=qKR (bif cs.contains x then 0 else -1);rw[← Lib.contains_iff_indexByte];cases cs.contains x <;> rfl
  ·rw[yo (show (128:Int)≤((x.toNat:Nat):Int) by omega),yc,qVF m0 _ _ cs ha cs.length 0 _ (by omega) (by omega)];show qKR (-1)=qKR (bif cs.contains x then 0 else -1);rw[quZ ha (by omega)];rfl
 ·rw[show (((s.length:Nat):Int)==1)=false by rw[yB];omega,yd,hcne,yd];have h32:=qDs m0 qKR (qfM m0 (s.length+cs.length+2)) rfl s cs hl' ha hc2 hcl' s.length 0 (s.length+cs.length+2) (by omega) (by omega);have h24:=qMf m0 qKR (qjg m0 (s.length+cs.length+2)) rfl s cs hl' s.length 0 (s.length+cs.length+2) (by omega) (by omega);rw[show qeJ cs=true by unfold qeJ;rw[ha,hcl];rfl];cases z166 ((s.length:Nat):Int) with
  | true=>exact h24
  | false =>
   rw[yd];exact h32⟩
theorem qJV (c:UInt8) (r:LU):(([13,10]:LU).isPrefixOf (c :: r))=decide (c=13∧r.head? = some 10):=by
 cases r with
 | nil=>simp[List.isPrefixOf]
 | cons e r =>
  simp only[List.isPrefixOf,yi,List.head?_cons,ya];rw[Bool.eq_iff_iff];simp only[yf,beq_iff_eq,ym];exact⟨fun h=>⟨h.1.symm,h.2.symm⟩,fun h=>⟨h.1.symm,h.2.symm⟩⟩
theorem qQv (c:UInt8) (r:LU):Lib.index (c :: r) [13,10]=if c=13∧r.head? = some 10 then 0 else if Lib.index r [13,10] = -1 then -1 else Lib.index r [13,10]+1:=by
 have:Lib.index (c :: r) [13,10]=if ([13,10]:LU).isPrefixOf (c :: r) then 0 else if Lib.index r [13,10] == -1 then -1 else Lib.index r [13,10]+1:=rfl
 rw[this,qJV]
 by_cases h:c=13∧r.head? = some 10
 ·rw[if_pos h,if_pos (by simpa using h)]
 ·rw[if_neg h,if_neg (by simpa using h)]
  by_cases h2:Lib.index r [13,10] = -1
  ·simp[h2]
  ·rw[if_neg h2,if_neg (by simpa using h2)]
theorem qJW {r:LU} (h:r.head? = some 10):1≤r.length:=by cases r with
 | nil=>cases h
 | cons a b=>simp
theorem qva:∀ (s cur:LU),(Lib.index s [13,10] = -1∧qaL cur s=[cur++s]) ∨
 (∃ k:Nat,Lib.index s [13,10]=k∧k+2≤s.length∧qaL cur s=(cur++s.take k) :: qaL [] (s.drop (k+2)))
 | [],cur=>.inl ⟨rfl,by simp[qfX]⟩
 | c :: r,cur=>by
  rw[qQv,qeD]
  by_cases h:c=13∧r.head? = some 10
  ·right;rw[if_pos h,if_pos h];refine⟨0,rfl,by have:=qJW h.2;simp;omega,?_⟩;simp
  ·rw[if_neg h,if_neg h];rcases qva r (cur++[c]) with ⟨h1,h2⟩ | ⟨k,h1,h2,h3⟩
   ·left;rw[h1,if_pos rfl,h2];exact⟨rfl,by simp⟩
   ·right;refine⟨k+1,by rw[h1,if_neg (by omega)];omega,by simp;omega,?_⟩;rw[h3];simp
theorem qDt (s:LU):(z82 s [13,10]=(s,[],false)∧qaL [] s=[s]∧Lib.index s [13,10] = -1) ∨
 (∃ k:Nat,k+2≤s.length∧z82 s [13,10]=(s.take k,s.drop (k+2),true)∧qaL [] s=s.take k :: qaL [] (s.drop (k+2))∧Lib.index s [13,10]=k):=by
 rcases qva s [] with ⟨h1,h2⟩ | ⟨k,h1,h2,h3⟩
 ·left;refine⟨?_,by simpa using h2,h1⟩;unfold z82;rw[h1];rfl
 ·right;refine⟨k,h2,?_,by simpa using h3,h1⟩;unfold z82;rw[h1,dT (by omega),yc,tn];rfl
theorem qJX:∀ (c0:UInt8) (ends1:Bool),∃ n,qLy n c0 ends1=qdL (z122 c0 ends1):=fun c e=>⟨0,by
 unfold qLy qdM z122 unitQ;rw[show qtf ([]:LU) 61 c=true from rfl];cases (c != 61) <;> cases z144 c 4 <;> cases z144 c 2 <;> cases e <;> rfl⟩
theorem qQw:∀ (c0:UInt8) (ends1:Bool),∃ n,qVi n c0 ends1=qdL (z73 c0 ends1):=fun c e=>⟨0,by
 unfold qVi qfV z73 unitQ z136;rw[show qtg ([]:LU) 61 c=true from rfl];cases (c != 61) <;> cases z144 c 4 <;> cases z144 c 2 <;> cases e <;> rfl⟩
theorem qDu (c:UInt8) (e:Bool):(unitQ c e).length≤3∧1≤(unitQ c e).length:=by
 unfold unitQ;cases (((c != 61)&&z144 c 4)||(!e&&z144 c 2))
 ·exact⟨yv 3,by show 1≤3;omega⟩
 ·exact⟨by show 1≤3;omega,yv 1⟩
theorem qQx:∀ b1 b3:Bool,(bif b1 then 1 else bif b3 then 1 else 0:Nat)≤1:=by decide
theorem qQy:∀ b1 b2 b3:Bool,(bif b1 then (bif b2 then 2 else 1) else bif b3 then 1 else 0:Nat)≤2:=by decide
theorem qXA:∀ l:LU,brk l≤l.length∧brk l≤2
 | []=>⟨yv _,by decide⟩
 | [x]=>by
  have h:brk [x]≤1:=qQx (x==13) (x==10);exact⟨h,yL h (by omega)⟩
 | x :: y :: r=>by
  have h:brk (x :: y :: r)≤2:=qQy (x==13) (y==10) (x==10);exact⟨yL h (by simp),h⟩
theorem qVG (h:i < s.length):brk (s.drop i)=bif s.getD i 0==13 then (bif decide (i+1 < s.length) then (bif s.getD (i+1) 0==10 then 2 else 1) else 1) else bif s.getD i 0==10 then 1 else 0:=by
 rw[qr (d:=(0:UInt8)) h]
 by_cases h2:i+1 < s.length
 ·rw[qr (d:=(0:UInt8)) h2,yo h2];rfl
 ·rw[yA (by omega),yx h2];rfl
theorem qJY:∀ (s0:LU) (at1:Int),(qje s0 at1=true)→∃ n,qLu n s0 at1=qKR (z120 s0 at1):=fun s at1 h=>⟨0,by
 unfold qje at h;simp only[yf,ym] at h;have hl:=qb h.1;obtain⟨i,rfl⟩:∃ i:Nat,at1=(i:Int):=⟨at1.toNat,by omega⟩;unfold qLu qdK z120;rw[tn]
 by_cases hi:i < s.length
 ·rw[qVG hi,qd (by omega),dF (show ¬ ((s.length:Nat):Int)≤(i:Int) by omega),tn];simp (disch:=omega) only [dT,yc,yd,yi];rw[show decide (((i+1:Nat):Int) < ((s.length:Nat):Int))=decide (i+1 < s.length) by congr 1;apply propext;omega];generalize s.getD i 0=x;generalize s.getD (i+1) 0=y
  by_cases h13:x=13
  ·subst h13;cases decide (i+1 < s.length) <;> cases (y==10) <;> rfl
  ·have e1:(x==13)=false:=by simp[h13]
   have e2:(x != 13)=true:=by simp[bne,h13]
   rw[e1,e2]
   by_cases h10:x=10
   ·subst h10;rfl
   ·have e3:(x==10)=false:=by simp[h10]
    have e4:(x != 10)=true:=by simp[bne,h10]
    rw[e3,e4];rfl
 ·rw[dT (show ((s.length:Nat):Int)≤(i:Int) by omega),yA (by omega)];rfl⟩
theorem qpA:∀ (k:Nat) (l:LU),brksS k l=brksS 0 (l.drop k)
 | 0,l=>rfl
 | k+1,[]=>rfl
 | k+1,x :: r=>by rw[show brksS (k+1) (x :: r)=brksS k r from rfl,qpA k r];rfl
theorem qvb:∀ (k:Nat) (l:LU) (p:Page),layS k l p=layS 0 (l.drop k) p
 | 0,l,p=>rfl
 | k+1,[],p=>rfl
 | k+1,x :: r,p=>by rw[show layS (k+1) (x :: r) p=layS k r p from rfl,qvb k r p];rfl
theorem qJZ (h:i < s.length):brksS 0 (s.drop i)=bif decide (0 < brk (s.drop i)) then 13 :: 10 :: brksS 0 (s.drop (i+brk (s.drop i))) else s.getD i 0 :: brksS 0 (s.drop (i+1)):=by
 have e:=qr (d:=(0:UInt8)) h;cases hb:brk (s.drop i) with
 | zero =>
  rw[e] at hb ⊢;rw[show brksS 0 (s.getD i 0 :: s.drop (i+1))=(match brk (s.getD i 0 :: s.drop (i+1)) with | 0=>s.getD i 0 :: brksS 0 (s.drop (i+1)) | k+1=>13 :: 10 :: brksS k (s.drop (i+1))) from rfl,hb];rfl
 | succ k =>
  rw[e] at hb ⊢;rw[show brksS 0 (s.getD i 0 :: s.drop (i+1))=(match brk (s.getD i 0 :: s.drop (i+1)) with | 0=>s.getD i 0 :: brksS 0 (s.drop (i+1)) | k+1=>13 :: 10 :: brksS k (s.drop (i+1))) from rfl,hb];show 13 :: 10 :: brksS k (s.drop (i+1))=13 :: 10 :: brksS 0 (s.drop (i+(k+1)));rw[qpA k,List.drop_drop,show i+1+k=i+(k+1) by omega]
theorem qQz (h:i < s.length) (p:Page):layS 0 (s.drop i) p=bif decide (0 < brk (s.drop i)) then layS 0 (s.drop (i+brk (s.drop i))) (pEnd p false) else layS 0 (s.drop (i+1)) (pPut p (unitQ (s.getD i 0) (decide (0 < brk (s.drop (i+1)))))):=by
 have e:=qr (d:=(0:UInt8)) h;cases hb:brk (s.drop i) with
 | zero =>
  rw[e] at hb ⊢;rw[show layS 0 (s.getD i 0 :: s.drop (i+1)) p=(match brk (s.getD i 0 :: s.drop (i+1)) with | 0=>layS 0 (s.drop (i+1)) (pPut p (unitQ (s.getD i 0) (decide (0 < brk (s.drop (i+1)))))) | k+1=>layS k (s.drop (i+1)) (pEnd p false)) from rfl,hb];rfl
 | succ k =>
  rw[e] at hb ⊢;rw[show layS 0 (s.getD i 0 :: s.drop (i+1)) p=(match brk (s.getD i 0 :: s.drop (i+1)) with | 0=>layS 0 (s.drop (i+1)) (pPut p (unitQ (s.getD i 0) (decide (0 < brk (s.drop (i+1)))))) | k+1=>layS k (s.drop (i+1)) (pEnd p false)) from rfl,hb];show layS k (s.drop (i+1)) (pEnd p false)=layS 0 (s.drop (i+(k+1))) (pEnd p false);rw[qvb k,List.drop_drop,show i+1+k=i+(k+1) by omega]
theorem qjW (s:LU) (i:Nat):z120 s (i:Int)=((brk (s.drop i):Nat):Int):=by unfold z120;rw[tn]
theorem qjX (hl:s.length≤1048576) (hi:i≤1048577):qje s (i:Int)=true:=by
 unfold qje;rw[qm hl,dT (by omega)];rfl
theorem qdg (k0:LU→OA) (s:LU) (hl:s.length≤1048576):∀ (d i n:Nat) (out:LU),i+d=s.length→d < n→out.length+2*d≤room →
 qrU k0 n s out (i:Nat)=k0 (out++brksS 0 (s.drop i))
 | d,i,0,out,hi,hn,_=>by omega
 | 0,i,n+1,out,hi,hn,_=>by
  show qgS _ _ n _ _ _=_;unfold qgS qaF qbe qI;rw[dF (by omega),yd,yA (by omega)];show k0 out=k0 (out++[]);rw[yG]
 | d+1,i,n+1,out,hi,hn,hb=>by
  have hlt:i < s.length:=by omega
  have hat:=qVG hlt;have ih1:=fun out hh=>qdg k0 s hl d (i+1) n out (by omega) (by omega) hh;have ih2:∀ out:LU,i+2≤s.length→out.length+2*(d - 1)≤room→qrU k0 n s out ((i+2:Nat):Int)=k0 (out++brksS 0 (s.drop (i+2))):=fun out h2 hh=>qdg k0 s hl (d - 1) (i+2) n out (by omega) (by omega) hh;show qgS _ _ n _ _ _=_;unfold qgS qaF qbe qI;rw[qJZ hlt,hat,tn,qd (by omega),qd (i:=i+1) (by omega),tn];simp (disch:=(first | omega | (simp;omega))) only [dT,yc,yi];rw[show decide (((i+1:Nat):Int) < ((s.length:Nat):Int))=decide (i+1 < s.length) by congr 1;apply propext;omega];rw[ih1 _ (by simp;omega),ih1 _ (by simp;omega)];generalize s.getD i 0=x
  by_cases h13:x=13
  ·subst h13
   by_cases h2:i+1 < s.length
   ·rw[ih2 _ (by omega) (by simp;omega),dT h2];generalize s.getD (i+1) 0=y;cases (y==10) <;> simp[yl]
   ·rw[dF h2];simp[yl]
  ·have e1:(x==13)=false:=by simp[h13]
   have e2:(x != 13)=true:=by simp[bne,h13]
   rw[e1,e2]
   by_cases h10:x=10
   ·subst h10;simp[yl]
   ·have e3:(x==10)=false:=by simp[h10]
    have e4:(x != 10)=true:=by simp[bne,h10]
    rw[e3,e4];simp[yl]
 termination_by d=>d
theorem qQA:∀ (s0:LU),(qHD s0=true)→∃ n,qIa n s0=qCc (z72 s0):=fun s h=>⟨s.length+1,by
 have hl:=qb (l:=s) h;unfold qIa z72;refine(qdg (qrV (s.length+1)) s hl s.length 0 (s.length+1) [] (by omega) (by omega) (by unfold room;simp;omega)).trans ?_;rw[yw];rfl⟩
theorem qKa:∀ (p0:LU×(Int×Unit)) (soft1:Bool),(qfJ p0 soft1=true)→∃ n,qBZ n p0 soft1=qrO (z121 p0 soft1):=fun p soft h=>⟨0,by
 unfold qfJ at h;have hl:p.1.length≤100000000:=by simpa using h
 have hr:room=1073741824:=rfl;unfold qBZ qcH z121 pEnd;cases soft
 ·simp only[yd];rw[dT (by rw[hr];simp;omega),yc]
 ·simp only[yc];rw[dT (show p.1.length+([61]:LU).length≤room by rw[hr];simp;omega),yc,dT (by rw[hr];simp;omega),yc,yl];rfl⟩
theorem qKb:∀ (p0:LU×(Int×Unit)) (u1:LU),(qkz p0 u1=true)→∃ n,qCa n p0 u1=qrO (z119 p0 u1):=fun p u h=>⟨0,by
 unfold qkz at h;simp only[yf,ym] at h;obtain⟨h1,h2,h3⟩:=h;have hr:room=1073741824:=rfl;have he:qfJ p true=true:=dT h1;unfold qCa z119 pPut;rw[he,show wrap .i64 (p.2.1+((u.length:Nat):Int))=p.2.1+((u.length:Nat):Int) from IntWalk.i64_in _ (by omega)]
 by_cases h75:75 < p.2.1+((u.length:Nat):Int)
 ·rw[dT h75];have hl:(pEnd p true).1.length≤100000003:=by unfold pEnd;simp;omega
  simp only[yc];rw[show z121 p true=pEnd p true from rfl,dT (by rw[hr];omega),yc,show (pEnd p true).2.1=0 from rfl,IntWalk.i64_in _ (by omega)]
 ·rw[dF h75];simp only[yd];rw[dT (by rw[hr];omega),yc]⟩
def okP (p:Page) (b:Nat):Prop:=p.1.length≤b∧0≤p.2.1∧p.2.1≤75
theorem qpB {p:Page} (h:okP p b) (soft:Bool):okP (pEnd p soft) (b+3):=by
 unfold okP pEnd at *
 cases soft <;> simp <;> omega
theorem qMg {p:Page} (h:okP p b) {u:LU} (hu:u.length≤3):okP (pPut p u) (b+6):=by
 unfold pPut
 by_cases h75:75 < p.2.1+((u.length:Nat):Int)
 ·rw[dT h75];have:=qpB h true;unfold okP at this ⊢;show ((pEnd p true).1++u).length≤_∧0≤(0:Int)+(u.length:Nat)∧(0:Int)+(u.length:Nat)≤75;rw[yn];omega
 ·rw[dF h75];unfold okP at h ⊢;show (p.1++u).length≤_∧0≤p.2.1+(u.length:Nat)∧p.2.1+(u.length:Nat)≤75;rw[yn];omega
theorem qni (k0:Page→OA) (s:LU) (hl:s.length≤1048576):∀ (d i n:Nat) (p:Page),i+d=s.length→d < n→okP p (6*i) →
 qww k0 n s p (i:Nat)=k0 (layS 0 (s.drop i) p)∧okP (layS 0 (s.drop i) p) (6*s.length)
 | d,i,0,p,hi,hn,_=>by omega
 | 0,i,n+1,p,hi,hn,hp=>by
  obtain rfl:i=s.length:=by omega
  refine⟨?_,?_⟩
  ·show qdN _ _ n _ _ _=_;unfold qdN;rw[dF (by omega),yd,yA (by omega)];rfl
  ·rw[yA (by omega)];exact hp
 | d+1,i,n+1,p,hi,hn,hp=>by
  have hlt:i < s.length:=by omega
  have hbk:=qXA (s.drop i);rw[yK] at hbk;rw[qQz hlt]
  by_cases h0:0 < brk (s.drop i)
  ·have ih:=qni k0 s hl (d+1 - brk (s.drop i)) (i+brk (s.drop i)) n (pEnd p false) (by omega) (by omega) (by have:=qpB hp false;unfold okP at this ⊢;omega);rw[dT h0,yc];refine⟨?_,ih.2⟩;show qdN _ _ n _ _ _=_;unfold qdN;rw[qjX hl (by omega),qjW,dT (by omega),dT (show (0:Int) < ((brk (s.drop i):Nat):Int) by omega),show qfJ p false=true from dT (by unfold okP at hp;omega),
    show wrap .i64 ((i:Int)+((brk (s.drop i):Nat):Int))=((i+brk (s.drop i):Nat):Int) by rw[IntWalk.i64_in _ (by omega)];omega]
   exact ih.1
  ·have hu:=qDu (s.getD i 0) (decide (0 < brk (s.drop (i+1))));have ih:=qni k0 s hl d (i+1) n (pPut p (unitQ (s.getD i 0) (decide (0 < brk (s.drop (i+1)))))) (by omega) (by omega) (by have:=qMg hp hu.1;unfold okP at this ⊢;omega);rw[dF h0,yd];refine⟨?_,ih.2⟩;show qdN _ _ n _ _ _=_;unfold qdN;rw[qd (by omega),qjX hl (by omega),qjX hl (by omega),qjW,qjW,tn,dT (show (i:Int) < ((s.length:Nat):Int) by omega),dF (show ¬ (0:Int) < ((brk (s.drop i):Nat):Int) by omega),
    show decide ((0:Int) < ((brk (s.drop (i+1)):Nat):Int))=decide (0 < brk (s.drop (i+1))) by congr 1;apply propext;omega]
   have hok:qkz p (z122 (s.getD i 0) (decide (0 < brk (s.drop (i+1)))))=true:=by
    unfold qkz okP at *
    rw[dT (by omega),dT (by omega),dT (by show (unitQ _ _).length≤_;omega)];rfl
   rw[hok,dT (show (0:Int)≤(i:Int) by omega)];exact ih.1
 termination_by d=>d
theorem qDv (s:LU) (hl:s.length≤1048576):okP (layS 0 s ([],(0,()))) (6*s.length):=by
 have:=(qni (fun _=>none) s hl s.length 0 (s.length+1) ([],(0,())) (by omega) (by omega) (by unfold okP;simp)).2;rwa[yw] at this
theorem qQB:∀ (s0:LU),(qHE s0=true)→∃ n,qHP n s0=qBD (z62 s0):=fun s h=>⟨s.length+1,by
 have hl:=qb (l:=s) h;have hp:=qDv s hl;unfold qHP z62;refine(qni (qmo (s.length+1)) s hl s.length 0 (s.length+1) ([],(0,())) (by omega) (by omega) (by unfold okP;simp)).1.trans ?_;rw[yw];unfold qmo pDone;generalize layS 0 s ([],(0,()))=p at hp ⊢;rw[show qfJ p true=true from dT (by unfold okP at hp;omega)];cases decide ((0:Int) < p.2.1) <;> rfl⟩
def refS:Nat→LU→Page→Page
 | _,[],p=>p
 | 0,x :: r,p=>bif x==13 then refS 1 r (pEnd p false) else refS 0 r (pPut p (unitQ x (r.headD 0==13)))
 | k+1,_ :: r,p=>refS k r p
theorem qvc:∀ r:LU,((brksS 0 r).headD 0==13)=decide (0 < brk r)
 | []=>rfl
 | x :: r=>by
  cases hb:brk (x :: r) with
  | zero =>
   rw[show brksS 0 (x :: r)=(match brk (x :: r) with | 0=>x :: brksS 0 r | k+1=>13 :: 10 :: brksS k r) from rfl,hb];show (x==13)=false
   by_cases h13:x=13
   ·subst h13;have:brk (13 :: r)≠0:=by
     cases r with
     | nil=>decide
     | cons y r=>show (bif y==10 then 2 else 1)≠0;cases (y==10) <;> decide
    exact absurd hb this
   ·simp[h13]
  | succ k =>
   rw[show brksS 0 (x :: r)=(match brk (x :: r) with | 0=>x :: brksS 0 r | k+1=>13 :: 10 :: brksS k r) from rfl,hb];rfl
theorem qvd:∀ (s:LU) (k:Nat) (p:Page),refS 0 (brksS k s) p=layS k s p
 | [],0,p=>rfl
 | [],k+1,p=>rfl
 | x :: r,k+1,p=>qvd r k p
 | x :: r,0,p=>by
  cases hb:brk (x :: r) with
  | zero =>
   have h13:(x==13)=false:=by
    have:=qvc (x :: r);rw[show brksS 0 (x :: r)=(match brk (x :: r) with | 0=>x :: brksS 0 r | k+1=>13 :: 10 :: brksS k r) from rfl,hb] at this;exact this
   rw[show brksS 0 (x :: r)=(match brk (x :: r) with | 0=>x :: brksS 0 r | k+1=>13 :: 10 :: brksS k r) from rfl,hb,
    show layS 0 (x :: r) p=(match brk (x :: r) with | 0=>layS 0 r (pPut p (unitQ x (decide (0 < brk r)))) | k+1=>layS k r (pEnd p false)) from rfl,hb]
   show (bif x==13 then refS 1 (brksS 0 r) (pEnd p false) else refS 0 (brksS 0 r) (pPut p (unitQ x ((brksS 0 r).headD 0==13))))=_;rw[h13,yd,qvc,qvd r 0]
  | succ k =>
   rw[show brksS 0 (x :: r)=(match brk (x :: r) with | 0=>x :: brksS 0 r | k+1=>13 :: 10 :: brksS k r) from rfl,hb,
    show layS 0 (x :: r) p=(match brk (x :: r) with | 0=>layS 0 r (pPut p (unitQ x (decide (0 < brk r)))) | k+1=>layS k r (pEnd p false)) from rfl,hb]
   exact qvd r k (pEnd p false)
theorem qve:∀ (k:Nat) (l:LU) (p:Page),refS k l p=refS 0 (l.drop k) p
 | 0,l,p=>rfl
 | k+1,[],p=>rfl
 | k+1,x :: r,p=>by rw[show refS (k+1) (x :: r) p=refS k r p from rfl,qve k r p];rfl
theorem qhk (k0:LU→Int→OA) (b:LU) (hl:b.length≤2097152):∀ (d i n:Nat) (p:Page),b.length≤i+d→i≤2097160→d < n→okP p (6*i) →
 qpf k0 n b p.1 p.2.1 (i:Nat)=k0 (refS 0 (b.drop i) p).1 (refS 0 (b.drop i) p).2.1
 | d,i,0,p,hi,hi2,hn,_=>by omega
 | 0,i,n+1,p,hi,hi2,hn,hp=>by
  show qgU _ _ n _ _ _ _=_;unfold qgU qam qaG qal;rw[dF (by omega),yd,yA (by omega)];rfl
 | d+1,i,n+1,p,hi,hi2,hn,hp=>by
  show qgU _ _ n _ _ _ _=_;unfold qgU qam qaG qal
  by_cases hlt:i < b.length
  ·have hr:room=1073741824:=rfl;have hpl:=hp.1;rw[dT (show (i:Int) < ((b.length:Nat):Int) by omega),qd (by omega),qd (i:=i+1) (by omega),tn,tn,qr (d:=(0:UInt8)) hlt];rw[show refS 0 (b.getD i 0 :: b.drop (i+1)) p=bif b.getD i 0==13 then refS 1 (b.drop (i+1)) (pEnd p false) else refS 0 (b.drop (i+1)) (pPut p (unitQ (b.getD i 0) ((b.drop (i+1)).headD 0==13))) from rfl];rw[show decide (((i+1:Nat):Int) < ((b.length:Nat):Int))=decide (i+1 < b.length) by congr 1;apply propext;omega];have hpe:=qpB hp true;cases h13:(b.getD i 0==13) with
   | true =>
    have ih:=qhk k0 b hl d (i+2) n (pEnd p false) (by omega) (by omega) (by omega) (by have:=qpB hp false;unfold okP at this ⊢;omega);rw[qve,List.drop_drop];simp (disch:=(first | omega | (rw[hr];simp;omega))) only [dT,yc,yi];exact ih
   | false =>
    have hu:=fun e=>qDu (b.getD i 0) e;have ih:=fun e=>qhk k0 b hl d (i+1) n (pPut p (unitQ (b.getD i 0) e)) (by omega) (by omega) (by omega) (by have:=qMg hp (hu e).1;unfold okP at this ⊢;omega);have hput:∀ e,(bif decide ((75:Int) < wrap .i64 (p.2.1+(((z73 (b.getD i 0) e).length:Nat):Int))) then
     bif decide (p.1.length+([61,13,10]:LU).length≤room) then
      bif decide ((p.1++([61,13,10]:LU)).length+(z73 (b.getD i 0) e).length≤room) then
       qpf k0 n b ((p.1++([61,13,10]:LU))++z73 (b.getD i 0) e) (wrap .i64 (0+(((z73 (b.getD i 0) e).length:Nat):Int))) ((i+1:Nat):Int) else none else none
     else bif decide (p.1.length+(z73 (b.getD i 0) e).length≤room) then
      qpf k0 n b (p.1++z73 (b.getD i 0) e) (wrap .i64 (p.2.1+(((z73 (b.getD i 0) e).length:Nat):Int))) ((i+1:Nat):Int) else none) =
     k0 (refS 0 (b.drop (i+1)) (pPut p (unitQ (b.getD i 0) e))).1 (refS 0 (b.drop (i+1)) (pPut p (unitQ (b.getD i 0) e))).2.1:=fun e=>by
     rw[← ih e,show z73 (b.getD i 0) e=unitQ (b.getD i 0) e from rfl];have hu1:=(hu e).1;have hp2:=hp.2;rw[show wrap .i64 (p.2.1+(((unitQ (b.getD i 0) e).length:Nat):Int))=p.2.1+(((unitQ (b.getD i 0) e).length:Nat):Int) from IntWalk.i64_in _ (by omega),
      show wrap .i64 ((0:Int)+(((unitQ (b.getD i 0) e).length:Nat):Int))=0+(((unitQ (b.getD i 0) e).length:Nat):Int) from IntWalk.i64_in _ (by omega)]
     generalize unitQ (b.getD i 0) e=u at hu1 ⊢;unfold pPut
     by_cases h75:75 < p.2.1+((u.length:Nat):Int)
     ·rw[dT h75,dT (by rw[hr];simp;omega),dT (by rw[hr];simp;omega)];rfl
     ·rw[dF h75,yd,dT (show p.1.length+u.length≤room by rw[hr];omega)];rfl
    by_cases h2:i+1 < b.length
    ·rw[dT h2,dT (show (0:Int)≤(i:Int) by omega),dT (show (0:Int)≤((i+1:Nat):Int) by omega),qr (d:=(0:UInt8)) h2];have hq:=hput (b.getD (i+1) 0==13);rw[qr (d:=(0:UInt8)) h2] at hq;exact hq
    ·rw[dF h2,dT (show (0:Int)≤(i:Int) by omega),yA (show b.length≤i+1 by omega)];have hq:=hput false;rw[yA (show b.length≤i+1 by omega)] at hq;exact hq
  ·rw[dF (by omega),yd,yA (by omega)];rfl
theorem qnj:∀ (s:LU) (k:Nat),(brksS k s).length≤2*s.length
 | [],0=>by simp[brksS]
 | [],k+1=>by simp[brksS]
 | x :: r,k+1=>by have:=qnj r k;simp only[brksS,yg];omega
 | x :: r,0=>by
  rw[show brksS 0 (x :: r)=(match brk (x :: r) with | 0=>x :: brksS 0 r | k+1=>13 :: 10 :: brksS k r) from rfl];cases hb:brk (x :: r) with
  | zero=>have:=qnj r 0;simp only[yg];omega
  | succ k=>have:=qnj r k;simp only[yg];omega
theorem qQC:∀ (s0:LU),(qHF s0=true)→∃ n,qIb n s0=qCc (z33 s0):=fun s h=>⟨2*s.length+1,by
 have hl:=qb (l:=s) h;have hb:=qnj s 0;have hp:=qDv s hl;have hr:room=1073741824:=rfl;unfold qIb z33 z62 z72;rw[show qHD s=true from h,y6,yc];refine(qhk (qmG (2*s.length+1)) (brksS 0 s) (by omega) (2*s.length) 0 (2*s.length+1) ([],(0,())) (by omega) (by omega) (by omega) (by unfold okP;simp)).trans ?_;rw[yw,qvd];unfold qmG pDone;generalize layS 0 s ([],(0,()))=p at hp ⊢;have:=hp.1;rw[dT (show p.1.length+([61,13,10]:LU).length≤room by rw[hr];simp;omega)];cases decide ((0:Int) < p.2.1) <;> rfl⟩
theorem qlf (s sep:LU):Lib.index s sep = -1∨0≤Lib.index s sep:=by
 rcases Lib.index_spec s sep with ⟨h1,_⟩ | ⟨i,h1,_⟩
 ·exact .inl h1
 ·right;omega
theorem qpC (ret:Int→OA) (sep:LU) (h2:2≤sep.length) (hs:sep.length≤1048576):∀ (f:Nat) (s:LU) (m n:Nat),s.length < f→f≤n→s.length≤1048576→m+s.length≤1048576 →
 qkD ret n s sep (m:Nat)=ret ((m+cntF sep f s:Nat):Int)
 | 0,s,m,n,h,_,_,_=>by omega
 | f+1,s,m,0,h,hn,_,_=>by omega
 | f+1,s,m,n+1,h,hn,hl,hm=>by
  show qid _ _ n _ _ _=_;unfold qid;have hok:qiW s sep=true:=by
   unfold qiW;rw[qm hl,qm hs,dT (by omega)];rfl
  rw[hok,show z143 s sep=Lib.index s sep from rfl];rw[show cntF sep (f+1) s=bif Lib.index s sep == -1 then 0 else cntF sep f (s.drop ((Lib.index s sep).toNat+sep.length))+1 from rfl];rcases qlf s sep with e | e
  ·rw[e];rfl
  ·have hr:=Lib.index_room s sep e;rw[show (Lib.index s sep == -1)=false by rw[yB];omega];rw[show wrap .i64 (Lib.index s sep+((sep.length:Nat):Int))=(((Lib.index s sep).toNat+sep.length:Nat):Int) by rw[IntWalk.i64_in _ (by omega)];omega];rw[tn,tn,List.take_length,qd (by omega),dT (by omega),dT (show (((Lib.index s sep).toNat+sep.length:Nat):Int)≤((s.length:Nat):Int) by omega),dT (Int.le_refl _)];simp only[Bool.and_self,yc,yd];rw[qpC ret sep h2 hs f (s.drop ((Lib.index s sep).toNat+sep.length)) (m+1) n (by rw[yK];omega) (by omega) (by rw[yK];omega) (by rw[yK];omega)];congr 1;omega
theorem qKc:∀ (s0:LU) (sep1:LU),(qfH s0 sep1=true)→∃ n,quh n s0 sep1=qKR (z139 s0 sep1):=fun s sep h=>⟨s.length+1,by
 unfold qfH at h;simp only[yf,ym] at h;have hl:=qb h.1;have hs:=qb h.2.1
 by_cases h1:sep.length=1
 ·obtain⟨c,rfl⟩:=List.length_eq_one_iff.1 h1;rfl
 unfold quh z139;rw[show (((sep.length:Nat):Int)==0)=false by rw[yB];omega,show (((sep.length:Nat):Int)==1)=false by rw[yB];omega,show (sep.length==1)=false by rw[yB];exact h1];have:=qpC qKR sep (by omega) hs (s.length+1) s 0 (s.length+1) (by omega) (by omega) hl (by omega);rw[yE] at this;exact this⟩
theorem cap2 (a b:UInt8):z146 [a,b]=(!(([97,98,99,100,101,102]:LU).contains a) && !(([97,98,99,100,101,102]:LU).contains b)):=by
 unfold z146 z200 z109;rw[show anyAt [97,98,99,100,101,102] [a,b] 0=bif ([97,98,99,100,101,102]:LU).contains a then 0 else bif ([97,98,99,100,101,102]:LU).contains b then 1 else -1 from rfl];cases ([97,98,99,100,101,102]:LU).contains a <;> cases ([97,98,99,100,101,102]:LU).contains b <;> rfl
theorem qKd:∀ (s0:LU) (cutset1:LU),(qkA s0 cutset1=true)→∃ n,qBG n s0 cutset1=qBD (z172 s0 cutset1):=fun s cs h=>⟨0,by
 unfold qkA at h;simp only[yf,ym] at h;obtain⟨h1,h2,h3,h4⟩:=h;cases s with
 | nil=>rfl
 | cons x r =>
  unfold qBG;have e1:((((x :: r).length:Nat):Int)==0)=false:=by simp;omega
  have e2:(cs==([]:LU))=false:=by cases cs <;> simp at h2 ⊢
  have e3:(((cs.length:Nat):Int)==1)=false:=by simp;omega
  rw[e1,e2,e3];have e4:qeJ cs=true:=by unfold qeJ;rw[h3,h4];rfl
  have e5:qof (x :: r) (z167 cs).1=true:=h1;rw[e4,e5];simp only[yd,yi,yc];show qBD (z208 (x :: r) (z167 cs).1)=_;unfold z208 z172;rw[show (fun c=>z168 (z167 cs).1 c)=fun c=>cs.contains c from funext (qse cs)]⟩
theorem qKe:∀ (s0:LU) (prefix1:LU),∃ n,qKT n s0 prefix1=qBy (z171 s0 prefix1):=fun s t=>⟨0,by
 unfold qKT z171
 by_cases hc:t.length≤s.length
 ·rw[tn,dT hc];simp (disch:=omega) only [dT,yc,yi];rfl
 ·rw[dF hc,dF (by omega)];rfl⟩
theorem qnk (p:UInt8→Bool) (l:LU):(dropR p l).length≤l.length:=by
 unfold dropR;rw[List.length_reverse];have:=(List.dropWhile_suffix p (l:=l.reverse)).sublist.length_le;simpa using this
theorem qnl:(fun c=>([32,9]:LU).contains c)=blank:=funext fun c=>by
 unfold blank;simp only[List.contains_cons,List.contains_nil,Bool.or_false]
theorem qwL (l:LU):z215 l [61]=qfK l:=by
 unfold z215 qfK;rcases List.eq_nil_or_concat l with rfl | ⟨t,x,rfl⟩
 ·rfl
 ·rw[List.concat_eq_append,dT (by simp),yc];have e:(t++[x]).length - ([61]:LU).length=t.length:=by simp
  rw[e,List.drop_left,List.getLast?_append];simp
theorem qnm (l:LU):(bareL l).length≤l.length:=by
 unfold bareL;have:=qnk blank l;cases qfK (dropR blank l)
 ·exact this
 ·show (dropR blank l).dropLast.length≤_;rw[List.length_dropLast];omega
theorem qKf:∀ (l0:LU),(qtQ l0=true)→∃ n,qKX n l0=qrG (z111 l0).1 (z111 l0).2:=fun l h=>⟨0,by
 have hl:=qb h;unfold qKX;have e1:qkA l [32,9]=true:=by unfold qkA;rw[show lenOk l=true from h];rfl
 have e2:z172 l [32,9]=dropR blank l:=by unfold z172;rw[qnl]
 have hd:=qnk blank l;have e3:qtw (dropR blank l) [61]=true:=qm (by omega);rw[e1,e2,e3];simp only[yi,yc];have e4:z173 (dropR blank l) [61]=(z111 l):=by
  unfold z173 z111 bareL;rw[qwL];cases qfK (dropR blank l)
  ·rfl
  ·show ((dropR blank l).take ((dropR blank l).length - 1),true)=((dropR blank l).dropLast,true);rw[List.dropLast_eq_take]
 rw[e4]⟩
theorem qfi (l:LU) (i k:Nat):(l.drop i).getD k 0=l.getD (i+k) 0:=by
 simp[List.getD,List.getElem?_drop]
theorem qDw (l:LU) (i:Nat):z145 l (i:Int) 61=z145 (l.drop i) 0 61:=by
 unfold z145
 by_cases h:i+3≤l.length
 ·have e1:decide ((i:Int)≤(l.length:Int) - 3)=true:=dT (by omega);have e2:decide ((0:Int)≤((l.drop i).length:Int) - 3)=true:=dT (by rw[yK];omega);rw[e1,e2,dT (show (0:Int)≤(i:Int) by omega),tn];simp only[yi,yc];show qvK l i 61=qvK (l.drop i) 0 61;unfold qvK;rw[qfi,qfi,qfi];rfl
 ·have e1:decide ((i:Int)≤(l.length:Int) - 3)=false:=dF (by omega);have e2:decide ((0:Int)≤((l.drop i).length:Int) - 3)=false:=dF (by rw[yK];omega);rw[e1,e2];simp
theorem qvf (h:(z145 l (i:Int) 61).2=true):i+3≤l.length:=by
 unfold z145 at h
 by_cases hc:(i:Int)≤(l.length:Int) - 3
 ·omega
 ·rw[dF hc,Bool.and_false] at h;cases h
theorem qlg:∀ (k:Nat) (l:LU),qaQ k l=qaQ 0 (l.drop k)
 | 0,l=>rfl
 | k+1,[]=>rfl
 | k+1,x :: r=>by rw[show qaQ (k+1) (x :: r)=qaQ k r from rfl,qlg k r];rfl
theorem qpD (h:i < l.length):qaQ 0 (l.drop i)=bif (z145 l (i:Int) 61).2 then ((z145 l (i:Int) 61).1 :: (qaQ 0 (l.drop (i+3))).1,(qaQ 0 (l.drop (i+3))).2)
 else (l.getD i 0 :: (qaQ 0 (l.drop (i+1))).1,(qaQ 0 (l.drop (i+1))).2+(bif l.getD i 0==61 then 1 else 0)):=by
 have e:=qr (d:=(0:UInt8)) h;rw[qDw,e];show (bif (z145 (l.getD i 0 :: l.drop (i+1)) 0 61).2 then _ else _)=_;rw[qlg 2,List.drop_drop,show i+1+2=i+3 by omega]
theorem qfY:∀ (k:Nat) (l:LU),(qaQ k l).1.length≤l.length∧(qaQ k l).2≤l.length
 | _,[]=>⟨yv _,yv _⟩
 | k+1,x :: r=>by
  have:=qfY k r;rw[show qaQ (k+1) (x :: r)=qaQ k r from rfl,yg];omega
 | 0,x :: r=>by
  have h1:=qfY 2 r;have h2:=qfY 0 r;show (bif (z145 (x :: r) 0 61).2 then _ else _:LU×Nat).1.length≤_∧(bif (z145 (x :: r) 0 61).2 then _ else _:LU×Nat).2≤_;cases (z145 (x :: r) 0 61).2
  ·simp only[yd,yg];cases (x==61) <;> simp only[yc,yd] <;> omega
  ·simp only[yc,yg];omega
theorem qXB (hl:l.length≤1048576) (i:Int) (c:UInt8):qtd l i c=true:=qm hl
theorem qfZ (k0:LU→Int→OA) (l:LU) (hl:l.length≤1048576):∀ (d i n st:Nat) (out:LU),i+d=l.length→d < n→out.length+d≤room→st+d≤1048576 →
 qkB k0 n l out (st:Int) (i:Int)=k0 (out++(qaQ 0 (l.drop i)).1) ((st+(qaQ 0 (l.drop i)).2:Nat):Int)
 | d,i,0,st,out,hi,hn,_,_=>by omega
 | 0,i,n+1,st,out,hi,hn,_,_=>by
  show qeg _ _ n _ _ _ _=_;unfold qeg qaY;rw[dF (by omega),yd,yA (by omega)];show k0 out st=k0 (out++[]) _;rw[yG];rfl
 | d+1,i,n+1,st,out,hi,hn,hb,hs=>by
  have hlt:i < l.length:=by omega
  show qeg _ _ n _ _ _ _=_;unfold qeg qaY;rw[qXB hl,qpD hlt,tn];cases ht:(z145 l (i:Int) 61).2 with
  | true =>
   have h3:=qvf ht;simp (disch:=(first | omega | (simp;omega))) only [dT,yc,yi];rw[show wrap .i64 ((i:Int)+3)=((i+3:Nat):Int) by rw[IntWalk.i64_in _ (by omega)];omega,
    qfZ k0 l hl (d+1 - 3) (i+3) n st _ (by omega) (by omega) (by simp;omega) (by omega),yl]
   rfl
  | false =>
   simp (disch:=(first | omega | (simp;omega))) only [dT,yc,yd,yi];rw[qd (by omega),qd (by omega)];cases hq:l.getD i 0==61 with
   | true =>
    simp only[yc];rw[qfZ k0 l hl d (i+1) n (st+1) _ (by omega) (by omega) (by simp;omega) (by omega),yl];congr 1;omega
   | false =>
    simp only[yd];rw[qfZ k0 l hl d (i+1) n st _ (by omega) (by omega) (by simp;omega) (by omega),yl];rfl
 termination_by d=>d
theorem qKg:∀ (l0:LU),(qtR l0=true)→∃ n,qtZ n l0=qBM (z112 l0).1 (z112 l0).2:=fun l h=>⟨l.length+1,by
 have hl:=qb h;unfold qtZ;have:=qfZ (qmk (l.length+1)) l hl l.length 0 (l.length+1) 0 [] (by omega) (by omega) (by show 0+l.length≤room;unfold room;omega) (by omega);rw[show ((0:Nat):Int)=0 from rfl] at this;rw[this,yw,yE];rfl⟩
theorem qQD:∀ (l0:LU),(qHG l0=true)→∃ n,qUH n l0=qrG (z53 l0).1 (z53 l0).2:=fun l h=>⟨0,by
 have hl:=qb h;unfold qUH;have hb:=qnm l;rw[show qtQ l=true from h,show qtR (z111 l).1=true from qm (by show (bareL l).length≤_;omega)];rfl⟩
theorem qKh:∀ (s0:LU),∃ n,qKU n s0=qKR (z110 s0):=fun s=>⟨0,by
 unfold qKU z110;match s with
 | []=>rfl
 | [x]=>rfl
 | x :: y :: r =>
  have e:z171 (x :: y :: r) [13,10]=((x==13)&&(y==10)):=by
   unfold z171;rw[dT (by simp),yc];show ([x,y]==[13,10])=_;simp[List.cons_beq_cons]
  rw[e,dT (show (0:Int) < (((x :: y :: r).length:Nat):Int) by simp;omega)];show _=qKR ((bif (x==13)&&(y==10) then 2 else 1:Nat):Int);cases (x==13) <;> cases (y==10) <;> rfl⟩
theorem refIs (c:UInt8):z136 c 2=blank c:=qXy c
theorem qjY (k0:LU→OA):∀ (d:Nat) (s:LU) (n:Nat),s.length=d→d < n→s.length≤1048576→qsa k0 n s=k0 (dropR blank s)
 | d,s,0,hd,hn,hl=>by omega
 | d,s,n+1,hd,hn,hl=>by
  show qmP k0 (qsa k0 n) n s=_;unfold qmP qbf;rcases List.eq_nil_or_concat s with rfl | ⟨t,x,rfl⟩
  ·rfl
  ·rw[List.concat_eq_append] at *
   have hlen:(t++[x]).length=t.length+1:=by simp
   have ih:=qjY k0 t.length t n rfl (by omega) (by omega);have hg:(t++[x]).getD (toNat (((t++[x]).length:Int) - 1)) 0=x:=by
    rw[show toNat (((t++[x]).length:Int) - 1)=t.length by omega];simp
   have ht:take (toNat (((t++[x]).length:Int) - 1)) (t++[x])=t:=by
    rw[show toNat (((t++[x]).length:Int) - 1)=t.length by omega];simp
   simp (disch:=omega) only [wr,dT,yc,yi,hg,ht,qpo,refIs];cases blank x with
   | true=>simpa using ih
   | false=>rfl
theorem qcq (k2:Bool→LU→Int→OA) (soft:Bool) (l:LU) (hl:l.length≤1048576):∀ (d i n st:Nat) (out:LU),i+d=l.length→d < n→out.length+d≤room→st+d≤1048576 →
 qmQ k2 n l soft out (st:Int) (i:Int)=k2 soft (out++(qaQ 0 (l.drop i)).1) ((st+(qaQ 0 (l.drop i)).2:Nat):Int)
 | d,i,0,st,out,hi,hn,_,_=>by omega
 | 0,i,n+1,st,out,hi,hn,_,_=>by
  show qgY _ _ n _ _ _ _ _=_;unfold qgY qbI;rw[dF (by omega),yd,yA (by omega)];show k2 soft out st=k2 soft (out++[]) _;rw[yG];rfl
 | d+1,i,n+1,st,out,hi,hn,hb,hs=>by
  have hlt:i < l.length:=by omega
  show qgY _ _ n _ _ _ _ _=_;unfold qgY qbI z149;rw[show qte l i 61=true from qm hl,qpD hlt,tn];cases ht:(z145 l (i:Int) 61).2 with
  | true =>
   have h3:=qvf ht;simp (disch:=(first | omega | (simp;omega))) only [dT,yc,yi];rw[show wrap .i64 ((i:Int)+2)=((i+2:Nat):Int) by rw[IntWalk.i64_in _ (by omega)];omega,qd (by omega),show i+2+1=i+3 by omega,
    qcq k2 soft l hl (d+1 - 3) (i+3) n st _ (by omega) (by omega) (by simp;omega) (by omega),yl]
   rfl
  | false =>
   simp (disch:=(first | omega | (simp;omega))) only [dT,yc,yd,yi];rw[qd (by omega),qd (by omega)];cases hq:l.getD i 0==61 with
   | true =>
    simp only[yc];rw[qcq k2 soft l hl d (i+1) n (st+1) _ (by omega) (by omega) (by simp;omega) (by omega),yl];congr 1;omega
   | false =>
    simp only[yd];rw[qcq k2 soft l hl d (i+1) n st _ (by omega) (by omega) (by simp;omega) (by omega),yl];rfl
 termination_by d=>d
theorem qQE:∀ (l0:LU),(qwp l0=true)→∃ n,qIe n l0=qCG (z85 l0).1 (z85 l0).2.1 (z85 l0).2.2:=fun l h=>⟨l.length+1,by
 have hl:=qb h;unfold qIe;rw[qjY _ l.length l _ rfl (by omega) hl];have hd:=qnk blank l;unfold z85 qao z53 bareL;generalize dropR blank l=m at hd;have fin:∀ (m':LU) (soft:Bool),m'.length≤l.length→qmQ (qgZ (l.length+1)) (l.length+1) m' soft [] 0 0=qCG (qaQ 0 m').1 soft ((qaQ 0 m').2:Int):=fun m' soft hm=>by
  have:=qcq (qgZ (l.length+1)) soft m' (by omega) m'.length 0 (l.length+1) 0 [] (by omega) (by omega) (by show 0+m'.length≤room;unfold room;omega) (by omega);rw[show ((0:Nat):Int)=0 from rfl] at this;rw[this,yw,yE];rfl
 unfold qha qcL qaI;rcases List.eq_nil_or_concat m with rfl | ⟨t,x,rfl⟩
 ·rw[show decide ((0:Int) < ((([]:LU).length:Nat):Int))=false from rfl,yd,fin [] false (by simp)];rfl
 ·rw[List.concat_eq_append] at *
  have hlen:(t++[x]).length=t.length+1:=by simp
  have hg:(t++[x]).getD (toNat (((t++[x]).length:Int) - 1)) 0=x:=by
   rw[show toNat (((t++[x]).length:Int) - 1)=t.length by omega];simp
  have ht:drop (toNat ((0:Nat):Int)) (take (toNat (((t++[x]).length:Int) - 1)) (t++[x]))=t:=by
   rw[show toNat (((t++[x]).length:Int) - 1)=t.length by omega];simp
  have hs:qfK (t++[x])=(x==61):=by unfold qfK;rw[List.getLast?_append];simp
  have hdl:(t++[x]).dropLast=t:=by simp
  simp (disch:=omega) only [wr,dT,yc,yi,hg,ht,hs,hdl];cases x==61 with
  | true=>simp only[yc];rw[fin t true (by omega)]
  | false=>simp only[yd];rw[fin (t++[x]) false (by omega)]⟩
theorem qsr (c:UInt8):([13,10]:LU).contains c=isBrk c:=by
 unfold isBrk;simp only[List.contains_cons,List.contains_nil,Bool.or_false]
theorem qbk (s:LU):qz s++qX s=s:=List.takeWhile_append_dropWhile
theorem qpE:∀ (s:LU) (i:Int),anyAt [13,10] s i=bif (qX s).isEmpty then -1 else i+((qz s).length:Nat)
 | [],i=>rfl
 | x :: r,i=>by
  show (bif ([13,10]:LU).contains x then i else anyAt [13,10] r (i+1))=_;rw[qsr];cases hb:isBrk x with
  | true =>
   have e1:qX (x :: r)=x :: r:=by unfold qX;rw[List.dropWhile_cons,hb];rfl
   have e2:qz (x :: r)=[]:=by unfold qz;rw[List.takeWhile_cons,hb];rfl
   rw[e1,e2];show i=i+0;omega
  | false =>
   have e1:qX (x :: r)=qX r:=by unfold qX;rw[List.dropWhile_cons,hb];rfl
   have e2:qz (x :: r)=x :: qz r:=by unfold qz;rw[List.takeWhile_cons,hb];rfl
   rw[e1,e2,yd,qpE r (i+1)];cases (qX r).isEmpty
   ·simp only[yd,yg];omega
   ·rfl
theorem qDx:∀ l:LU,brkA l≤l.length
 | []=>yv _
 | [x]=>yv _
 | x :: y :: r=>by
  show (bif (x==13)&&(y==10) then 2 else 1)≤_;simp only[yg];cases (x==13)&&(y==10) <;> simp
theorem qQF:∀ l:LU,l≠[]→0 < brkA l
 | [],h=>absurd rfl h
 | [x],_=>Nat.one_pos
 | x :: y :: r,_=>by
  show 0 < (bif (x==13)&&(y==10) then 2 else 1);cases (x==13)&&(y==10) <;> decide
theorem qio (s:LU):(qz s).length+(endOf s).length+(qbB s).length=s.length:=by
 have h:=congrArg List.length (qbk s);rw[yn] at h;unfold endOf qbB;rw[yz,yK];have:=qDx (qX s);omega
theorem qDy (h:s≠[]):(qbB s).length < s.length:=by
 have hp:=qio s;cases hb:qX s with
 | nil =>
  have h1:=qbk s;rw[hb,yG] at h1;have:qbB s=[]:=by unfold qbB;rw[hb];rfl
  rw[this];cases s with
  | nil=>exact absurd rfl h
  | cons x r=>simp
 | cons x r =>
  have:=qQF (qX s) (by rw[hb];simp);have h2:=qDx (qX s);have h3:(endOf s).length=brkA (qX s):=by unfold endOf;rw[yz];omega
  omega
theorem anyOk (hl:s.length≤1048576):qkw s [13,10]=true:=by
 unfold qkw;rw[qm hl];rfl
theorem qKi (s:LU):s.take (qz s).length=qz s:=by
 have:=congrArg (take (qz s).length) (qbk s);rw[List.take_left] at this;exact this.symm
theorem qKj (s:LU):s.drop (qz s).length=qX s:=by
 have:=congrArg (drop (qz s).length) (qbk s);rw[List.drop_left] at this;exact this.symm
theorem qlh (V:Sigma Inv) (K:Den V.1→LU→OA):∀ (m:Nat) (x:Den V.1) (s:LU),s.length≤1048576→(qkg (fun x a0 a1=>V.2.spec x [⟨(.sl .byte),a0⟩,⟨(.sl .byte),a1⟩]) m x s).1=true →
 qhu V K K m x s=K (qkg (fun x a0 a1=>V.2.spec x [⟨(.sl .byte),a0⟩,⟨(.sl .byte),a1⟩]) m x s).2.1 (qkg (fun x a0 a1=>V.2.spec x [⟨(.sl .byte),a0⟩,⟨(.sl .byte),a1⟩]) m x s).2.2
 | 0,x,s,_,h=>by cases h
 | m+1,x,s,hl,h=>by
  show qia V K K (qhu V K K m) m x s=_;unfold qia qbT qbS qbR qbQ qay qM qax qaw;unfold qkg at h ⊢
  by_cases hs:s=[]
  ·subst hs;rfl
  ·have e0:s.isEmpty=false:=by cases s with
    | nil=>exact absurd rfl hs
    | cons _ _=>rfl
   have hpos:0 < s.length:=List.length_pos_iff.2 hs;rw[e0,yd] at h;rw[e0,yd,dT (show (0:Int) < ((s.length:Nat):Int) by omega),yc,anyOk hl];simp only[yi,yc];have hp:=qio s;have hb:=qDx (qX s);have hlb:=congrArg List.length (qbk s);rw[yn] at hlb;have hrl:=qDy hs;have fin:(bif (V.2.spec x [⟨(.sl .byte),qz s⟩,⟨(.sl .byte),endOf s⟩]).1 then (bif !(V.2.spec x [⟨(.sl .byte),qz s⟩,⟨(.sl .byte),endOf s⟩]).2.1 then K (V.2.spec x [⟨(.sl .byte),qz s⟩,⟨(.sl .byte),endOf s⟩]).2.2 s
    else qhu V K K m (V.2.spec x [⟨(.sl .byte),qz s⟩,⟨(.sl .byte),endOf s⟩]).2.2 (qbB s)) else none)=_:=(?_:_=K (bif (V.2.spec x [⟨(.sl .byte),qz s⟩,⟨(.sl .byte),endOf s⟩]).1 then
     bif (V.2.spec x [⟨(.sl .byte),qz s⟩,⟨(.sl .byte),endOf s⟩]).2.1 then qkg (fun x a0 a1=>V.2.spec x [⟨(.sl .byte),a0⟩,⟨(.sl .byte),a1⟩]) m (V.2.spec x [⟨(.sl .byte),qz s⟩,⟨(.sl .byte),endOf s⟩]).2.2 (qbB s) else (true,(V.2.spec x [⟨(.sl .byte),qz s⟩,⟨(.sl .byte),endOf s⟩]).2.2,s)
     else (false,x,s)).2.1 (bif (V.2.spec x [⟨(.sl .byte),qz s⟩,⟨(.sl .byte),endOf s⟩]).1 then
     bif (V.2.spec x [⟨(.sl .byte),qz s⟩,⟨(.sl .byte),endOf s⟩]).2.1 then qkg (fun x a0 a1=>V.2.spec x [⟨(.sl .byte),a0⟩,⟨(.sl .byte),a1⟩]) m (V.2.spec x [⟨(.sl .byte),qz s⟩,⟨(.sl .byte),endOf s⟩]).2.2 (qbB s) else (true,(V.2.spec x [⟨(.sl .byte),qz s⟩,⟨(.sl .byte),endOf s⟩]).2.2,s)
     else (false,x,s)).2.2)
   ·have eA:z109 s [13,10]=bif (qX s).isEmpty then (-1:Int) else (((qz s).length:Nat):Int):=by
     unfold z109;rw[qpE];cases (qX s).isEmpty
     ·simp only[yd];omega
     ·rfl
    rw[eA];cases hbe:(qX s).isEmpty with
    | true =>
     have hbn:qX s=[]:=List.isEmpty_iff.1 hbe;have hls:qz s=s:=by have:=qbk s;rw[hbn,yG] at this;exact this
     have eE:endOf s=[]:=by unfold endOf;rw[hbn];rfl
     have eR:qbB s=[]:=by unfold qbB;rw[hbn];rfl
     rw[eE,eR,hls] at fin;simp only[yc,tn,List.take_length,List.drop_length];rw[show z110 []=0 from rfl,Int.add_zero,wr (show -9223372036854775808≤((s.length:Nat):Int)∧((s.length:Nat):Int)≤9223372036854775807 by omega)];simp (disch:=omega) only [dT,yc,yd,yi,tn,List.take_length,List.drop_length];rw[hls,eE,eR];exact fin
    | false =>
     have eB:drop (qz s).length s=qX s:=qKj s;simp only[yd,tn,List.take_length];rw[dF (show ¬ (((qz s).length:Nat):Int) < 0 by omega),yd,eB,show z110 (qX s)=((brkA (qX s):Nat):Int) from rfl,
      show wrap .i64 ((((qz s).length:Nat):Int)+((brkA (qX s):Nat):Int))=(((qz s).length+brkA (qX s):Nat):Int) by rw[IntWalk.i64_in _ (by omega)];omega,tn]
     simp (disch:=omega) only [dT,yc,yd,yi];have eT:drop 0 (take (qz s).length s)=qz s:=qKi s;have eE:drop (qz s).length (take ((qz s).length+brkA (qX s)) s)=endOf s:=by
      unfold endOf;rw[List.drop_take,eB,Nat.add_sub_cancel_left]
     have eR:drop ((qz s).length+brkA (qX s)) s=qbB s:=by
      unfold qbB;rw[← eB,List.drop_drop]
     rw[eT,eE,eR];exact fin
   ·cases h1:(V.2.spec x [⟨(.sl .byte),qz s⟩,⟨(.sl .byte),endOf s⟩]).1 with
    | false=>rw[h1] at h;cases h
    | true =>
     rw[h1] at h;simp only[yc] at h ⊢;cases h2:(V.2.spec x [⟨(.sl .byte),qz s⟩,⟨(.sl .byte),endOf s⟩]).2.1 with
     | false=>rfl
     | true =>
      rw[h2] at h;simp only[yc,Bool.not_true,yd] at h ⊢;exact qlh V K m _ (qbB s) (by omega) h
theorem qKk (V:Sigma Inv):∀ (x0:Den V.1) (x1:LU),(z108 (fun x a0 a1=>V.2.spec x [⟨(.sl .byte),a0⟩,⟨(.sl .byte),a1⟩]) x0 x1).1=true→∃ n,qBC V n x0 x1=qji V (z108 (fun x a0 a1=>V.2.spec x [⟨(.sl .byte),a0⟩,⟨(.sl .byte),a1⟩]) x0 x1).2.1 (z108 (fun x a0 a1=>V.2.spec x [⟨(.sl .byte),a0⟩,⟨(.sl .byte),a1⟩]) x0 x1).2.2:=fun x s h=>⟨s.length+1,by
 unfold z108 at h ⊢;cases hl:lenOk s with
 | false=>rw[hl] at h;cases h
 | true =>
  rw[hl] at h;simp only[yc] at h ⊢;exact qlh V (qji V) (s.length+1) x s (qb hl) h⟩
theorem qli:∀ (s cur:LU),qad false cur s=bif (qX s).isEmpty then [(cur++s,[])] else (cur++qz s,endOf s) :: qad false [] (qbB s)
 | [],cur=>by show [(cur,[])]=[(cur++[],[])];rw[yG]
 | x :: r,cur=>by
  show (bif isBrk x then (bif (x==13)&&(r.head? == some 10) then (cur,[13,10]) :: qad true [] r else (cur,[x]) :: qad false [] r) else qad false (cur++[x]) r)=_;cases hb:isBrk x with
  | true =>
   have e1:qX (x :: r)=x :: r:=by unfold qX;rw[List.dropWhile_cons,hb];rfl
   have e2:qz (x :: r)=[]:=by unfold qz;rw[List.takeWhile_cons,hb];rfl
   unfold endOf qbB;rw[e1,e2,yG];simp only[yc,List.isEmpty_cons,yd];cases r with
   | nil =>
    have:((x==13)&&(([]:LU).head? == some 10))=false:=by simp
    rw[this];rfl
   | cons y r' =>
    show (bif (x==13)&&(some y==some 10) then _ else _)=(cur,(x :: y :: r').take (bif (x==13)&&(y==10) then 2 else 1)) :: qad false [] ((x :: y :: r').drop (bif (x==13)&&(y==10) then 2 else 1));rw[show (some y==some (10:UInt8))=(y==10) from rfl];cases h1:x==13 with
    | false=>rfl
    | true =>
     cases h2:y==10 with
     | false=>rfl
     | true =>
      simp only[beq_iff_eq] at h1 h2;subst h1 h2;rfl
  | false =>
   have e1:qX (x :: r)=qX r:=by unfold qX;rw[List.dropWhile_cons,hb];rfl
   have e2:qz (x :: r)=x :: qz r:=by unfold qz;rw[List.takeWhile_cons,hb];rfl
   have e3:endOf (x :: r)=endOf r:=by unfold endOf;rw[e1]
   have e4:qbB (x :: r)=qbB r:=by unfold qbB;rw[e1]
   rw[yd,qli r (cur++[x]),e1,e2,e3,e4];simp
theorem qdW (l:LU):(z53 l).1.length≤l.length:=yL (qfY 0 (bareL l)).1 (qnm l)
theorem qss (l:LU):qao l≤l.length:=yL (qfY 0 (bareL l)).2 (qnm l)
def readG (s:LU):LU:=(qad false [] s).flatMap qcT
theorem qwM (h:qX s=[]):qz s=s∧endOf s=[]∧qbB s=[]:=by
 refine⟨?_,?_,?_⟩
 ·have:=qbk s;rw[h,yG] at this;exact this
 ·unfold endOf;rw[h];rfl
 ·unfold qbB;rw[h];rfl
theorem qpF (s:LU):readG s=qcT (qz s,endOf s)++readG (qbB s):=by
 unfold readG;rw[qli s []];cases hb:(qX s).isEmpty with
 | true =>
  obtain⟨h1,h2,h3⟩:=qwM (List.isEmpty_iff.1 hb);rw[h1,h2,h3];show [(s,[])].flatMap qcT=qcT (s,[])++[([],[])].flatMap qcT;simp only[List.flatMap_cons,List.flatMap_nil];rfl
 | false=>rfl
theorem qpG (l e:LU):(qcT (l,e)).length≤l.length+e.length:=by
 unfold qcT;rw[yn];have:=qdW l;cases (z53 l).2
 ·simp only[yd];omega
 ·simp only[yc,List.length_nil];omega
theorem qvg:∀ (n:Nat) (s:LU),s.length≤n→(readG s).length≤s.length
 | n,[],_=>yv _
 | 0,x :: r,h=>by simp at h
 | n+1,x :: r,h=>by
  have hr:=qDy (s:=x :: r) (by simp);have hp:=qio (x :: r);have ih:=qvg n (qbB (x :: r)) (by omega);rw[qpF,yn];have:=qpG (qz (x :: r)) (endOf (x :: r));omega
theorem qDz (n:Nat) (out l e:LU) (hl:l.length≤1048576) (hr:out.length+l.length+e.length≤room) :
 qrH n (false,(out,())) l e=(true,true,(false,(out++qcT (l,e),()))):=by
 unfold qrH;have h1:=qdW l;have ok:qHG l=true:=qm hl;simp only[yd];rw[ok];simp (disch:=omega) only [yi,yc,dT];unfold qcT;cases (z53 l).2 with
 | true =>
  simp only[Bool.not_true,yd,yc,yG];rw[qhU];rfl
 | false =>
  simp only[Bool.not_false,yc,yd];rw[dT (by rw[yn];omega),yc,qhU,yl];rfl
theorem qDA (k:Nat):∀ (m:Nat) (s out:LU),s.length < m→s.length≤1048576→out.length+s.length≤room→qkg (qrH k) m (false,(out,())) s=(true,(false,(out++readG s,())),[])
 | 0,s,out,h,_,_=>by omega
 | m+1,[],out,_,_,_=>by
  show (true,(false,(out,())),[])=_;rw[show readG []=[] from rfl,yG]
 | m+1,x :: r,out,h,hl,hr=>by
  have hlt:=qDy (s:=x :: r) (by simp);have hp:=qio (x :: r);have hrd:=qpG (qz (x :: r)) (endOf (x :: r));unfold qkg;rw[show (x :: r).isEmpty=false from rfl,yd,qDz k out _ _ (by omega) (by omega)];simp only[yc];rw[qDA k m (qbB (x :: r)) _ (by omega) (by omega) (by rw[yn];omega),qpF (x :: r),yl]
theorem qQG:∀ (s0:LU),(qHH s0=true)→∃ n,qPg n s0=qBD (z27 s0):=fun s h=>⟨0,by
 have hl:=qb h;unfold qPg;have e:z108 (qrH 0) (false,(([]:LU),())) s=(true,(false,(readG s,())),[]):=by
  unfold z108;rw[show lenOk s=true from h,yc,qDA 0 (s.length+1) s [] (by omega) hl (by show 0+s.length≤room;unfold room;omega)];rfl
 rw[e];rfl⟩
theorem qDB (s:LU):(z27 s).length≤s.length:=qvg s.length s (yv _)
theorem qwN (cur:LU) (x:UInt8) (r:LU):qad true cur (x :: r)=qad false cur r:=rfl
theorem qKl (cur:LU):(qad false cur []).flatMap qcT=(z53 cur).1:=by
 show [(cur,[])].flatMap qcT=_;simp only[List.flatMap_cons,List.flatMap_nil,yG];unfold qcT;cases (z53 cur).2 <;> simp
theorem qdh (k0:LU→Int→OA) (s:LU) (hl:s.length≤1048576):∀ (d i n st:Nat) (out line:LU),i+d=s.length→d+1 < n→line.length≤i→out.length+line.length+d≤1048576→st+line.length+d≤1048576 →
 qki k0 n s out line (st:Int) (i:Int)=k0 (out++(qad false line (s.drop i)).flatMap qcT) ((st+qcU (qad false line (s.drop i)):Nat):Int)
 | d,i,0,st,out,line,hi,hn,_,_,_=>by omega
 | d,i,n+1,st,out,line,hi,hn,hli,hb,hs=>by
  have hLine:qwp line=true:=qm (by omega);have hlen:(z85 line).1.length≤line.length:=qdW line;have hstr:=qss line;have hw:wrap .i64 ((st:Int)+(z85 line).2.2)=((st+qao line:Nat):Int):=by
   rw[show (z85 line).2.2=((qao line:Nat):Int) from rfl,IntWalk.i64_in _ (by omega)];omega
  show qmR _ _ n _ _ _ _ _=_;unfold qmR qew qbg qev qaa qZ qt qv qB qg qcM;rw[hLine,hw,tn,dT (show (i:Int)≤((s.length:Nat):Int) by omega),yc];have hroom:room=1073741824:=rfl;cases d with
  | zero =>
   have he:i=s.length:=by omega
   subst he;rw[dF (by omega),yd,List.drop_length,qKl];simp (disch:=omega) only [dT,yc,yi];rw[show (((s.length:Nat):Int)==((s.length:Nat):Int))=true by simp,yc];rfl
  | succ d =>
   have hlt:i < s.length:=by omega
   have hne:((i:Int)==((s.length:Nat):Int))=false:=by simp;omega
   rw[dT (show (i:Int) < ((s.length:Nat):Int) by omega),hne];simp (disch:=omega) only [dT,yc,yd,yi];rw[qd (by omega),tn,qr (d:=(0:UInt8)) hlt];have hstep:qad false line (s.getD i 0 :: s.drop (i+1))=bif isBrk (s.getD i 0) then
    bif (s.getD i 0==13)&&((s.drop (i+1)).head? == some 10) then (line,[13,10]) :: qad true [] (s.drop (i+1)) else (line,[s.getD i 0]) :: qad false [] (s.drop (i+1))
    else qad false (line++[s.getD i 0]) (s.drop (i+1)):=rfl
   have h2:∀ (h2:i+1 < s.length),((s.drop (i+1)).head? == some 10)=(s.getD (i+1) 0==10):=fun h2=>by
    rw[qr (d:=(0:UInt8)) h2];rfl
   have h3:¬ i+1 < s.length→((s.drop (i+1)).head? == some (10:UInt8))=false:=fun h3=>by rw[yA (by omega)];rfl
   rw[hstep];generalize hc:s.getD i 0=c;have goLine:∀ (h13:(c != 13)=true) (h10:(c != 10)=true),isBrk c=false:=fun h13 h10=>by
    unfold isBrk;simp only[bne,Bool.not_eq_true'] at h13 h10;rw[h13,h10];rfl
   have go1:∀ out',out'.length≤out.length+line.length+1→qki k0 n s out' [] ((st+qao line:Nat):Int) ((i+1:Nat):Int)=k0 (out'++(qad false [] (s.drop (i+1))).flatMap qcT) ((st+qao line+qcU (qad false [] (s.drop (i+1))):Nat):Int) :=
    fun out' ho=>qdh k0 s hl d (i+1) n (st+qao line) out' [] (by omega) (by omega) (by simp) (by simp only[List.length_nil];omega) (by simp only[List.length_nil];omega)
   have fin1:isBrk c=true→((c==13)&&((s.drop (i+1)).head? == some 10))=false →
    (bif !((z85 line).2.1) then (bif decide (List.length (out++(z85 line).1)+List.length [c]≤room) then qki k0 n s (out++(z85 line).1++[c]) [] ((st+qao line:Nat):Int) ((i+1:Nat):Int) else none)
     else qki k0 n s (out++(z85 line).1) [] ((st+qao line:Nat):Int) ((i+1:Nat):Int)) =
    k0 (out++List.flatMap qcT (bif isBrk c then bif (c==13)&&((s.drop (i+1)).head? == some 10) then (line,[13,10]) :: qad true [] (s.drop (i+1)) else (line,[c]) :: qad false [] (s.drop (i+1)) else qad false (line++[c]) (s.drop (i+1))))
     ((st+qcU (bif isBrk c then bif (c==13)&&((s.drop (i+1)).head? == some 10) then (line,[13,10]) :: qad true [] (s.drop (i+1)) else (line,[c]) :: qad false [] (s.drop (i+1)) else qad false (line++[c]) (s.drop (i+1))):Nat):Int):=fun k1 k2=>by
    rw[k1,k2];simp only[yc,yd,List.flatMap_cons];have es:qcU ((line,[c]) :: qad false [] (s.drop (i+1)))=qao line+qcU (qad false [] (s.drop (i+1))):=rfl;rw[es,← yS];have er:qcT (line,[c])=(z85 line).1++(bif (z85 line).2.1 then [] else [c]):=rfl;rw[er];cases (z85 line).2.1 with
    | true =>
     simp only[Bool.not_true,yd,yc,yG];rw[go1 _ (by rw[yn];omega),yl]
    | false =>
     simp only[Bool.not_false,yc,yd];rw[dT (by simp only[yn,yg,List.length_nil];omega),yc,go1 _ (by simp only[yn,yg,List.length_nil];omega)];simp only[yl]
   by_cases h13:c=13
   ·subst h13;rw[show ((13:UInt8) != 13)=false from rfl,yd,show ((13:UInt8)==13)=true from rfl,yc]
    by_cases hlt2:i+1 < s.length
    ·rw[dT (show ((i+1:Nat):Int) < ((s.length:Nat):Int) by omega),yc,qd (by omega)];simp (disch:=omega) only [dT,yc,yi];cases h10:s.getD (i+1) 0==10 with
     | true =>
      simp only[yc];have e1:s.drop (i+1)=s.getD (i+1) 0 :: s.drop (i+1+1):=qr (d:=(0:UInt8)) hlt2;rw[h2 hlt2,h10];simp only[yi,yc,show isBrk 13=true from rfl,show ((13:UInt8)==13)=true from rfl];rw[e1,qwN];obtain⟨d',rfl⟩:∃ d',d=d'+1:=⟨d - 1,by omega⟩;have go2:∀ out',out'.length≤out.length+line.length+2→qki k0 n s out' [] ((st+qao line:Nat):Int) ((i+1+1:Nat):Int)=k0 (out'++(qad false [] (s.drop (i+1+1))).flatMap qcT) ((st+qao line+qcU (qad false [] (s.drop (i+1+1))):Nat):Int) :=
       fun out' ho=>qdh k0 s hl d' (i+1+1) n (st+qao line) out' [] (by omega) (by omega) (by simp) (by simp only[List.length_nil];omega) (by simp only[List.length_nil];omega)
      have es:qcU ((line,[13,10]) :: qad false [] (s.drop (i+1+1)))=qao line+qcU (qad false [] (s.drop (i+1+1))):=rfl;rw[es,← yS,List.flatMap_cons,show qcT (line,[13,10])=(z85 line).1++(bif (z85 line).2.1 then [] else [13,10]) from rfl];cases (z85 line).2.1 with
      | true =>
       simp only[Bool.not_true,yd,yc,yG];rw[go2 _ (by rw[yn];omega),yl]
      | false =>
       simp only[Bool.not_false,yc,yd];rw[dT (by simp only[yn,yg,List.length_nil];omega),yc,dT (by simp only[yn,yg,List.length_nil];omega),yc,go2 _ (by simp only[yn,yg,List.length_nil];omega)];simp only[yl];rfl
     | false =>
      simp only[yd];exact fin1 rfl (by rw[h2 hlt2,h10];rfl)
    ·rw[dF (show ¬ ((i+1:Nat):Int) < ((s.length:Nat):Int) by omega),yd];exact fin1 rfl (by rw[h3 hlt2];rfl)
   ·have e13:(c==13)=false:=by simp[h13]
    have n13:(c != 13)=true:=by simp[bne,h13]
    rw[n13,yc,e13]
    by_cases h10:c=10
    ·subst h10;rw[show ((10:UInt8) != 10)=false from rfl,yd,yd];exact fin1 rfl rfl
    ·have n10:(c != 10)=true:=by simp[bne,h10]
     rw[n10,yc,dT (by simp only[yg,List.length_nil];omega),yc,goLine n13 n10,yd];exact qdh k0 s hl d (i+1) n st out (line++[c]) (by omega) (by omega) (by simp;omega) (by simp only[yn,yg,List.length_nil];omega) (by simp only[yn,yg,List.length_nil];omega)
 termination_by d=>d
theorem qQH:∀ (s0:LU),(qHI s0=true)→∃ n,qIf n s0=qBM (z40 s0).1 (z40 s0).2:=fun s h=>⟨s.length+2,by
 have hl:=qb h;unfold qIf;have:=qdh (qsb (s.length+2)) s hl s.length 0 (s.length+2) 0 [] [] (by omega) (by omega) (yv _) (by simp only[List.length_nil];omega) (by simp only[List.length_nil];omega);rw[show ((0:Nat):Int)=0 from rfl] at this;rw[this,yw,yE];rfl⟩
end
end Go.Av
