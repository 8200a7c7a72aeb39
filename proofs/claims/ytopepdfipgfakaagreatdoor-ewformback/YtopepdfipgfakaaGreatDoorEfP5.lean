import Derived.Test.YtopepdfipgfakaaGreatDoorEfP4
namespace Go.Av
set_option linter.unusedVariables false
set_option linter.unusedSimpArgs false
theorem qrE {σ:Type} (sp:Bool×Bool×σ) (x:σ) (R N:σ→Option AV) (E:σ→Bool×σ) (hN:∀ y,(E y).1=true→N y=R (E y).2) (h:(bif sp.1 then bif sp.2.1 then E sp.2.2 else (true,sp.2.2) else (false,x)).1=true) :
 (bif sp.1 then bif (!sp.2.1) then R sp.2.2 else N sp.2.2 else none)=R (bif sp.1 then bif sp.2.1 then E sp.2.2 else (true,sp.2.2) else (false,x)).2:=by
 obtain ⟨a,b,y⟩:=sp
 cases a with
 | false=>cases h
 | true =>
  cases b with
  | false=>rfl
  | true=>exact hN y h
theorem qmq (V:Sigma Inv) (j:Nat) (s s29:List UInt8) (hl:s.length≤1048576):∀ (d i n:Nat) (x:Den V.1),i+d=s.length→d < n→(eachB (fun x a0 a1=>V.2.spec x [⟨.byte,a0⟩,⟨(.int .i64),a1⟩]) x (s.drop i)).1=true →
 qdF V (qaH V) (qbD V j) n s (s.length:Nat) (i:Nat) x s29=qaH V (eachB (fun x a0 a1=>V.2.spec x [⟨.byte,a0⟩,⟨(.int .i64),a1⟩]) x (s.drop i)).2 s29
 | d,i,0,x,hi,hn,_=>by omega
 | 0,i,n+1,x,hi,hn,h=>by
  obtain rfl:i=s.length:=by omega
  show qcp V _ _ _ n _ _ _ _ _=_
  unfold qcp
  rw [dF (by omega),cond_false,List.drop_length]
  rfl
 | d+1,i,n+1,x,hi,hn,h=>by
  show qcp V _ _ (qdF V (qaH V) (qbD V j) n) n _ _ _ _ _=_
  unfold qcp
  have hlt:i < s.length:=by omega
  have e:eachB (fun x a0 a1=>V.2.spec x [⟨.byte,a0⟩,⟨(.int .i64),a1⟩]) x (s.drop i)=bif s.getD i 0==61 then (true,x) else
   bif (V.2.spec x [⟨.byte,s.getD i 0⟩,⟨(.int .i64),(bif (z150 (s.getD i 0)).2 then (z150 (s.getD i 0)).1 else -1)⟩]).1 then
    bif (V.2.spec x [⟨.byte,s.getD i 0⟩,⟨(.int .i64),(bif (z150 (s.getD i 0)).2 then (z150 (s.getD i 0)).1 else -1)⟩]).2.1 then
     eachB (fun x a0 a1=>V.2.spec x [⟨.byte,a0⟩,⟨(.int .i64),a1⟩]) (V.2.spec x [⟨.byte,s.getD i 0⟩,⟨(.int .i64),(bif (z150 (s.getD i 0)).2 then (z150 (s.getD i 0)).1 else -1)⟩]).2.2 (s.drop (i+1))
    else (true,(V.2.spec x [⟨.byte,s.getD i 0⟩,⟨(.int .i64),(bif (z150 (s.getD i 0)).2 then (z150 (s.getD i 0)).1 else -1)⟩]).2.2)
   else (false,x):=by
   rw [qad hlt]; rfl
  rw [e] at h ⊢
  simp (disch:=omega) only [dT,cond_true,Bool.and_true,tn]
  cases h61:s.getD i 0==61 with
  | true=>rfl
  | false =>
   rw [h61] at h
   rw [cond_false] at h ⊢
   rw [cond_false]
   have hN:∀ y,(eachB (fun x a0 a1=>V.2.spec x [⟨.byte,a0⟩,⟨(.int .i64),a1⟩]) y (s.drop (i+1))).1=true→qdF V (qaH V) (qbD V j) n s (s.length:Nat) (IntKind.wrap .i64 (((i:Nat):Int)+1)) y s29=qaH V (eachB (fun x a0 a1=>V.2.spec x [⟨.byte,a0⟩,⟨(.int .i64),a1⟩]) y (s.drop (i+1))).2 s29:=fun y hy=>by
    rw [qv (by omega)]
    exact qmq V j s s29 hl d (i+1) n y (by omega) (by omega) hy
   cases hv:(z150 (s.getD i 0)).2 with
   | true =>
    rw [hv] at h
    exact qrE (V.2.spec x [⟨.byte,s.getD i 0⟩,⟨(.int .i64),(z150 (s.getD i 0)).1⟩]) x (fun y=>qaH V y s29) _ _ hN h
   | false =>
    rw [hv] at h
    exact qrE (V.2.spec x [⟨.byte,s.getD i 0⟩,⟨(.int .i64),-1⟩]) x (fun y=>qaH V y s29) _ _ hN h
theorem qvM (V:Sigma Inv):∀ (x0:Den V.1) (x1:List UInt8),(z219 (fun x a0 a1=>V.2.spec x [⟨.byte,a0⟩,⟨(.int .i64),a1⟩]) x0 x1).1=true→∃ n,qmK V n x0 x1=qaH V (z219 (fun x a0 a1=>V.2.spec x [⟨.byte,a0⟩,⟨(.int .i64),a1⟩]) x0 x1).2.1 (z219 (fun x a0 a1=>V.2.spec x [⟨.byte,a0⟩,⟨(.int .i64),a1⟩]) x0 x1).2.2:=fun x s h=>⟨s.length+1,by
 unfold z219 at h ⊢
 cases hk:lenOk s with
 | false=>rw [hk] at h; cases h
 | true =>
  rw [hk,cond_true] at h
  rw [cond_true]
  unfold qmK
  have:=qmq V (s.length+1) s s (qm hk) s.length 0 (s.length+1) x (by omega) (by omega) (by rw [List.drop_zero]; exact h)
  rw [List.drop_zero] at this
  exact this⟩
theorem qvN (c:UInt8) (r:List UInt8):digB (c :: r)=bif c==61 then [] else bif isB64 c then c :: digB r else digB r:=by
 unfold digB
 rw [List.takeWhile_cons]
 cases h:c==61 with
 | true =>
  have:(c != 61)=false:=by rw [bne,h]; rfl
  rw [this]; rfl
 | false =>
  have:(c != 61)=true:=by rw [bne,h]; rfl
  rw [this,if_pos rfl,cond_false,List.filter_cons]
  cases isB64 c <;> rfl
theorem qzi (j:Nat) (c:UInt8) (out:List UInt8) (h m:Int):qaI j (false,(out,(h,(m,())))) c (-1)=(true,true,(false,(out,(h,(m,()))))):=by
 unfold qaI
 rw [show decide ((-1:Int) < 0)=true from rfl,cond_true]
 show (bif false then _ else yfin _ _ _)=_
 rw [cond_false,qlB]; rfl
theorem qvO (j:Nat) (c:UInt8) (out:List UInt8) (h m n:Nat) (hm:m=0∨m=2∨m=4∨m=6) (hh:h < 2 ^ m) (hn:n < 64) (ho:out.length+1≤room) :
 qaI j (false,(out,((h:Int),((m:Int),())))) c (n:Int)=(true,true,(false,(out++decO m h n,(((decH m h n:Nat):Int),(((decM m:Nat):Int),()))))):=by
 unfold qaI
 rw [dF (show ¬ (n:Int) < 0 by omega),cond_false]
 have hs:=qxi (fun o (h m:Int)=>(some (.dat (.pair .bool (.pair (.sl .byte) (.pair (.int .i64) (.pair (.int .i64) .unit)))) (false,(o,(h,(m,())))) none):Option AV)) none out h m n hm hh hn ho
 refine (show _=yfin (.pair (.sl .byte) (.pair (.int .i64) (.pair (.int .i64) .unit))) (false,(out,((h:Int),((m:Int),())))) (decT (fun o (h m:Int)=>(some (.dat (.pair .bool (.pair (.sl .byte) (.pair (.int .i64) (.pair (.int .i64) .unit)))) (false,(o,(h,(m,())))) none):Option AV)) none out h m n) from rfl).trans ?_
 rw [hs,qlB]; rfl
theorem qfW (j:Nat):∀ (s t out:List UInt8) (h m:Nat),DecSt t out m h→out.length+s.length≤1048576 →
 ∃ (out':List UInt8) (h' m':Nat),eachB (qaI j) (false,(out,((h:Int),((m:Int),())))) s=(true,(false,(out',((h':Int),((m':Int),())))))∧DecSt (t++digB s) out' m' h'
 | [],t,out,h,m,e,_=>⟨out,h,m,rfl,by rw [show digB []=[] from rfl,List.append_nil]; exact e⟩
 | c :: r,t,out,h,m,e,hl=>by
  rw [qvN]
  simp only [List.length_cons] at hl
  cases h61:c==61 with
  | true =>
   refine ⟨out,h,m,?_,by rw [cond_true,List.append_nil]; exact e⟩
   show (bif c==61 then _ else _)=_
   rw [h61]; rfl
  | false =>
   rw [cond_false]
   cases hv:(z150 c).2 with
   | false =>
    rw [show isB64 c=false from hv,cond_false]
    obtain ⟨out',h',m',k1,k2⟩:=qfW j r t out h m e (by omega)
    refine ⟨out',h',m',?_,k2⟩
    unfold eachB
    rw [h61,cond_false,hv,cond_false,qzi,← k1]; rfl
   | true =>
    obtain ⟨v,hv1,hv2⟩:=qxh c
    rw [show isB64 c=true from hv,cond_true]
    have hd:=qrC m h v
    obtain ⟨out',h',m',k1,k2⟩:=qfW j r (t++[c]) (out++decO m h v) (decH m h v) (decM m) (e.step c v hv1 hv2) (by rw [List.length_append]; omega)
    refine ⟨out',h',m',?_,by rw [List.append_assoc] at k2; exact k2⟩
    unfold eachB
    rw [h61,cond_false,hv,cond_true,hv1,qvO j c out h m v e.cases e.lt hv2 (by unfold room; omega),← k1]; rfl
theorem qvP:∀ (s0:List UInt8),(qml s0=true)→∃ n,qsQ n s0=qgj (z143 s0).1 (z143 s0).2:=fun s h=>⟨0,by
 have hl:=qm h
 obtain ⟨out,hh,m,k1,k2⟩:=qfW 0 s [] [] 0 0 DecSt.nil (by simpa using hl)
 have k3:=k2.octets
 rw [List.nil_append] at k3
 have e:z219 (qaI 0) (false,(([]:List UInt8),((0:Int),((0:Int),())))) s=(true,(false,(out,((hh:Int),((m:Int),())))),s):=by
  unfold z219
  rw [show lenOk s=true from h,cond_true]
  have k1':eachB (qaI 0) (false,(([]:List UInt8),((0:Int),((0:Int),())))) s=(true,(false,(out,((hh:Int),((m:Int),()))))):=k1
  rw [k1']
 unfold qsQ
 rw [e]
 simp only [cond_true,cond_false,qhp]
 unfold z143
 rw [k3.1,k3.2.1]⟩
theorem qzj:∀ (s0:List UInt8),(qvo s0=true)→∃ n,qzK n s0=qxE (z98 s0):=fun s h=>⟨0,by
 unfold qzK
 rw [show qml s=true from h]; rfl⟩
end Go.Av
