import Derived.Test.YtopepdfipgfakaaGreatDoorEfP1
namespace Go.Av
set_option linter.unusedVariables false
set_option linter.unusedSimpArgs false
theorem qDF (a b k:Nat) (hb:b < 2 ^ k) (h:a*2 ^ k+b < 9223372036854775808):bits .or .i64 ((a*2 ^ k:Nat):Int) (b:Int)=((a*2 ^ k+b:Nat):Int):=by
 have h1:(BitVec.ofInt 64 ((a*2 ^ k:Nat):Int)).toNat=a*2 ^ k:=by rw [BitVec.toNat_ofInt]; omega
 have h2:(BitVec.ofInt 64 ((b:Nat):Int)).toNat=b:=by rw [BitVec.toNat_ofInt]; omega
 have h3:(BitVec.ofInt 64 ((a*2 ^ k:Nat):Int) ||| BitVec.ofInt 64 (b:Int)).toNat=a*2 ^ k+b:=by
  rw [BitVec.toNat_or,h1,h2]
  have:=Nat.shiftLeft_add_eq_or_of_lt hb a
  rw [Nat.shiftLeft_eq] at this
  exact this.symm
 show IntKind.wrap .i64 (((BitVec.ofInt 64 ((a*2 ^ k:Nat):Int) ||| BitVec.ofInt 64 (b:Int)).toNat:Nat):Int)=_
 rw [h3,IntWalk.i64_in _ (by omega)]
theorem qgM (n k:Nat) (hn:n < 9223372036854775808) (hk:2 ^ k≤4611686018427387904):bits .and .i64 (n:Int) ((2 ^ k - 1:Nat):Int)=((n % 2 ^ k:Nat):Int):=by
 have hpos:0 < 2 ^ k:=Nat.pow_pos (by decide)
 have h1:(BitVec.ofInt 64 (n:Int)).toNat=n:=by rw [BitVec.toNat_ofInt]; omega
 have h2:(BitVec.ofInt 64 ((2 ^ k - 1:Nat):Int)).toNat=2 ^ k - 1:=by rw [BitVec.toNat_ofInt]; omega
 have h3:(BitVec.ofInt 64 (n:Int) &&& BitVec.ofInt 64 ((2 ^ k - 1:Nat):Int)).toNat=n % 2 ^ k:=by
  rw [BitVec.toNat_and,h1,h2,Nat.and_two_pow_sub_one_eq_mod]
 have h4:n % 2 ^ k < 2 ^ k:=Nat.mod_lt _ hpos
 show IntKind.wrap .i64 (((BitVec.ofInt 64 (n:Int) &&& BitVec.ofInt 64 ((2 ^ k - 1:Nat):Int)).toNat:Nat):Int)=_
 rw [h3,IntWalk.i64_in _ (by omega)]
theorem fdivN (n k:Nat):Int.fdiv (n:Int) ((k:Nat):Int)=((n / k:Nat):Int):=by
 rw [Int.fdiv_eq_ediv_of_nonneg _ (Int.natCast_nonneg k),Int.natCast_ediv]
theorem held8 (h x:Nat) (hh:h < 16) (hx:x < 256):bits .or .i64 (IntKind.wrap .i64 ((h:Int)*2 ^ (min (Int.toNat (8:Int)) (IntKind.bits .i64)))) (IntKind.wrap .i64 (x:Int))=((h*256+x:Nat):Int):=by
 have e:IntKind.wrap .i64 ((h:Int)*2 ^ (min (Int.toNat (8:Int)) (IntKind.bits .i64)))=((h*2 ^ 8:Nat):Int):=by
  show IntKind.wrap .i64 ((h:Int)*256)=_
  rw [IntWalk.i64_in _ (by omega)]; omega
 rw [e,IntWalk.i64_in _ (by omega),qDF h x 8 (by omega) (by omega)]
theorem qDG (k2:List UInt8→Int→Int→List UInt8→Int→Int→Option AV) (n:Nat) (out:List UInt8) (h:Nat) (s8:List UInt8) (s9 s10:Int) (ho:out.length+1≤room) :
 qeg k2 (n+3) out (h:Int) 8 s8 s9 s10=k2 (out++[z132 ((h / 4:Nat):Int)]) (h:Int) 2 s8 s9 s10:=by
 have e:qeg k2 (n+3) out (h:Int) 8 s8 s9 s10=bif decide (out.length+1≤room) then k2 (out++[z132 (Int.fdiv (h:Int) ((4:Nat):Int))]) (h:Int) 2 s8 s9 s10 else none:=rfl
 rw [e,dT ho,cond_true,fdivN]
theorem qDH (k2:List UInt8→Int→Int→List UInt8→Int→Int→Option AV) (n:Nat) (out:List UInt8) (h:Nat) (s8:List UInt8) (s9 s10:Int) (ho:out.length+1≤room) :
 qeg k2 (n+3) out (h:Int) 10 s8 s9 s10=k2 (out++[z132 ((h / 16:Nat):Int)]) (h:Int) 4 s8 s9 s10:=by
 have e:qeg k2 (n+3) out (h:Int) 10 s8 s9 s10=bif decide (out.length+1≤room) then k2 (out++[z132 (Int.fdiv (h:Int) ((16:Nat):Int))]) (h:Int) 4 s8 s9 s10 else none:=rfl
 rw [e,dT ho,cond_true,fdivN]
theorem qDI (k2:List UInt8→Int→Int→List UInt8→Int→Int→Option AV) (n:Nat) (out:List UInt8) (h:Nat) (s8:List UInt8) (s9 s10:Int) (ho:out.length+2≤room) :
 qeg k2 (n+3) out (h:Int) 12 s8 s9 s10=k2 (out++[z132 ((h / 64:Nat):Int),z132 (h:Int)]) (h:Int) 0 s8 s9 s10:=by
 have e:qeg k2 (n+3) out (h:Int) 12 s8 s9 s10=bif decide (out.length+1≤room) then (bif decide ((out++[z132 (Int.fdiv (h:Int) ((64:Nat):Int))]).length+1≤room) then k2 ((out++[z132 (Int.fdiv (h:Int) ((64:Nat):Int))])++[z132 (Int.fdiv (h:Int) ((1:Nat):Int))]) (h:Int) 0 s8 s9 s10 else none) else none:=rfl
 rw [e,dT (show out.length+1≤room by omega),cond_true,dT (by rw [List.length_append]; exact ho),cond_true,fdivN,fdivN,Nat.div_one,List.append_assoc]; rfl
theorem qvB (k0:List UInt8→Int→Int→Option AV) (next:List UInt8→Int→Int→List UInt8→Int→Int→Option AV) (j n:Nat) (out:List UInt8) (h m x:Nat) (s8:List UInt8) (s9 s10:Int)
 (hm:m=0∨m=2∨m=4) (hh:h < 2 ^ m) (hx:x < 256) (ho:out.length+2≤room) :
 qeg (qbZ k0 next j) (n+3) out (bits .or .i64 (IntKind.wrap .i64 ((h:Int)*2 ^ (min (Int.toNat (8:Int)) (IntKind.bits .i64)))) (IntKind.wrap .i64 (x:Int))) (IntKind.wrap .i64 ((m:Int)+8)) s8 s9 s10
  = next (out++encD m h x) (encH m h x:Nat) (encM m:Nat) s8 s9 (IntKind.wrap .i64 (s10+1)):=by
 have hh16:h < 16:=by rcases hm with rfl | rfl | rfl <;> omega
 rw [held8 h x hh16 hx]
 rcases hm with rfl | rfl | rfl
 ·rw [show IntKind.wrap .i64 (((0:Nat):Int)+8)=8 from rfl,qDG _ _ _ _ _ _ _ (by omega)]
  have e:qbZ k0 next j (out++[z132 (((h*256+x) / 4:Nat):Int)]) ((h*256+x:Nat):Int) 2 s8 s9 s10=next (out++[z132 (((h*256+x) / 4:Nat):Int)]) (bits .and .i64 ((h*256+x:Nat):Int) ((2 ^ 2 - 1:Nat):Int)) 2 s8 s9 (IntKind.wrap .i64 (s10+1)):=rfl
  rw [e,qgM _ 2 (by omega) (by decide)]
  have e2:encD 0 h x=[z132 (((h*256+x) / 4:Nat):Int)]:=rfl
  have e3:encH 0 h x=(h*256+x) % 2 ^ 2:=rfl
  have e4:encM 0=2:=rfl
  rw [e2,e3,e4]; rfl
 ·rw [show IntKind.wrap .i64 (((2:Nat):Int)+8)=10 from rfl,qDH _ _ _ _ _ _ _ (by omega)]
  have e:qbZ k0 next j (out++[z132 (((h*256+x) / 16:Nat):Int)]) ((h*256+x:Nat):Int) 4 s8 s9 s10=next (out++[z132 (((h*256+x) / 16:Nat):Int)]) (bits .and .i64 ((h*256+x:Nat):Int) ((2 ^ 4 - 1:Nat):Int)) 4 s8 s9 (IntKind.wrap .i64 (s10+1)):=rfl
  rw [e,qgM _ 4 (by omega) (by decide)]
  have e2:encD 2 h x=[z132 (((h*256+x) / 16:Nat):Int)]:=rfl
  have e3:encH 2 h x=(h*256+x) % 2 ^ 4:=rfl
  have e4:encM 2=4:=rfl
  rw [e2,e3,e4]; rfl
 ·rw [show IntKind.wrap .i64 (((4:Nat):Int)+8)=12 from rfl,qDI _ _ _ _ _ _ _ ho]
  have e0:qbZ k0 next j (out++[z132 (((h*256+x) / 64:Nat):Int),z132 ((h*256+x:Nat):Int)]) ((h*256+x:Nat):Int) 0 s8 s9 s10=next (out++[z132 (((h*256+x) / 64:Nat):Int),z132 ((h*256+x:Nat):Int)]) (bits .and .i64 ((h*256+x:Nat):Int) ((2 ^ 0 - 1:Nat):Int)) 0 s8 s9 (IntKind.wrap .i64 (s10+1)):=rfl
  rw [e0,qgM _ 0 (by omega) (by decide)]
  have e3:encH 4 h x=(h*256+x) % 2 ^ 0:=rfl
  have e4:encM 4=0:=rfl
  have e:encD 4 h x=[z132 (((h*256+x) / 64:Nat):Int),z132 ((h*256+x:Nat):Int)]:=by
   show [z132 (((h*256+x:Nat):Int) / 64),_]=_
   rw [Int.natCast_ediv]; rfl
  rw [e,e3,e4]; rfl
theorem qyY (m:Nat) (s out:List UInt8) (mm h:Nat) (e:EncSt s out mm h) (ho:out.length+1≤room):qcT m out (h:Int) (mm:Int)=qjw (z90 s):=by
 have hc:=e.cases
 have hl:=e.lt
 unfold qcT
 rcases hc with rfl | rfl | rfl
 ·rw [dF (by omega),cond_false,e.bare_nil]
 ·rw [e.bare_some (by decide),dT (by omega),cond_true]
  have e1:IntKind.wrap .i64 ((h:Int)*2 ^ (min (Int.toNat (IntKind.wrap .i64 ((6:Int) - ((2:Nat):Int)))) (IntKind.bits .i64)))=((h*2 ^ (6 - 2):Nat):Int):=by
   show IntKind.wrap .i64 ((h:Int)*16)=_
   rw [IntWalk.i64_in _ (by omega)]; omega
  rw [e1,dT (show (0:Int)≤IntKind.wrap .i64 ((6:Int) - ((2:Nat):Int)) from by decide),cond_true,dT (show out.length+[_].length≤room from ho),cond_true]
 ·rw [e.bare_some (by decide),dT (by omega),cond_true]
  have e1:IntKind.wrap .i64 ((h:Int)*2 ^ (min (Int.toNat (IntKind.wrap .i64 ((6:Int) - ((4:Nat):Int)))) (IntKind.bits .i64)))=((h*2 ^ (6 - 4):Nat):Int):=by
   show IntKind.wrap .i64 ((h:Int)*4)=_
   rw [IntWalk.i64_in _ (by omega)]; omega
  rw [e1,dT (show (0:Int)≤IntKind.wrap .i64 ((6:Int) - ((4:Nat):Int)) from by decide),cond_true,dT (show out.length+[_].length≤room from ho),cond_true]
theorem qyZ (m h x:Nat):(encD m h x).length≤2:=by
 unfold encD
 cases m==4
 ·exact Nat.le_succ 1
 ·exact Nat.le_refl 2
theorem qjm (j:Nat) (s:List UInt8) (hl:s.length≤1048576):∀ (d i n:Nat) (out:List UInt8) (h m:Nat),i+d=s.length→d+3 < n→EncSt (s.take i) out m h→out.length≤2*i →
 qkR (qcT j) n out (h:Int) (m:Int) s (s.length:Nat) (i:Nat)=qjw (z90 s)
 | d,i,0,out,h,m,hi,hn,_,_=>by omega
 | 0,i,n+1,out,h,m,hi,hn,e,ho=>by
  obtain rfl:i=s.length:=by omega
  show qcS _ _ n _ _ _ _ _ _=_
  unfold qcS
  rw [dF (by omega),cond_false]
  rw [List.take_length] at e
  exact qyY j s out m h e (by unfold room; omega)
 | d+1,i,n+1,out,h,m,hi,hn,e,ho=>by
  show qcS _ _ n _ _ _ _ _ _=_
  unfold qcS
  have hlt:i < s.length:=by omega
  have hx:=(s.getD i 0).toNat_lt
  simp (disch:=omega) only [dT,cond_true,Bool.and_true,tn]
  obtain ⟨n',rfl⟩:∃ n',n=n'+3:=⟨n - 3,by omega⟩
  rw [qvB _ _ _ n' out h m _ s _ _ e.cases e.lt hx (by unfold room; omega),qv (by omega)]
  have e2:=e.step (s.getD i 0)
  have ht:s.take i++[s.getD i 0]=s.take (i+1):=by
   rw [List.take_succ_eq_append_getElem hlt,List.getD_eq_getElem?_getD,List.getElem?_eq_getElem hlt]; rfl
  rw [ht] at e2
  have hd:=qyZ m h (s.getD i 0).toNat
  exact qjm j s hl d (i+1) (n'+3) _ _ _ (by omega) (by omega) e2 (by rw [List.length_append]; omega)
theorem qza:∀ (s0:List UInt8),(qDC s0=true)→∃ n,qwh n s0=qjw (z88 s0):=fun s h=>⟨s.length+5,by
 have hl:=qm h
 unfold qwh
 exact qjm (s.length+5) s hl s.length 0 (s.length+5) [] 0 0 (by omega) (by omega) EncSt.nil (by simp)⟩
end Go.Av
