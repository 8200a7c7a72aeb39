import Derived.Test.YtopepdfipgfakaaGreatDoorEfP8
namespace Go.Av
set_option linter.unusedVariables false
set_option linter.unusedSimpArgs false
theorem qwa:∀ (c0:Int) (e1:Int) (x2:List Int),(qmo c0 e1 x2=true)→∃ n,qsv n c0 e1 x2=qkX (z142 c0 e1 x2):=fun c e t h=>⟨0,by
 have hl:t.length≤2097152:=of_decide_eq_true h
 unfold qsv z142
 have hr:∀ y:Int,t.length+([y]:List Int).length≤room:=fun y=>by show t.length+1≤room; unfold room; omega
 rw [dT (hr 65533),dT (hr c)]
 cases (e != 0) <;> rfl⟩
theorem qxl (x:UInt8) (r:List UInt8):(z187 (x :: r)).2.1=((z187 (x :: r)).2.1.toNat:Int)∧(z187 (x :: r)).2.1.toNat≤r.length+1:=by
 have hf:=qrI x r
 show ((bif farN (x :: r)==0 then ((0:Int),((1:Int),(3:Int))) else bif decide (farN (x :: r) < qf x)&&(farN (x :: r)==(x :: r).length) then (0,(farN (x :: r):Nat),4)
  else bif decide (farN (x :: r) < qf x) then (0,(farN (x :: r):Nat),3) else (signN (farN (x :: r)) (x :: r),(farN (x :: r):Nat),0)).2.1=(((bif farN (x :: r)==0 then ((0:Int),((1:Int),(3:Int))) else bif decide (farN (x :: r) < qf x)&&(farN (x :: r)==(x :: r).length) then (0,(farN (x :: r):Nat),4)
  else bif decide (farN (x :: r) < qf x) then (0,(farN (x :: r):Nat),3) else (signN (farN (x :: r)) (x :: r),(farN (x :: r):Nat),0)).2.1.toNat:Nat):Int))∧(bif farN (x :: r)==0 then ((0:Int),((1:Int),(3:Int))) else bif decide (farN (x :: r) < qf x)&&(farN (x :: r)==(x :: r).length) then (0,(farN (x :: r):Nat),4)
  else bif decide (farN (x :: r) < qf x) then (0,(farN (x :: r):Nat),3) else (signN (farN (x :: r)) (x :: r),(farN (x :: r):Nat),0)).2.1.toNat≤r.length+1
 cases farN (x :: r)==0
 ·cases decide (farN (x :: r) < qf x)&&(farN (x :: r)==(x :: r).length)
  ·cases decide (farN (x :: r) < qf x)
   ·exact ⟨rfl,hf.2⟩
   ·exact ⟨rfl,hf.2⟩
  ·exact ⟨rfl,hf.2⟩
 ·exact ⟨rfl,by show 1≤_; omega⟩
theorem qrL (m:Nat):∀ (n k:Nat) (s:List UInt8) (t:List Int),s.length < n→s.length < k→s.length≤1048576→t.length+s.length≤2097152 →
 qau (qap m) n s t=qao (t++utfR k s)
 | 0,k,s,t,hn,_,_,_=>by omega
 | n+1,0,s,t,_,hk,_,_=>by omega
 | n+1,k+1,[],t,_,_,_,_=>by
  show qao t=qao (t++[])
  rw [List.append_nil]
 | n+1,k+1,x :: r,t,hn,hk,hl,ht=>by
  show qbC _ (qau (qap m) n) n _ _=_
  unfold qbC
  simp only [List.length_cons] at hn hk hl ht
  obtain ⟨e1,e2⟩:=qxl x r
  have e3:=qkG x r
  rw [dT (show (0:Int) < (((x :: r).length:Nat):Int) by simp only [List.length_cons]; omega),show qmf (x :: r)=true from qt (by simp only [List.length_cons]; omega),
   show qmo (z187 (x :: r)).1 (z187 (x :: r)).2.2 t=true from decide_eq_true (by omega)]
  generalize hw:(z187 (x :: r)).2.1.toNat=w at e1 e2 e3
  rw [e1,dT (show (0:Int)≤(w:Int) by omega),dT (show (w:Int)≤(((x :: r).length:Nat):Int) by simp only [List.length_cons]; omega),dT (Int.le_refl _)]
  simp only [cond_true,Bool.and_true,tn,List.take_length]
  have hd:((x :: r).drop w).length≤r.length:=by rw [List.length_drop,List.length_cons]; omega
  have hd2:((x :: r).drop w).length+1≤r.length+1:=by omega
  rw [qrL m n k ((x :: r).drop w) (z142 (z187 (x :: r)).1 (z187 (x :: r)).2.2 t) (by omega) (by omega) (by omega) (by unfold z142; rw [List.length_append]; show t.length+1+_≤_; omega)]
  show qao _=qao (t++((bif (z187 (x :: r)).2.2 != 0 then 65533 else (z187 (x :: r)).1) :: utfR k ((x :: r).drop (z187 (x :: r)).2.1.toNat)))
  rw [hw]
  unfold z142
  rw [List.append_assoc]; rfl
theorem qkJ:∀ (s0:List UInt8) (f1:List Int),(qbp s0 f1=true)→∃ n,qgh n s0 f1=qao (qrv s0 f1):=fun s t h=>⟨s.length+1,by
 unfold qbp at h
 rw [Bool.and_eq_true,decide_eq_true_eq] at h
 have hl:=qm h.1
 exact qrL (s.length+1) (s.length+1) (s.length+1) s t (by omega) (by omega) hl (by omega)⟩
theorem qzm:∀ (s0:List UInt8),(qvg s0=true)→∃ n,qzG n s0=qxC (z96 s0):=fun s h=>⟨0,by
 unfold qzG
 have hok:qbp s []=true:=by unfold qbp; rw [show lenOk s=true from h]; rfl
 first
  | (rw [hok]; rfl)
  | rfl⟩
theorem qmv (m:Nat) (s:List UInt8) (hl:s.length≤1048576):∀ (n k i:Nat) (out:List Int) (b:Nat) (f:Int),s.length - i < n→s.length - i < k→out.length≤i→b≤i→i≤s.length →
 qjB (qep m) n s out (b:Int) f (i:Int)=qjA (out++utfR k (s.drop i)) (utfE k (s.drop i) ((b:Int),f)).1 (utfE k (s.drop i) ((b:Int),f)).2
 | 0,k,i,out,b,f,hn,_,_,_,_=>by omega
 | n+1,0,i,out,b,f,_,hk,_,_,_=>by omega
 | n+1,k+1,i,out,b,f,hn,hk,ho,hb,hi=>by
  show qil _ (qjB (qep m) n) n _ _ _ _ _=_
  unfold qil
  by_cases hlt:i < s.length
  ·obtain ⟨x,r,hx⟩:∃ x r,s.drop i=x :: r:=⟨_,_,qad hlt⟩
   have hrl:r.length+1+i=s.length:=by have:=congrArg List.length hx; rw [List.length_drop,List.length_cons] at this; omega
   obtain ⟨e1,e2⟩:=qxl x r
   have e3:=qkG x r
   rw [dT (show ((i:Nat):Int) < ((s.length:Nat):Int) by omega),dT (show (0:Int)≤((i:Nat):Int) by omega),dT (show ((i:Nat):Int)≤((s.length:Nat):Int) by omega),dT (Int.le_refl _),tn,tn,List.take_length,hx]
   simp only [cond_true,Bool.and_true]
   rw [show qmh (x :: r)=true from qt (by simp only [List.length_cons]; omega),cond_true]
   rw [show z111 (x :: r)=z187 (x :: r) from rfl]
   generalize hw:(z187 (x :: r)).2.1.toNat=w at e1 e2 e3
   rw [e1,show decide ((1:Int) > (w:Int))=false from dF (by omega),cond_false,show IntKind.wrap .i64 (((i:Nat):Int)+(w:Int))=((i+w:Nat):Int) by rw [IntWalk.i64_in _ (by omega)]; omega]
   have hdr:(x :: r).drop w=s.drop (i+w):=by rw [← hx,List.drop_drop]
   have hroom:∀ y:Int,out.length+([y]:List Int).length≤room:=fun y=>by show out.length+1≤room; unfold room; omega
   have eR:utfR (k+1) (x :: r)=(bif (z187 (x :: r)).2.2 != 0 then 65533 else (z187 (x :: r)).1) :: utfR k (s.drop (i+w)):=by
    rw [← hdr,← hw]; rfl
   have eE:utfE (k+1) (x :: r) ((b:Int),f)=utfE k (s.drop (i+w)) (bif (z187 (x :: r)).2.2 != 0 then ((b:Int)+1,bif f==0 then (z187 (x :: r)).2.2 else f) else ((b:Int),f)):=by
    rw [← hdr,← hw]; rfl
   rw [eR,eE,dT (hroom 65533),dT (hroom (z187 (x :: r)).1)]
   have ih:=fun (y:Int) (b':Nat) (f':Int) (hb':b'≤i+w)=>qmv m s hl n k (i+w) (out++[y]) b' f' (by omega) (by omega) (by rw [List.length_append]; show out.length+1≤_; omega) hb' (by omega)
   cases hc:((z187 (x :: r)).2.2 != 0) with
   | false =>
    simp only [cond_false,cond_true]
    rw [ih _ b f (by omega),List.append_assoc]; rfl
   | true =>
    simp only [cond_true]
    rw [qv (by omega)]
    have hbe:(b:Int)+1=((b+1:Nat):Int):=by omega
    rw [hbe]
    cases hf:f==0 with
    | true=>simp only [cond_true]; rw [ih 65533 (b+1) _ (by omega),List.append_assoc]; rfl
    | false=>simp only [cond_false]; rw [ih 65533 (b+1) _ (by omega),List.append_assoc]; rfl
  ·rw [dF (by omega),cond_false,List.drop_eq_nil_of_le (by omega)]
   show qjA out (b:Int) f=qjA (out++[]) _ _
   rw [List.append_nil]; rfl
theorem qzn:∀ (s0:List UInt8),(qvk s0=true)→∃ n,qzS n s0=qjA (z63 s0).1 (z63 s0).2.1 (z63 s0).2.2:=fun s h=>⟨s.length+1,by
 have hl:=qm h
 have:=qmv (s.length+1) s hl (s.length+1) (s.length+1) 0 [] 0 0 (by omega) (by omega) (by simp) (Nat.le_refl 0) (by omega)
 rw [List.drop_zero,List.nil_append] at this
 exact this⟩
def qfX (cs:Int) (c:UInt8):Int:=bif cs==1 then z138 (c.toNat:Int) else bif cs==3 then z64 c else bif cs==4 then z65 c else (c.toNat:Int)
theorem u127 (c:UInt8):decide ((127:UInt8) < c)=decide ((128:Int)≤(c.toNat:Int)):=by
 by_cases h:(127:UInt8) < c
 ·rw [decide_eq_true h]
  rw [UInt8.lt_iff_toNat_lt] at h
  exact (decide_eq_true (by have:(127:UInt8).toNat=127:=rfl; omega)).symm
 ·rw [decide_eq_false h]
  rw [UInt8.lt_iff_toNat_lt] at h
  exact (decide_eq_false (by have:(127:UInt8).toNat=127:=rfl; omega)).symm
theorem qzo:∀ (charset0:Int) (s1:List UInt8),(qvl charset0 s1=true)→∃ n,qwn n charset0 s1=qjC (z26 charset0 s1):=fun cs s h=>⟨s.length+1,by
 have hl:=qm h
 unfold qwn
 rw [show qvk s=true from h]
 cases h5:cs==5 with
 | true =>
  have:=beq_iff_eq.1 h5
  subst this
  rfl
 | false =>
  rw [cond_false]
  have:=qim (t:=s) (dv:=0) (f:=fun c=>[qfX cs c]) (q:=fun _=>true) (b:=1) (k0:=qer (s.length+1)) (R:=none)
   (L:=fun n out i=>qlf (qer (s.length+1)) n cs s out i) (fun x=>Nat.le_refl 1) (fun n i out hi hb=>by
    show qeq _ _ n _ _ _ _=_
    unfold qeq
    have hr:∀ y:Int,out.length+([y]:List Int).length≤room:=fun y=>hb
    simp (disch:=omega) only [dT,cond_true,Bool.and_true,tn,qv]
    rw [qes,u127]
    unfold qfX z138
    cases h1:cs==1 with
    | true =>
     have hcs:=beq_iff_eq.1 h1
     subst hcs
     cases decide ((128:Int)≤((s.getD i 0).toNat:Int)) <;> rfl
    | false=>cases cs==3 <;> cases cs==4 <;> rfl) (fun n out=>by
    show qeq _ _ n _ _ _ _=_
    unfold qeq
    rw [dF (by omega)]; rfl) s.length 0 (s.length+1) [] (by omega) (by omega) (by show 0+_≤room; unfold room; omega)
  rw [List.drop_zero,qib,cond_true,List.nil_append,qia] at this
  refine this.trans ?_
  show qjC (s.map (qfX cs))=qjC (z52 cs s)
  unfold z52
  rw [h5]
  have hf:∀ b:Bool,(cs==1)=b→True:=fun _ _=>trivial
  cases h1:cs==1 with
  | true=>rw [show qfX cs=fun c:UInt8=>z138 (c.toNat:Int) from funext fun c=>by unfold qfX; rw [h1]; rfl]; rfl
  | false =>
   cases h3:cs==3 with
   | true=>rw [show qfX cs=z64 from funext fun c=>by unfold qfX; rw [h1,h3]; rfl]; rfl
   | false =>
    cases h4:cs==4 with
    | true=>rw [show qfX cs=z65 from funext fun c=>by unfold qfX; rw [h1,h3,h4]; rfl]; rfl
    | false=>rw [show qfX cs=fun c:UInt8=>(c.toNat:Int) from funext fun c=>by unfold qfX; rw [h1,h3,h4]; rfl]; rfl⟩
end Go.Av
