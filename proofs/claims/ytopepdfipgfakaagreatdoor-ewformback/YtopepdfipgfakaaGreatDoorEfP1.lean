import Derived.Test.YtopepdfipgfakaaGreatDoorEfT
import Derived.Test.YtopepdfipgfakaaGreatDoorEfL
namespace Go.Av
set_option linter.unusedVariables false
set_option linter.unusedSimpArgs false
theorem qvv:∀ (b0:List UInt8) (c1:UInt8),∃ n,qxm n b0 c1=qrS (z109 b0 c1):=fun _ _=>⟨0,rfl⟩
theorem and63 (n:Int):bits .and .i64 n 63=n % 64:=by
 have h:(BitVec.ofInt 64 n &&& BitVec.ofInt 64 63).toNat=(n % 64).toNat:=by
  rw [BitVec.toNat_and]
  have h1:(BitVec.ofInt 64 63).toNat=2 ^ 6 - 1:=by decide
  rw [h1,Nat.and_two_pow_sub_one_eq_mod,BitVec.toNat_ofInt]
  omega
 show IntKind.wrap .i64 (((BitVec.ofInt 64 n &&& BitVec.ofInt 64 63).toNat:Nat):Int)=_
 rw [h,IntWalk.i64_in _ (by omega)]
 omega
theorem qvw:∀ (n0:Int),∃ n,qsl n n0=qsk (z132 n0):=fun n=>⟨0,by
 unfold qsl z132
 rw [and63]
 have h0:(0:Int)≤n % 64:=by omega
 have h1:n % 64 < (((b64D.length:Nat)):Int):=by show n % 64 < ((64:Nat):Int); omega
 rw [decide_eq_true h0]
 show (bif true&&decide (n % 64 < (((b64D.length:Nat)):Int)) then _ else _)=_
 rw [decide_eq_true h1]
 rfl⟩
theorem qia {α β:Type} (f:α→β):∀ l:List α,l.flatMap (fun x=>[f x])=l.map f
 | []=>rfl
 | x :: r=>by rw [List.flatMap_cons,qia f r]; rfl
theorem qib {α:Type}:∀ l:List α,l.all (fun _=>true)=true
 | []=>rfl
 | _ :: r=>by rw [List.all_cons,qib r]; rfl
theorem qrx (m:Nat) (s:List UInt8) (hl:s.length≤1048576):∀ (d i n:Nat),i+d=s.length→d < n →
 qkS (qgd m) n ((s.take i).map (fun c:UInt8=>(c.toNat:Int))++List.replicate (s.length - i) 0) s (s.length:Nat) (i:Nat)=qsp (s.map fun c:UInt8=>(c.toNat:Int))
 | d,i,0,hi,hn=>by omega
 | 0,i,n+1,hi,hn=>by
  obtain rfl:i=s.length:=by omega
  show qeh _ _ n _ _ _ _=_
  unfold qeh
  rw [dF (by omega),Nat.sub_self,List.take_length]
  simp only [cond_false,List.replicate_zero,List.append_nil]
  rfl
 | d+1,i,n+1,hi,hn=>by
  show qeh _ _ n _ _ _ _=_
  unfold qeh
  have hlen:((s.take i).map (fun c:UInt8=>(c.toNat:Int))++List.replicate (s.length - i) (0:Int)).length=s.length:=by
   rw [List.length_append,List.length_map,List.length_take,List.length_replicate]; omega
  rw [hlen]
  simp (disch:=omega) only [dT,cond_true,Bool.and_true,tn,qv]
  rw [qes,qAi (fun c:UInt8=>((UInt8.toNat c:Nat):Int)) s 0 i (by omega) 0]
  exact qrx m s hl d (i+1) n (by omega) (by omega)
theorem qyL:∀ (s0:List UInt8),(qnQ s0=true)→∃ n,qwi n s0=qsp (z97 s0):=fun s h=>⟨s.length+1,by
 have hl:=qm h
 unfold qwi
 have hr:((s.length:Nat):Int)≤(room:Int):=by unfold room; omega
 simp (disch:=omega) only [dT,cond_true,Bool.and_true,tn]
 have:=qrx (s.length+1) s hl s.length 0 (s.length+1) (by omega) (by omega)
 exact this⟩
theorem qvx:∀ (c0:Int),∃ n,qsq n c0=qkT (z138 c0):=fun c=>⟨0,by
 unfold qsq z138
 cases decide (128≤c) <;> rfl⟩
theorem qjk (m:Nat) (t:List Int) (hl:t.length≤1048576):∀ (d i n:Nat),i+d=t.length→d < n →
 qkU (qge m) n ((t.take i).map z138++t.drop i) (t.length:Nat) (i:Nat)=qsr (t.map z138)
 | d,i,0,hi,hn=>by omega
 | 0,i,n+1,hi,hn=>by
  obtain rfl:i=t.length:=by omega
  show qei _ _ n _ _ _=_
  unfold qei
  rw [dF (by omega),List.drop_length,List.take_length,List.append_nil]
  rfl
 | d+1,i,n+1,hi,hn=>by
  show qei _ _ n _ _ _=_
  unfold qei
  have hlt:i < t.length:=by omega
  have hml:((t.take i).map z138).length=i:=by rw [List.length_map,List.length_take]; omega
  have hlen:((t.take i).map z138++t.drop i).length=t.length:=by
   rw [List.length_append,hml,List.length_drop]; omega
  rw [hlen]
  simp (disch:=omega) only [dT,cond_true,Bool.and_true,tn,qv]
  have hg:((t.take i).map z138++t.drop i).getD i 0=t[i]:=by
   rw [List.getD_eq_getElem?_getD,List.getElem?_append_right (by omega),hml,Nat.sub_self,List.getElem?_drop,Nat.add_zero,List.getElem?_eq_getElem hlt]; rfl
  have hs:((t.take i).map z138++t.drop i).set i (z138 t[i])=(t.take (i+1)).map z138++t.drop (i+1):=by
   rw [List.set_append_right _ _ (by omega),hml,Nat.sub_self,List.drop_eq_getElem_cons hlt,List.set_cons_zero,List.take_succ_eq_append_getElem hlt,List.map_append,List.append_assoc]
   rfl
  rw [hg,hs]
  exact qjk m t hl d (i+1) n (by omega) (by omega)
theorem qyM:∀ (s0:List UInt8),(qvj s0=true)→∃ n,qwj n s0=qsr (z93 s0):=fun s h=>⟨s.length+1,by
 have hl:=qm h
 unfold qwj
 rw [show qnQ s=true from h]
 have hlen:(z97 s).length=s.length:=by unfold z97; rw [List.length_map]
 have:=qjk (s.length+1) (z97 s) (by omega) s.length 0 (s.length+1) (by omega) (by omega)
 have e:(z97 s).map z138=z93 s:=by
  unfold z97 z93; rw [List.map_map]; rfl
 rw [e] at this
 exact this⟩
theorem qvy:∀ (x0:UInt8),∃ n,qmC n x0=qam (z139 x0):=fun x=>⟨9,by
 have e:qmC 9 x=bif (164:UInt8)==x then qam 8364 else bif (166:UInt8)==x then qam 352 else bif (168:UInt8)==x then qam 353 else bif (180:UInt8)==x then qam 381
  else bif (184:UInt8)==x then qam 382 else bif (188:UInt8)==x then qam 338 else bif (189:UInt8)==x then qam 339 else bif (190:UInt8)==x then qam 376 else qam (IntKind.wrap .i32 ((UInt8.toNat x:Nat):Int)):=by rfl
 rw [e,qes]
 unfold z139 z64
 have hc:∀ k:UInt8,(k==x)=(x==k):=fun k=>by
  cases h:x==k with
  | true=>rw [beq_iff_eq] at h; subst h; simp
  | false=>rw [beq_eq_false_iff_ne] at h ⊢; exact fun e=>h e.symm
 simp only [hc]
 cases (x==(164:UInt8)) <;> cases (x==(166:UInt8)) <;> cases (x==(168:UInt8)) <;> cases (x==(180:UInt8)) <;> cases (x==(184:UInt8)) <;> cases (x==(188:UInt8)) <;> cases (x==(189:UInt8)) <;> cases (x==(190:UInt8)) <;> rfl⟩
theorem qyN:∀ (s0:List UInt8),(qvh s0=true)→∃ n,qwk n s0=qxz (z94 s0):=fun s h=>⟨s.length+1,by
 have hl:=qm h
 unfold qwk
 have:=qim (t:=s) (dv:=0) (f:=fun c=>[z139 c]) (q:=fun _=>true) (b:=1) (k0:=qek (s.length+1)) (R:=none)
  (L:=fun n out i=>qkV (qek (s.length+1)) n out s (s.length:Nat) i) (fun x=>Nat.le_refl 1) (fun n i out hi hb=>by
   show qej _ _ n _ _ _ _=_
   unfold qej
   have hr:out.length+([z139 (s.getD i 0)]:List Int).length≤room:=hb
   simp (disch:=omega) only [dT,cond_true,Bool.and_true,tn,qv]
   all_goals (rw [dT hr])
   all_goals rfl) (fun n out=>by
   show qej _ _ n _ _ _ _=_
   unfold qej
   rw [dF (by omega)]; rfl) s.length 0 (s.length+1) [] (by omega) (by omega) (by show 0+_≤room; unfold room; omega)
 rw [List.drop_zero,qib,cond_true,List.nil_append,qia] at this
 exact this⟩
def qyO (x:UInt8):Bool:=decide (x < 128)||(decide (160≤x)||((decide ((0:Int)≤((UInt8.toNat (x - (128:UInt8)):Nat):Int)))&&(decide (((UInt8.toNat (x - (128:UInt8)):Nat):Int) < (List.length z186:Nat))) &&
 ((bif ((List.getD z186 (Int.toNat ((UInt8.toNat (x - (128:UInt8)):Nat):Int)) (0:Int)) != (0:Int)) then (List.getD z186 (Int.toNat ((UInt8.toNat (x - (128:UInt8)):Nat):Int)) (0:Int)) else 65533)==z65 x)))
theorem qry:∀ i:Fin 256,qyO (UInt8.ofNat i.val)=true:=by decide +kernel
theorem qvz:∀ (x0:UInt8),∃ n,qsu n x0=qgf (z140 x0):=fun x=>⟨0,by
 have hm:=qat (P:=fun x=>qyO x=true) qry x
 unfold qsu z140
 rw [qes]
 cases h1:decide (x < (128:UInt8)) with
 | true=>unfold z65; rw [h1]; rfl
 | false =>
  cases h2:decide ((160:UInt8)≤x) with
  | true =>
   have h3:decide ((159:UInt8) < x)=true:=by
    have h2':=of_decide_eq_true h2
    apply decide_eq_true
    rw [UInt8.le_iff_toNat_le] at h2'
    rw [UInt8.lt_iff_toNat_lt]
    exact h2'
   unfold z65; rw [h1,h3]; rfl
  | false =>
   unfold qyO at hm
   rw [h1,h2,Bool.false_or,Bool.false_or,Bool.and_eq_true,beq_iff_eq] at hm
   rw [cond_false,cond_false,hm.1,cond_true,← hm.2]
   cases ((List.getD z186 (Int.toNat ((UInt8.toNat (x - (128:UInt8)):Nat):Int)) (0:Int)) != (0:Int)) <;> rfl⟩
theorem qyP:∀ (s0:List UInt8),(qvi s0=true)→∃ n,qwl n s0=qxB (z95 s0):=fun s h=>⟨s.length+1,by
 have hl:=qm h
 unfold qwl
 have hr:((s.length:Nat):Int)≤(room:Int):=by unfold room; omega
 have:=qim (t:=s) (dv:=0) (f:=fun c=>[z140 c]) (q:=fun _=>true) (b:=1) (k0:=qem (s.length+1)) (R:=none)
  (L:=fun n out i=>qkW (qem (s.length+1)) n out s (s.length:Nat) i) (fun x=>Nat.le_refl 1) (fun n i out hi hb=>by
   show qel _ _ n _ _ _ _=_
   unfold qel
   have hr:out.length+([z140 (s.getD i 0)]:List Int).length≤room:=hb
   simp (disch:=omega) only [dT,cond_true,Bool.and_true,tn,qv]
   all_goals (rw [dT hr])
   all_goals rfl) (fun n out=>by
   show qel _ _ n _ _ _ _=_
   unfold qel
   rw [dF (by omega)]; rfl) s.length 0 (s.length+1) [] (by omega) (by omega) (by show 0+_≤room; unfold room; omega)
 rw [List.drop_zero,qib,cond_true,List.nil_append,qia] at this
 simp (disch:=omega) only [dT,cond_true,Bool.and_true]
 exact this⟩
theorem qyQ:∀ (charset0:Int) (s1:List UInt8),(qnR charset0 s1=true)→∃ n,qzH n charset0 s1=qgQ (z52 charset0 s1):=fun cs s h=>⟨0,by
 have h':lenOk s=true:=h
 unfold qzH z52
 rw [show qvj s=true from h',show qvh s=true from h',show qvi s=true from h',show qvg s=true from h',show qnQ s=true from h']
 cases (cs==(1:Int)) <;> cases (cs==(3:Int)) <;> cases (cs==(4:Int)) <;> cases (cs==(5:Int)) <;> rfl⟩
end Go.Av
