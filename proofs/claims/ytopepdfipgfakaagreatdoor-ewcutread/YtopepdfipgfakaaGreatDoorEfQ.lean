import Derived.Test.YtopepdfipgfakaaGreatDoorEfB3
namespace Go.Av
set_option linter.unusedVariables false
set_option linter.unusedSimpArgs false
theorem qaM {P:UInt8→Prop} (h:∀ i:Fin 256,P (UInt8.ofNat i.val)) (c:UInt8):P c:=by
 have:=h ⟨c.toNat,c.toNat_lt⟩
 simpa using this
theorem qzk {x:UInt8} {r:List UInt8} (h:(x==61)=false):(z189 (x :: r) 0 61).2=false:=by
 unfold z189
 cases decide ((0:Int)≤0)&&decide ((0:Int)≤((x :: r).length:Int) - 3)
 ·rfl
 ·show (qoO (x :: r) 0 61).2=false
  unfold qoO
  rw [show ((x :: r).getD 0 0==61)=false from h]
  rfl
theorem qtx:∀ i:Fin 256,z220 (List.getD (z130 (UInt8.ofNat i.val)) 0 0) (List.getD (z130 (UInt8.ofNat i.val)) 1 0)=(UInt8.ofNat i.val,true):=by decide +kernel
theorem qDS (c:UInt8) (t:List UInt8):z189 (61 :: (z130 c++t)) 0 61=(c,true):=by
 have hp:=qaM (P:=fun c=>z220 (List.getD (z130 c) 0 0) (List.getD (z130 c) 1 0)=(c,true)) qtx c
 unfold z189
 rw [decide_eq_true (Int.le_refl 0),decide_eq_true (by simp [z130]; omega),Bool.and_true,cond_true]
 exact hp
theorem qzl:∀ i:Fin 256,(((UInt8.ofNat i.val)==32)||(bif z82 (UInt8.ofNat i.val) 128 then (UInt8.ofNat i.val) != 61&&(UInt8.ofNat i.val) != 95 else true))=true:=by decide +kernel
theorem qOW (c:UInt8) (t:List UInt8):qwS 0 (z91 c++t)=(c :: (qwS 0 t).1,(qwS 0 t).2):=by
 unfold z91
 cases h0:(c==32) with
 | true =>
  rw [cond_true]
  show (bif (z189 (95 :: t) 0 61).2 then _ else ((32:UInt8) :: (qwS 0 t).1,(qwS 0 t).2+0):List UInt8×Nat)=_
  rw [qzk (by decide),cond_false,beq_iff_eq.1 h0]; rfl
 | false =>
  rw [cond_false]
  have k:=qaM (P:=fun c=>((c==32)||(bif z82 c 128 then c != 61&&c != 95 else true))=true) qzl c
  cases h1:z82 c 128 with
  | true =>
   rw [cond_true]
   rw [h0,h1,Bool.false_or,cond_true,Bool.and_eq_true,bne_iff_ne,bne_iff_ne] at k
   show (bif (z189 (c :: t) 0 61).2 then _ else ((bif c==95 then 32 else c) :: (qwS 0 t).1,(qwS 0 t).2+(bif c==61 then 1 else 0)):List UInt8×Nat)=_
   rw [qzk (beq_eq_false_iff_ne.2 k.1),cond_false,beq_eq_false_iff_ne.2 k.1,beq_eq_false_iff_ne.2 k.2]; rfl
  | false =>
   rw [cond_false]
   show (bif (z189 (61 :: (z130 c++t)) 0 61).2 then ((z189 (61 :: (z130 c++t)) 0 61).1 :: (qwS 0 t).1,(qwS 0 t).2) else _:List UInt8×Nat)=_
   rw [qDS]; rfl
theorem qzm:∀ s:List UInt8,qwS 0 (z50 s)=(s,0)
 | []=>rfl
 | c :: r=>by
  show qwS 0 (z91 c++z50 r)=_
  rw [qOW,qzm r]
theorem qoP:∀ i:Fin 256,(z91 (UInt8.ofNat i.val)).all (fun c=>z129 c 4&&c != 63)=true:=by decide +kernel
theorem qoQ:∀ s:List UInt8,(z50 s).all (fun c=>z129 c 4&&c != 63)=true
 | []=>rfl
 | c :: r=>by
  show (z91 c++z50 r).all _=true
  rw [List.all_append,qaM (P:=fun c=>(z91 c).all (fun c=>z129 c 4&&c != 63)=true) qoP c,qoQ r]; rfl
theorem qoR:∀ i:Fin 256,(bif isB64 (UInt8.ofNat i.val) then z129 (UInt8.ofNat i.val) 4&&(UInt8.ofNat i.val) != 63 else true)=true:=by decide +kernel
theorem qMF (s:List UInt8):(z47 s).all (fun c=>z129 c 4&&c != 63)=true:=by
 obtain ⟨k,hk,e,h4⟩:=qcM s
 have hb:=(qaU s).2.1
 rw [show z47 s=z90 s++List.replicate k 61 from e,List.all_append,Bool.and_eq_true]
 refine ⟨List.all_eq_true.2 fun c hc=>?_,List.all_eq_true.2 fun c hc=>?_⟩
 ·have k:=qaM (P:=fun c=>(bif isB64 c then z129 c 4&&c != 63 else true)=true) qoR c
  rwa [(List.all_eq_true.1 hb) c hc,cond_true] at k
 ·rw [List.eq_of_mem_replicate hc]; decide
theorem qHN:∀ s:List UInt8,s.isEmpty=false→(z50 s).isEmpty=false
 | c :: r,_=>by
  show (z91 c++z50 r).isEmpty=false
  have:z91 c≠[]:=by
   unfold z91
   cases c==32
   ·cases z82 c 128
    ·exact List.cons_ne_nil _ _
    ·exact List.cons_ne_nil _ _
   ·exact List.cons_ne_nil _ _
  cases h:z91 c with
  | nil=>exact absurd h this
  | cons=>rfl
theorem qMG (s:List UInt8) (h:s.isEmpty=false):(z47 s).isEmpty=false:=by
 have h6:=(qaU s).2.2.2
 have hs:0 < s.length:=by cases s with
  | nil=>cases h
  | cons=>simp
 cases hb:z47 s with
 | cons=>rfl
 | nil =>
  exfalso
  obtain ⟨k,hk,e,h4⟩:=qcM s
  have:(z90 s).length=0:=by
   have:=congrArg List.length (show z90 s++List.replicate k 61=[] from e.symm.trans hb)
   rw [List.length_append] at this
   simp only [List.length_nil] at this; omega
  omega
end Go.Av
