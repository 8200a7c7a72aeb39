import Derived.Test.YtabdohophompiaaDoorPxP3
namespace Go.Av
set_option linter.unusedSimpArgs false
set_option linter.unusedVariables false
theorem qnW {name cs:List UInt8} (hc:cs.length≤20):∀ (l:List (List UInt8)) (i:Nat) (st:PutT),PutI name cs i st→(∀ u∈l,u.length≤75)→PutI name cs (i+l.length) (l.foldl (putU name cs) st)
 | [],i,st,h,_=>h
 | u :: l,i,st,h,hu=>by
  have:=qnW hc l (i+1) _ (qnT h (hu u List.mem_cons_self) hc) fun v hv=>hu v (List.mem_cons_of_mem _ hv);rw [List.foldl_cons,yg,show i+(l.length+1)=i+1+l.length by omega];exact this
theorem qkt {name cs:List UInt8} (hc:cs.length≤20):∀ (l:List (List UInt8)) (i:Nat) (st:PutT),PutI name cs i st→(∀ u∈l,u.length≤75)→(∀ x∈st.2.2,x.length≤name.length+cs.length+100)→∀ x∈(l.foldl (putU name cs) st).2.2,x.length≤name.length+cs.length+100
 | [],i,st,h,_,hx=>hx
 | u :: l,i,st,h,hu,hx=>by
  rw [List.foldl_cons];refine qkt hc l (i+1) _ (qnT h (hu u List.mem_cons_self) hc) (fun v hv=>hu v (List.mem_cons_of_mem _ hv)) fun x hx'=>?_;unfold putU at hx';cases hq : !st.1&&decide (74 < st.2.1.length+u.length) with
  | true =>
   rw [hq] at hx';simp only [yc,List.mem_append,List.mem_singleton] at hx';rcases hx' with hx' | rfl
   ·exact hx x hx'
   ·exact h.l
  | false =>
   rw [hq] at hx';exact hx x hx'
theorem qnX {name:List UInt8} {t:List Int} (h:ok36 name t=true):(qaH name t).1.length≤101∧∀ x∈(qaH name t).1,x.length≤1000:=by
 obtain ⟨hn,ht⟩:=qrN h;have hun:=qnV (z9 t).1 t;have hu:=qks (z9 t).1 t;have hc:=qdH (z9 t).1;unfold qaH;cases qfB name t != 0 with
 | true=>exact ⟨Nat.zero_le _,fun x hx=>by cases hx⟩
 | false =>
  cases hp:(z8 name t).2 with
  | true =>
   refine ⟨by simp,fun x hx=>?_⟩;have hpl:=qnS name t;simp only [yd,yc,List.mem_singleton] at hx;subst hx;omega
  | false =>
   cases (z9 t).2 != 0 with
   | true=>exact ⟨Nat.zero_le _,fun x hx=>by cases hx⟩
   | false =>
    cases hw:decide ((headL name (-1) (z26 (z9 t).1)++(z10 (z9 t).1 t).flatten).length≤74) with
    | true =>
     refine ⟨by simp,fun x hx=>?_⟩;simp only [yd,yc,List.mem_singleton] at hx;subst hx;have:=of_decide_eq_true hw;omega
    | false =>
     simp only [yd];unfold numL;have h1:=qiJ name (z26 (z9 t).1) (z10 (z9 t).1 t) (true,(headL name 0 (z26 (z9 t).1),[]));have h2:=qnW (by omega) (z10 (z9 t).1 t) 0 _ (qgM name (z26 (z9 t).1)) hu;have h3:=qkt (by omega) (z10 (z9 t).1 t) 0 _ (qgM name (z26 (z9 t).1)) hu (fun x hx=>by cases hx);simp only [List.length_nil,yC] at h1;refine ⟨by rw [yn,yg,List.length_nil]; omega,fun x hx=>?_⟩;rcases List.mem_append.1 hx with hx | hx
     ·have:=h3 x hx;omega
     ·have hx':=List.mem_singleton.1 hx;subst hx';have:=h2.l;omega
theorem qwD:∀ (name0:List UInt8) (t1:List Int),(z6_ok name0 t1=true)→∃ n,z6_sh n name0 t1=qwZ (z6 name0 t1).1 (z6 name0 t1).2:=fun name t h=>⟨(qaH name t).1.length+1,by
 obtain ⟨h1,h2⟩:=qnX h;unfold z6_sh z6;rw [show z5_ok name t=true from h,show z5 name t=qaH name t from rfl];generalize (qaH name t).2=e;revert h1 h2;generalize (qaH name t).1=l;intro h1 h2;have:=qcL (t:=l) (dv:=([]:List UInt8)) (f:=fun s=>[59,13,10,32]++s) (b:=1004) (M:=200000) (k0:=qfW (l.length+1) e) (L:=fun n out i=>z6_l4 (qfW (l.length+1)) n e out l ((l.length:Nat):Int) i) (fun x hx=>by have:=h2 x hx; simp only [yn,yg,List.length_nil]; omega) (fun n i out hi hb=>by
  show qfV _ _ n _ _ _ _ _=_;unfold qfV room;have hx:=h2 (l.getD i []) (by rw [yV,yM hi]; exact List.getElem_mem hi);simp only [yn,yg,List.length_nil];simp (disch:=omega) only [dT,yc,yi,tn,qE,yl]) (fun n out=>by
  show qfV _ _ n _ _ _ _ _=_;unfold qfV;rw [dF (by omega)];rfl) l.length 0 (l.length+1) [] (by omega) (by omega) (by simp only [List.length_nil]; omega)
 refine Eq.trans (this:_) ?_;rw [yw];rfl⟩
theorem qwE:∃ n,z4_sh n  = qiW z4:=⟨0,by kernel_rfl⟩
theorem qku {t:List Int} (h:z17 t=true):∀ c∈t,32≤c∧c≤126:=fun c hc=>by
 unfold z17 at h;simp only [Bool.not_eq_true',List.any_eq_false] at h;have:=h c hc;unfold z33 at this;simp only [Bool.or_eq_true,ym,not_or] at this;omega
theorem qlB {t:List Int} (h:∀ c∈t,32≤c∧c≤126):z34 t = -1:=by
 unfold z34;have gen:∀ (t:List Int) (i:Int),(∀ c∈t,32≤c∧c≤126)→qan z52 t i = -1:=fun t=>by
  induction t with
  | nil=>intro i _; rfl
  | cons c r ih =>
   intro i hi;obtain ⟨h1,h2⟩:=hi c List.mem_cons_self;show (bif z52 c then qan z52 r (i+1) else i) = -1;rw [show z52 c=true from by
    unfold z52;rw [IntWalk.u32_in c (by omega)];exact dT (by omega)]
   exact ih _ fun x hx=>hi x (List.mem_cons_of_mem _ hx)
 exact gen t 0 h
theorem qlC {t:List Int} (h:z17 t=true):(z18 t).1=t.map fun c=>UInt8.ofNat (IntKind.wrap .u8 c).toNat:=by
 unfold z18;rw [qlB (qku h)];rfl
theorem qnY (name:List UInt8) (t:List Int):0 < (qed name t).length:=by
 unfold qed;simp only [yn,yg];omega
end Go.Av
