import Derived.Test.YtabdohophompiaaGreatDoorPxP3
namespace Go.Av
set_option linter.unusedSimpArgs false
set_option linter.unusedVariables false
theorem qsC {name cs:List UInt8} (hc:cs.length≤20):∀ (l:List (List UInt8)) (i:Nat) (st:PutT),PutI name cs i st→(∀ u∈l,u.length≤75)→PutI name cs (i+l.length) (l.foldl (putU name cs) st)
 | [],i,st,h,_=>h
 | u :: l,i,st,h,hu=>by
  have:=qsC hc l (i+1) _ (qsA h (hu u List.mem_cons_self) hc) fun v hv=>hu v (List.mem_cons_of_mem _ hv);rw [List.foldl_cons,yg,show i+(l.length+1)=i+1+l.length by omega];exact this
theorem qnM {name cs:List UInt8} (hc:cs.length≤20):∀ (l:List (List UInt8)) (i:Nat) (st:PutT),PutI name cs i st→(∀ u∈l,u.length≤75)→(∀ x∈st.2.2,x.length≤name.length+cs.length+100)→∀ x∈(l.foldl (putU name cs) st).2.2,x.length≤name.length+cs.length+100
 | [],i,st,h,_,hx=>hx
 | u :: l,i,st,h,hu,hx=>by
  rw [List.foldl_cons];refine qnM hc l (i+1) _ (qsA h (hu u List.mem_cons_self) hc) (fun v hv=>hu v (List.mem_cons_of_mem _ hv)) fun x hx'=>?_;unfold putU at hx';cases hq : !st.1&&decide (74 < st.2.1.length+u.length) with
  | true =>
   rw [hq] at hx';simp only [yc,List.mem_append,List.mem_singleton] at hx';rcases hx' with hx' | rfl
   ·exact hx x hx'
   ·exact h.l
  | false =>
   rw [hq] at hx';exact hx x hx'
theorem qgA {name:List UInt8} {t:List Int} (h:ok36 name t=true):(qB name t).1.length≤101∧∀ x∈(qB name t).1,x.length≤1000:=by
 obtain ⟨hn,ht⟩:=qkw h;have hun:=qnL (z22 t).1 t;have hu:=qnK (z22 t).1 t;have hc:=qcX (z22 t).1;unfold qB;cases qcC name t != 0 with
 | true=>exact ⟨Nat.zero_le _,fun x hx=>by cases hx⟩
 | false =>
  cases hp:(z28 name t).2 with
  | true =>
   refine ⟨by simp,fun x hx=>?_⟩;have hpl:=qsz name t;simp only [yd,yc,List.mem_singleton] at hx;subst hx;omega
  | false =>
   cases (z22 t).2 != 0 with
   | true=>exact ⟨Nat.zero_le _,fun x hx=>by cases hx⟩
   | false =>
    cases hw:decide ((headL name (-1) (z56 (z22 t).1)++(z23 (z22 t).1 t).flatten).length≤74) with
    | true =>
     refine ⟨by simp,fun x hx=>?_⟩;simp only [yd,yc,List.mem_singleton] at hx;subst hx;have:=of_decide_eq_true hw;omega
    | false =>
     simp only [yd];unfold numL;have h1:=qlA name (z56 (z22 t).1) (z23 (z22 t).1 t) (true,(headL name 0 (z56 (z22 t).1),[]));have h2:=qsC (by omega) (z23 (z22 t).1 t) 0 _ (qiQ name (z56 (z22 t).1)) hu;have h3:=qnM (by omega) (z23 (z22 t).1 t) 0 _ (qiQ name (z56 (z22 t).1)) hu (fun x hx=>by cases hx);simp only [List.length_nil,yE] at h1;refine ⟨by rw [yn,yg,List.length_nil]; omega,fun x hx=>?_⟩;rcases List.mem_append.1 hx with hx | hx
     ·have:=h3 x hx;omega
     ·have hx':=List.mem_singleton.1 hx;subst hx';have:=h2.l;omega
theorem qAp (l:List (List UInt8)) (h:∀ x∈l,x.length≤1000):(textL l).length≤1004*l.length:=by
 unfold textL;induction l with
 | nil=>simp
 | cons x r ih =>
  have h1:=h x List.mem_cons_self;have h2:=ih fun y hy=>h y (List.mem_cons_of_mem _ hy);rw [List.flatMap_cons,yn,yg,yn];simp only [yg,List.length_nil];omega
theorem qEB:∀ (name0:List UInt8) (t1:List Int),(z7_ok name0 t1=true)→∃ n,z7_sh n name0 t1=qER (z7 name0 t1).1 (z7 name0 t1).2:=fun name t h=>⟨(qB name t).1.length+1,by
 obtain ⟨h1,h2⟩:=qgA h;unfold z7_sh z7;rw [show qkt name t=true from h,show z13 name t=qB name t from rfl];generalize (qB name t).2=e;revert h1 h2;generalize (qB name t).1=l;intro h1 h2;have:=qdD (t:=l) (dv:=([]:List UInt8)) (f:=fun s=>[59,13,10,32]++s) (b:=1004) (M:=200000) (k0:=qhF (l.length+1) e) (L:=fun n out i=>z7_l4 (qhF (l.length+1)) n e out l ((l.length:Nat):Int) i) (fun x hx=>by have:=h2 x hx; simp only [yn,yg,List.length_nil]; omega) (fun n i out hi hb=>by
  show qhE _ _ n _ _ _ _ _=_;unfold qhE room;have hx:=h2 (l.getD i []) (by rw [yX,yO hi]; exact List.getElem_mem hi);simp only [yn,yg,List.length_nil];simp (disch:=omega) only [dT,yc,yi,tn,qm,yl]) (fun n out=>by
  show qhE _ _ n _ _ _ _ _=_;unfold qhE;rw [dF (by omega)];rfl) l.length 0 (l.length+1) [] (by omega) (by omega) (by simp only [List.length_nil]; omega)
 refine Eq.trans (this:_) ?_;rw [yw];rfl⟩
theorem qAq:∀ (name0:List UInt8) (t1:List Int),(qwv name0 t1=true)→∃ n,qBi n name0 t1=qyB (z15 name0 t1):=fun name t h=>⟨0,by
 unfold qBi;rw [show qkt name t=true from h];rfl⟩
theorem qEC:∃ n,z6_sh n  = qlQ z6:=⟨0,by kernel_rfl⟩
theorem qnN {t:List Int} (h:z51 t=true):∀ c∈t,32≤c∧c≤126:=fun c hc=>by
 unfold z51 at h;simp only [Bool.not_eq_true',List.any_eq_false] at h;have:=h c hc;unfold z91 at this;simp only [Bool.or_eq_true,ym,not_or] at this;omega
theorem qpz {t:List Int} (h:∀ c∈t,32≤c∧c≤126):z92 t = -1:=by
 unfold z92;have gen:∀ (t:List Int) (i:Int),(∀ c∈t,32≤c∧c≤126)→qaC z105 t i = -1:=fun t=>by
  induction t with
  | nil=>intro i _; rfl
  | cons c r ih =>
   intro i hi;obtain ⟨h1,h2⟩:=hi c List.mem_cons_self;show (bif z105 c then qaC z105 r (i+1) else i) = -1;rw [show z105 c=true from by
    unfold z105;rw [IntWalk.u32_in c (by omega)];exact dT (by omega)]
   exact ih _ fun x hx=>hi x (List.mem_cons_of_mem _ hx)
 exact gen t 0 h
theorem qpA {t:List Int} (h:z51 t=true):(z52 t).1=t.map fun c=>UInt8.ofNat (IntKind.wrap .u8 c).toNat:=by
 unfold z52;rw [qpz (qnN h)];rfl
theorem qsD (name:List UInt8) (t:List Int):0 < (qek name t).length:=by
 unfold qek;simp only [yn,yg];omega
end Go.Av
