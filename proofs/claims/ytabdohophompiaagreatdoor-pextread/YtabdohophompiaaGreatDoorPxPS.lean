import Derived.Test.YtabdohophompiaaGreatDoorPxP6
namespace Go.Av
set_option linter.unusedSimpArgs false
set_option linter.unusedVariables false
def chB (c:UInt8):Bool:=decide (32≤c)&&decide (c≤126)
theorem qAF:∀ i:Fin 256,(!(z100 (UInt8.ofNat i.val) 256)||chB (UInt8.ofNat i.val))=true:=by decide +kernel
theorem qEJ (c:UInt8) (h:z100 c 256=true):chB c=true:=by
 have:=qlX (P:=fun c=>(!(z100 c 256)||chB c)=true) qAF c;rw [h] at this;exact this
theorem qEK:∀ i:Fin 256,((oneC (UInt8.ofNat i.val)).all chB)=true:=by decide +kernel
theorem qHd (c:UInt8):(oneC c).all chB=true:=qlX (P:=fun c=>(oneC c).all chB=true) qEK c
theorem qEL:∀ i:Fin 100,((digI ((i.val:Nat):Int)).all chB)=true:=by decide +kernel
theorem qHe {n:Int} (h:0≤n∧n < 100):(digI n).all chB=true:=by
 obtain ⟨k,rfl⟩:∃ k:Nat,n=(k:Int):=⟨n.toNat,by omega⟩;exact qEL ⟨k,by omega⟩
theorem qsL (n:Int):(z56 n).all chB=true:=by
 unfold z56 z96;cases (n==(1:Int)) <;> cases (n==(2:Int)) <;> cases (n==(3:Int)) <;> cases (n==(4:Int)) <;> cases (n==(5:Int)) <;> decide +kernel
theorem qyb {α:Type} {f:α→List UInt8} (h:∀ x,(f x).all chB=true):∀ l:List α,(l.flatMap f).all chB=true
 | []=>rfl
 | x :: l=>by rw [List.flatMap_cons,List.all_append,h x,qyb h l]; rfl
theorem qyc (cs c:Int):(unitL cs c).all chB=true:=qyb qHd _
theorem qEM {name:List UInt8} (hn:name.all chB=true) {n:Int} (h:n < 100) (e:Bool):(nameL name n e).all chB=true:=by
 unfold nameL;rw [List.all_append,List.all_append,hn]
 by_cases h0:0≤n
 ·rw [dT h0];simp only [yc,List.all_cons,qHe ⟨h0,h⟩];cases e <;> rfl
 ·rw [dF h0];cases e <;> rfl
theorem qsM {name cs:List UInt8} (hn:name.all chB=true) (hc:cs.all chB=true) {n:Int} (h:n < 100):(headL name n cs).all chB=true:=by
 unfold headL;rw [List.all_append,qEM hn h true,List.all_cons];cases decide (0 < n) with
 | true=>rfl
 | false=>simp only [yd,List.all_append,hc]; rfl
theorem qHf (c:UInt8) (h:chB c=true):(quoC c).all chB=true:=by
 unfold quoC;cases (c==34)||(c==92) with
 | true=>simp only [yc,List.all_cons,List.all_nil,h]; rfl
 | false=>simp only [yd,List.all_cons,List.all_nil,h]; rfl
theorem qyd:∀ s:List UInt8,s.all chB=true→(s.flatMap quoC).all chB=true
 | [],_=>rfl
 | c :: r,h=>by
  rw [List.all_cons,yf] at h;rw [List.flatMap_cons,List.all_append,qHf c h.1,qyd r h.2];rfl
theorem qEN (s:List UInt8) (h:s.all chB=true):(atomL s).all chB=true:=by
 unfold atomL quoL;cases tokB s with
 | true=>exact h
 | false=>simp only [yd,List.all_cons,List.all_append,qyd s h,List.all_nil]; rfl
theorem qEO:∀ i:Fin 127,(decide (i.val < 32)||chB (UInt8.ofNat (IntKind.wrap .u8 ((i.val:Nat):Int)).toNat))=true:=by decide +kernel
theorem qAG {t:List Int} (h:z51 t=true):((z52 t).1).all chB=true:=by
 rw [qpA h,List.all_map,List.all_eq_true];intro c hc;obtain ⟨h1,h2⟩:=qnN h c hc;obtain ⟨k,rfl⟩:∃ k:Nat,c=(k:Int):=⟨c.toNat,by omega⟩;have:=qEO ⟨k,by omega⟩;rw [dF (show ¬ k < 32 by omega)] at this;exact this
def secB (x:List UInt8):Bool:=(decide (0 < x.length)&&decide (x.length≤74))&&x.all chB
theorem qsN {x:List UInt8} (h1:0 < x.length) (h2:x.length≤74) (h3:x.all chB=true):secB x=true:=by unfold secB; rw [dT h1,dT h2,h3]; rfl
theorem qlC (name:List UInt8) (n:Int) (cs:List UInt8):0 < (headL name n cs).length:=by
 unfold headL;rw [yn,yg];omega
structure PutS (st:PutT):Prop where
 outs:st.2.2.all secB=true
 now:secB st.2.1=true
 e:st.1=true→st.2.1.length≤60
theorem qnT {name cs:List UInt8} {st:PutT} (h:PutS st) {u:List UInt8} (hn:name.all chB=true) (hc:cs.all chB=true) (hl:name.length≤30) (hcl:cs.length≤12) (hu:u.length≤12) (huc:u.all chB=true) (ho:st.2.2.length < 99):PutS (putU name cs st u):=by
 obtain ⟨e,now,out⟩:=st;obtain ⟨h1,h2,h3⟩:=h;simp only at h1 h2 h3 ho;have h2':=h2;unfold secB at h2';simp only [yf,ym] at h2';obtain ⟨⟨k1,k2⟩,k3⟩:=h2';have hh:=qgy name ((out.length+1:Nat):Int) cs;have hp:=qlC name ((out.length+1:Nat):Int) cs;unfold putU;simp only;cases hq : !e&&decide (74 < now.length+u.length) with
 | true =>
  refine ⟨?_,?_,(fun hf=>by cases hf)⟩
  ·simp only [yc,List.all_append,h1,List.all_cons,h2,List.all_nil];rfl
  ·simp only [yc];exact qsN (by rw [yn]; omega) (by rw [yn]; omega) (by rw [List.all_append,qsM hn hc (by omega),huc]; rfl)
 | false =>
  refine ⟨h1,?_,(fun hf=>by cases hf)⟩;simp only [yd];refine qsN (by rw [yn]; omega) ?_ (by rw [List.all_append,k3,huc]; rfl);rw [yn];cases e with
  | true=>have:=h3 rfl; omega
  | false =>
   simp only [Bool.not_false,y3,decide_eq_false_iff_not] at hq;omega
theorem qsO {name cs:List UInt8} (hn:name.all chB=true) (hc:cs.all chB=true) (hl:name.length≤30) (hcl:cs.length≤12):∀ (l:List (List UInt8)) (st:PutT),PutS st→(∀ u∈l,u.length≤12∧u.all chB=true)→st.2.2.length+l.length≤99→PutS (l.foldl (putU name cs) st)
 | [],st,h,_,_=>h
 | u :: l,st,h,hu,hlen=>by
  rw [yg] at hlen;have h2:(putU name cs st u).2.2.length≤st.2.2.length+1:=by
   unfold putU;cases !st.1&&decide (74 < st.2.1.length+u.length) <;> simp
  exact qsO hn hc hl hcl l _ (qnT h hn hc hl hcl (hu u List.mem_cons_self).1 (hu u List.mem_cons_self).2 (by omega)) (fun v hv=>hu v (List.mem_cons_of_mem _ hv)) (by omega)
theorem qEP {name:List UInt8} (h:mayN name=true):name.length≤30∧name.all chB=true:=by
 unfold mayN at h;simp only [yf,ym,List.all_eq_true] at h;exact ⟨h.1.2,List.all_eq_true.2 fun c hc=>qEJ c (h.2 c hc)⟩
theorem qfJ {name cs:List UInt8} (hn:name.all chB=true) (hc:cs.all chB=true) (hl:name.length≤30) (hcl:cs.length≤12):PutS (true,(headL name 0 cs,[])):=by
 have hh:=qgy name 0 cs;exact ⟨rfl,qsN (qlC _ _ _) (show (headL name 0 cs).length≤74 by omega) (qsM hn hc (by omega)),fun _=>by show (headL name 0 cs).length≤60; omega⟩
theorem qEQ {name cs:List UInt8} (hn:name.all chB=true) (hc:cs.all chB=true) (hl:name.length≤30) (hcl:cs.length≤12) (l:List (List UInt8)) (hu:∀ u∈l,u.length≤12∧u.all chB=true) (hlen:l.length≤100):(numL name cs l).all secB=true:=by
 have key:PutS (l.foldl (putU name cs) (true,(headL name 0 cs,[]))):=by
  cases l with
  | nil=>exact qfJ hn hc hl hcl
  | cons u l =>
   rw [List.foldl_cons];rw [yg] at hlen;exact qsO hn hc hl hcl l _ (qnT (qfJ hn hc hl hcl) hn hc hl hcl (hu u List.mem_cons_self).1 (hu u List.mem_cons_self).2 (by simp)) (fun v hv=>hu v (List.mem_cons_of_mem _ hv)) (by
    have:(putU name cs (true,(headL name 0 cs,[])) u).2.2=[]:=by unfold putU; simp
    rw [this];simp only [List.length_nil];omega)
 unfold numL;rw [List.all_append,key.outs,List.all_cons,key.now];rfl
theorem qwN (name:List UInt8) (t:List Int) (ht:t.length≤100):bif (qB name t).2 != 0 then (qB name t).1.isEmpty else !((qB name t).1.isEmpty)&&(qB name t).1.all secB:=by
 unfold qB;cases hq:qcC name t != 0 with
 | true=>simp only [yc]; rw [hq]; rfl
 | false =>
  have hq0:(qcC name t==0)=true:=by
   unfold bne at hq;simpa using hq
  have hm:mayN name=true:=by
   have h0:=eq_of_beq hq0;unfold qcC at h0;cases hm:mayN name with
   | false=>rw [hm] at h0; cases h0
   | true=>rfl
  obtain ⟨hl,hn⟩:=qEP hm;cases hp:(z28 name t).2 with
  | true =>
   have hs:z51 t=true:=by
    unfold z28 at hp;cases hs:z51 t with
    | true=>rfl
    | false=>rw [hs] at hp; cases hp
   have h74:(qek name t).length≤74:=by
    unfold z28 at hp;rw [hs] at hp;exact of_decide_eq_true hp
   show (true&&(secB (qek name t)&&true))=true;rw [qsN (qsD name t) h74 (by
    unfold qek;rw [List.all_append,hn,List.all_cons,qEN _ (qAG hs)];rfl)]
   rfl
  | false =>
   cases hr:(z22 t).2 != 0 with
   | true=>simp only [yc,yd]; rw [hr]; rfl
   | false =>
    have hun:=qnL (z22 t).1 t;have hcl:=qcX (z22 t).1;have hcc:=qsL (z22 t).1;have hu:∀ u∈z23 (z22 t).1 t,u.length≤12∧u.all chB=true:=fun u hu=>by
     unfold z23 at hu;obtain ⟨c,_,rfl⟩:=List.mem_map.1 hu;exact ⟨qlz _ c,qyc _ c⟩
    cases hw:decide ((headL name (-1) (z56 (z22 t).1)++(z23 (z22 t).1 t).flatten).length≤74) with
    | true =>
     have hp0:=qlC name (-1) (z56 (z22 t).1);show (true&&(secB (headL name (-1) (z56 (z22 t).1)++(z23 (z22 t).1 t).flatten)&&true))=true;rw [qsN (by rw [yn]; omega) (of_decide_eq_true hw) (by
      rw [List.all_append,qsM hn hcc (by omega),List.all_flatten,List.all_eq_true.2 fun u hu'=>(hu u hu').2];rfl)]
     rfl
    | false =>
     show (!(numL name (z56 (z22 t).1) (z23 (z22 t).1 t)).isEmpty&&(numL name (z56 (z22 t).1) (z23 (z22 t).1 t)).all secB)=true;rw [qEQ hn hcc hl hcl _ hu (by omega)];unfold numL;simp
end Go.Av
