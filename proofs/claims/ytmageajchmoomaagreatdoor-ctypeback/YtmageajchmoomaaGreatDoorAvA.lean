import Derived.Below
import Derived.Laws.OwnMore
import Derived.Maps.AppendAt
import Derived.Deep.Draws
import Derived.WalkKit
import Derived.Laws.BitsLemmas
import Derived.Laws.Concat
import Derived.Laws.Cells
import Derived.Laws.BytesArg
import Derived.Laws.MakeOwn
import Derived.Lib.AppendStr
namespace Go.Av
set_option linter.unusedSimpArgs false
set_option linter.unusedVariables false
section
open Go.RowKit
variable {w w':World} {vs:List Value} {k:Nat} {v:Value}
theorem ya:type_of% @Option.some.injEq:=@Option.some.injEq
theorem yb:type_of% @Prod.mk.injEq:=@Prod.mk.injEq
theorem yc:type_of% @cond_true:=@cond_true
theorem yd:type_of% @cond_false:=@cond_false
theorem ye:type_of% @Result.andThen_ok:=@Result.andThen_ok
theorem yf:type_of% @Bool.and_eq_true:=@Bool.and_eq_true
theorem yg:type_of% @List.length_cons:=@List.length_cons
theorem yh:type_of% @Sem.run_bind:=@Sem.run_bind
theorem yi:type_of% @Bool.and_true:=@Bool.and_true
theorem yj:type_of% @Prod.mk.inj:=@Prod.mk.inj
theorem yl:type_of% @List.append_assoc:=@List.append_assoc
theorem ym:type_of% @decide_eq_true_eq:=@decide_eq_true_eq
theorem yn:type_of% @List.length_append:=@List.length_append
theorem yo:type_of% @decide_eq_true:=@decide_eq_true
theorem yp:type_of% @Option.some.inj:=@Option.some.inj
theorem yq:type_of% @Bool.false_eq_true:=@Bool.false_eq_true
theorem yr:type_of% @run_underlying:=@run_underlying
theorem yu:type_of% @Sem.run_pure:=@Sem.run_pure
theorem yv:type_of% @Nat.le_refl:=@Nat.le_refl
theorem yw:type_of% @List.drop_zero:=@List.drop_zero
theorem yx:type_of% @decide_eq_false:=@decide_eq_false
theorem yz:type_of% @List.length_take:=@List.length_take
theorem yA:type_of% @List.drop_eq_nil_of_le:=@List.drop_eq_nil_of_le
theorem yB:type_of% @beq_eq_false_iff_ne:=@beq_eq_false_iff_ne
theorem yC:type_of% @Nat.mul_le_mul_right:=@Nat.mul_le_mul_right
theorem yD:type_of% @Sigma.mk.injEq:=@Sigma.mk.injEq
theorem yE:type_of% @Nat.zero_add:=@Nat.zero_add
theorem yF:type_of% @List.eq_nil_of_length_eq_zero:=@List.eq_nil_of_length_eq_zero
theorem yG:type_of% @List.append_nil:=@List.append_nil
theorem yH:type_of% @Nat.lt_of_lt_of_le:=@Nat.lt_of_lt_of_le
theorem yI:type_of% @List.map_cons:=@List.map_cons
theorem yJ:type_of% @not_true_eq_false:=@not_true_eq_false
theorem yK:type_of% @List.length_drop:=@List.length_drop
theorem yL:type_of% @Nat.le_trans:=@Nat.le_trans
theorem yM:type_of% @List.getElem?_append_left:=@List.getElem?_append_left
theorem yN:type_of% @List.getElem?_append_right:=@List.getElem?_append_right
theorem yO:type_of% @List.getElem?_eq_getElem:=@List.getElem?_eq_getElem
theorem yP:type_of% @List.length_map:=@List.length_map
theorem yR:type_of% @Bool.or_eq_true:=@Bool.or_eq_true
theorem yS:type_of% @Nat.add_assoc:=@Nat.add_assoc
theorem yU:type_of% @Option.map_some:=@Option.map_some
theorem yW:type_of% @List.getElem?_eq_none:=@List.getElem?_eq_none
theorem yY:type_of% @List.getD_eq_getElem?_getD:=@List.getD_eq_getElem?_getD
theorem yZ:type_of% @List.getElem?_cons_succ:=@List.getElem?_cons_succ
theorem y3:type_of% @List.getElem?_cons_zero:=@List.getElem?_cons_zero
theorem y4:type_of% @Bool.and_false:=@Bool.and_false
theorem y5:type_of% @Bool.false_and:=@Bool.false_and
theorem y6:type_of% @Bool.true_and:=@Bool.true_and
inductive Sh where
 | bool
 | byte
 | int (k:IntKind)
 | str
 | sl (e:Sh)
 | unit
 | pair (a b:Sh)
 | arr (n:Nat) (e:Sh)
 deriving DecidableEq,Inhabited
@[reducible] def Den:Sh→Type
 | .bool=>Bool
 | .byte=>UInt8
 | .int _=>Int
 | .str=>List UInt8
 | .sl e=>List (Den e)
 | .unit=>Unit
 | .pair a b=>Den a×Den b
 | .arr _ e=>List (Den e)
def Sh.size:Sh→Nat
 | .unit=>0
 | .pair a b=>a.size+b.size
 | .arr n e=>n*e.size
 | _=>1
def Sh.agg:Sh→Bool
 | .unit | .pair _ _ | .arr _ _=>true
 | _=>false
def dflt:(s:Sh)→Den s
 | .bool=>false
 | .byte=>(0:UInt8)
 | .int _=>(0:Int)
 | .str=>[]
 | .sl _=>[]
 | .unit=>()
 | .pair a b=>(dflt a,dflt b)
 | .arr n e=>List.replicate n (dflt e)
abbrev qa:=Nat→Nat→Prop
def MemAt (w:World) (S:qa) (ad:Addr) (vs:List Value):Prop :=
 ad.spot=none∧∀ (i:Nat) (v:Value),vs[i]? = some v→S ad.block (ad.off+i)∧w.cell? ⟨ad.block,ad.off+i,none⟩=some v
def qd {α:Type} (R:α→List Value→Prop):List α→List Value→Prop
 | [],vs=>vs=[]
 | x :: xs,vs=>∃ v1 v2,vs=v1++v2∧R x v1∧qd R xs v2
def RdC (w:World) (S:qa):(s:Sh)→Den s→List Value→Prop
 | .bool,b,vs=>vs=[.bool b]
 | .byte,b,vs=>vs=[.int .u8 (UInt8.toNat b:Nat)]
 | .int k,n,vs=>vs=[.int k n]
 | .str,s,vs=>∃ b:ByteArray,vs=[.string b]∧b.data.toList=s
 | .sl e,l,vs=>∃ A cap cs,vs=[.slice A l.length cap]∧l.length≤cap∧qd (RdC w S e) l cs∧(cs≠[]→∃ ad,A=some ad∧MemAt w S ad cs)
 | .unit,_,vs=>vs=[]
 | .pair a b,x,vs=>∃ v1 v2,vs=v1++v2∧RdC w S a x.1 v1∧RdC w S b x.2 v2
 | .arr n e,l,vs=>l.length=n∧qd (RdC w S e) l vs
def RdV (w:World) (S:qa) (s:Sh) (x:Den s) (v:Value):Prop :=
 if s.agg then ∃ cs,v=.agg cs∧RdC w S s x cs.toList else RdC w S s x [v]
def Keeps (w:World) (S:qa) (w':World) (S':qa):Prop :=
 ∀ b o,S b o→S' b o∧w'.cell? ⟨b,o,none⟩=w.cell? ⟨b,o,none⟩
theorem Keeps.refl (w:World) (S:qa):Keeps w S w S:=fun _ _ h=>⟨h,rfl⟩
theorem Keeps.trans {w1 w2:World} {S S1 S2:qa} (h:Keeps w S w1 S1) (k:Keeps w1 S1 w2 S2):Keeps w S w2 S2 :=
 fun b o hs=>⟨(k b o (h b o hs).1).1,(k b o (h b o hs).1).2.trans (h b o hs).2⟩
theorem MemAt.keeps {S S':qa} {ad:Addr} (h:MemAt w S ad vs) (hk:Keeps w S w' S'):MemAt w' S' ad vs :=
 ⟨h.1,fun i v hi=>⟨(hk _ _ (h.2 i v hi).1).1,(hk _ _ (h.2 i v hi).1).2.trans (h.2 i v hi).2⟩⟩
section chunks
variable {α:Type} {R R':α→List Value→Prop}
theorem qd.mono (h:∀ x vs,R x vs→R' x vs):∀ {l:List α} {vs:List Value},qd R l vs→qd R' l vs
 | [],_,hc=>hc
 | _ :: _,_,⟨v1,v2,e,h1,h2⟩=>⟨v1,v2,e,h _ _ h1,qd.mono h h2⟩
theorem qd.append:∀ {l m:List α} {vs us:List Value},qd R l vs→qd R m us→qd R (l++m) (vs++us)
 | [],_,_,_,h,k=>by
  have h':_=[]:=h;subst h';exact k
 | _ :: _,_,_,us,⟨v1,v2,e,h1,h2⟩,k=>⟨v1,v2++us,by rw[e,yl],h1,qd.append h2 k⟩
theorem qd.split:∀ {l m:List α} {vs:List Value},qd R (l++m) vs→∃ v1 v2,vs=v1++v2∧qd R l v1∧qd R m v2
 | [],_,vs,h=>⟨[],vs,rfl,rfl,h⟩
 | _ :: _,_,_,⟨v1,v2,e,h1,h2⟩=>by
  obtain⟨u1,u2,e2,k1,k2⟩:=qd.split h2;exact⟨v1++u1,u2,by rw[e,e2,yl],⟨v1,u1,rfl,h1,k1⟩,k2⟩
theorem qd.length {k:Nat} (hR:∀ x vs,R x vs→vs.length=k):∀ {l:List α} {vs:List Value},qd R l vs→vs.length=l.length*k
 | [],_,h=>by have h':_=[]:=h;simp[h']
 | _ :: _,_,⟨v1,v2,e,h1,h2⟩=>by rw[e,yn,hR _ _ h1,qd.length hR h2,yg,Nat.add_mul];omega
theorem qd.take (hR:∀ x vs,R x vs→vs.length=k) {l:List α} (n:Nat) (h:qd R l vs) (hn:n≤l.length):qd R (l.take n) (vs.take (n*k)):=by
 have h':=h;rw[← List.take_append_drop n l] at h';obtain⟨v1,v2,rfl,k1,k2⟩:=qd.split h';have h1:=qd.length hR k1;rw[yz,Nat.min_eq_left hn] at h1;rw[List.take_left' h1];exact k1
theorem qd.drop (hR:∀ x vs,R x vs→vs.length=k) {l:List α} (n:Nat) (h:qd R l vs) (hn:n≤l.length):qd R (l.drop n) (vs.drop (n*k)):=by
 have h':=h;rw[← List.take_append_drop n l] at h';obtain⟨v1,v2,rfl,k1,k2⟩:=qd.split h';have h1:=qd.length hR k1;rw[yz,Nat.min_eq_left hn] at h1;rw[List.drop_left' h1];exact k2
theorem qd.single {x:α} (h:R x vs):qd R [x] vs:=⟨vs,[],by simp,h,rfl⟩
theorem qd.one {x:α} (h:qd R [x] vs):R x vs:=by
 obtain⟨v1,v2,rfl,h1,h2⟩:=h;have h':v2=[]:=h2;subst h';simpa using h1
theorem qd.at (hR:∀ x vs,R x vs→vs.length=k) {l:List α} (n:Nat) (h:qd R l vs) (hn:n < l.length):R l[n] ((vs.drop (n*k)).take k):=by
 have h1:=qd.drop hR n h (Nat.le_of_lt hn);have h2:=qd.take hR 1 h1 (by simp;omega);rw[Nat.one_mul,List.drop_eq_getElem_cons hn] at h2;exact qd.one h2
end chunks
theorem RdC.length {w:World} {S:qa}:∀ (s:Sh) (x:Den s) (vs:List Value),RdC w S s x vs→vs.length=s.size
 | .bool,_,_,h=>by simp only[RdC] at h;simp[h,Sh.size]
 | .byte,_,_,h=>by simp only[RdC] at h;simp[h,Sh.size]
 | .int _,_,_,h=>by simp only[RdC] at h;simp[h,Sh.size]
 | .str,_,_,h=>by simp only[RdC] at h;obtain⟨b,h,_⟩:=h;simp[h,Sh.size]
 | .sl _,_,_,h=>by simp only[RdC] at h;obtain⟨_,_,_,h,_⟩:=h;simp[h,Sh.size]
 | .unit,_,_,h=>by simp only[RdC] at h;simp[h,Sh.size]
 | .pair a b,_,_,h=>by
  simp only[RdC] at h;obtain⟨v1,v2,e,h1,h2⟩:=h;rw[e,yn,RdC.length a _ _ h1,RdC.length b _ _ h2,Sh.size]
 | .arr n e,l,vs,h=>by
  simp only[RdC] at h;rw[qd.length (RdC.length e) h.2,h.1,Sh.size]
theorem RdC.keeps {w w':World} {S S':qa} (hk:Keeps w S w' S'):∀ (s:Sh) (x:Den s) (vs:List Value),RdC w S s x vs→RdC w' S' s x vs
 | .bool,_,_,h=>by simpa only[RdC] using h
 | .byte,_,_,h=>by simpa only[RdC] using h
 | .int _,_,_,h=>by simpa only[RdC] using h
 | .str,_,_,h=>by simpa only[RdC] using h
 | .sl e,_,_,h=>by
  simp only[RdC] at h ⊢;obtain⟨A,cap,cs,h1,h2,h3,h4⟩:=h;exact⟨A,cap,cs,h1,h2,h3.mono (RdC.keeps hk e),fun h0=>by obtain⟨ad,e,hl⟩:=h4 h0;exact⟨ad,e,hl.keeps hk⟩⟩
 | .unit,_,_,h=>by simpa only[RdC] using h
 | .pair a b,_,_,h=>by
  simp only[RdC] at h ⊢;obtain⟨v1,v2,e,h1,h2⟩:=h;exact⟨v1,v2,e,RdC.keeps hk a _ _ h1,RdC.keeps hk b _ _ h2⟩
 | .arr n e,l,vs,h=>by
  simp only[RdC] at h ⊢;exact⟨h.1,h.2.mono (RdC.keeps hk e)⟩
theorem qd.oneCell {α:Type} {R:α→List Value→Prop} (hR:∀ x vs,R x vs→∀ u∈vs,u.oneCell'=true):∀ {l:List α} {vs:List Value},qd R l vs→∀ u∈vs,u.oneCell'=true
 | [],_,h,u,hu=>by have h':_=[]:=h;subst h';cases hu
 | _ :: _,_,⟨v1,v2,e,h1,h2⟩,u,hu=>by
  subst e;rcases List.mem_append.1 hu with hu | hu
  ·exact hR _ _ h1 u hu
  ·exact qd.oneCell hR h2 u hu
theorem RdC.oneCell {w:World} {S:qa}:∀ (s:Sh) (x:Den s) (vs:List Value),RdC w S s x vs→∀ u∈vs,u.oneCell'=true
 | .bool,_,_,h=>by simp only[RdC] at h;simp[h,Value.oneCell']
 | .byte,_,_,h=>by simp only[RdC] at h;simp[h,Value.oneCell']
 | .int _,_,_,h=>by simp only[RdC] at h;simp[h,Value.oneCell']
 | .str,_,_,h=>by simp only[RdC] at h;obtain⟨b,h,_⟩:=h;simp[h,Value.oneCell']
 | .sl _,_,_,h=>by simp only[RdC] at h;obtain⟨_,_,_,h,_⟩:=h;simp[h,Value.oneCell']
 | .unit,_,_,h=>by simp only[RdC] at h;simp[h]
 | .pair a b,_,_,h=>by
  simp only[RdC] at h;obtain⟨v1,v2,e,h1,h2⟩:=h;intro u hu;subst e;rcases List.mem_append.1 hu with hu | hu
  ·exact RdC.oneCell a _ _ h1 u hu
  ·exact RdC.oneCell b _ _ h2 u hu
 | .arr n e,l,vs,h=>by
  simp only[RdC] at h;exact qd.oneCell (RdC.oneCell e) h.2
theorem RdV.keeps {S S':qa} (hk:Keeps w S w' S') {s:Sh} {x:Den s} (h:RdV w S s x v):RdV w' S' s x v:=by
 unfold RdV at *
 split at h
 ·rename_i ha;rw[if_pos ha];obtain⟨cs,e,hc⟩:=h;exact⟨cs,e,RdC.keeps hk s x _ hc⟩
 ·rename_i ha;rw[if_neg ha];exact RdC.keeps hk s x _ h
theorem RdV.cells {S:qa} {s:Sh} {x:Den s} (h:RdV w S s x v):RdC w S s x v.cells.toList:=by
 unfold RdV at h;split at h
 ·obtain⟨cs,rfl,hc⟩:=h;exact hc
 ·have h1:=RdC.oneCell s x _ h v (by simp);cases v <;> first | exact h | simp[Value.oneCell'] at h1
end
section
abbrev Lab:=Option (Nat×TypeId)
inductive PSh where
 | leaf (s:Sh)
 | osl (te:TypeId) (e:Sh)
 | psl (te:TypeId) (e:PSh)
 | ppair (a b:PSh)
 | parr (n:Nat) (e:Sh)
 deriving DecidableEq,Inhabited
@[reducible] def PSh.sh:PSh→Sh
 | .leaf s=>s
 | .osl _ e=>.sl e
 | .psl _ e=>.sl e.sh
 | .ppair a b=>.pair a.sh b.sh
 | .parr n e=>.arr n e
inductive PStep where
 | fld (i:Nat)
 | idx (n:Nat)
 | clo (f:FuncId) (first:Bool)
 | cel
def qjn:List PSh→Sh
 | []=>.unit
 | p :: l=>.pair p.sh (qjn l)
structure Inv (s:Sh) where
 I:Den s→Value→World→qa→(Nat→Prop)→Prop
 spec:Den s→List (Sigma Den)→Bool×Bool×Den s
 tag:Option (FuncId×List PSh)
 mp:Option (Sh×Sh)
inductive AV where
 | bad
 | dat (s:Sh) (x:Den s) (o:Lab)
 | tup (vs:List AV)
 | adr (s:Sh) (x:Den s)
 | box (s:Sh) (x:Den s)
 | badr (slot:Nat) (path:List Nat)
 | fn (f:FuncId) (caps:List AV)
 | nilIface
 | iface (t:TypeId) (v:AV)
 | cnd (g:Bool) (v:AV)
 | pv (p:PSh) (x:Den p.sh) (h:Option (List PStep))
 | pbox (p:PSh) (x:Den p.sh) (h:Option (List PStep))
 | padr (slot:Nat) (path:List PStep)
 | pval (slot:Nat) (path:List PStep)
 | itr (s:List UInt8) (pos:Nat)
 | abs (s:Sh) (V:Inv s) (x:Den s)
 | ite (b:Bool) (x y:AV)
 | clom (f:FuncId) (ss:List Nat)
 deriving Inhabited
def AV.lab:AV→Lab
 | .dat _ _ o=>o
 | _=>none
def AV.relab (o:Lab):AV→AV
 | .dat s x _=>.dat s x o
 | v=>v
def AV.strip:AV→AV
 | .dat s x _=>.dat s x none
 | .box _ _=>.bad
 | .badr _ _=>.bad
 | .pv _ _ _=>.bad
 | .pbox _ _ _=>.bad
 | .padr _ _=>.bad
 | .pval _ _=>.bad
 | .itr _ _=>.bad
 | .abs _ _ _=>.bad
 | .ite _ _ _=>.bad
 | .clom _ _=>.bad
 | v=>v
def AV.simple:AV→Bool
 | .bad | .tup _ | .fn _ _ | .nilIface | .iface _ _=>true
 | .dat _ _ none=>true
 | _=>false
def AV.split:AV→(AV→Option AV)→Option AV
 | .ite b x y,k=>bif b then x.split k else y.split k
 | v,k=>match v.simple with
  | true=>k v
  | false=>none
abbrev AV.bool (b:Bool):AV:=.dat .bool b none
abbrev AV.byte (b:UInt8):AV:=.dat .byte b none
abbrev AV.int (k:IntKind) (n:Int):AV:=.dat (.int k) n none
abbrev AV.str (s:List UInt8):AV:=.dat .str s none
abbrev AV.bytes (s:List UInt8):AV:=.dat (.sl .byte) s none
structure TI where
 sh:Option Sh
 bytes:Nat
 el:TypeId
 deriving Inhabited
structure Env where
 ti:TypeId→TI
 fns:FuncId→List AV→Bool×AV
 cns:FuncId→Option (List AV→Bool×AV)
 mutd:List Nat
 nt:Nat
 cuts:Nat→Option (List Nat)
 cutb:Nat→Option (List Nat)
 cutr:Option (List Nat)
abbrev Fr:=Nat→AV
def Sh.isArr:Sh→Bool
 | .arr _ _=>true
 | _=>false
def Sh.fld:Sh→Nat→Option Sh
 | .pair a _,0=>some a
 | .pair _ b,i+1=>b.fld i
 | _,_=>none
def qP:Sh→Nat→Nat
 | .pair a b,i+1=>a.size+qP b i
 | _,_=>0
def qT:(s:Sh)→Den s→Nat→Option (Sigma Den)
 | .pair a _,x,0=>some ⟨a,x.1⟩
 | .pair _ b,x,i+1=>qT b x.2 i
 | _,_,_=>none
def qfS:(s:Sh)→Den s→Nat→(t:Sh)→Den t→Option (Den s)
 | .pair a _,x,0,t,y=>if h:t=a then some (h ▸ y,x.2) else none
 | .pair _ b,x,i+1,t,y=>(qfS b x.2 i t y).map fun z=>(x.1,z)
 | _,_,_,_,_=>none
def qbS:(s:Sh)→Den s→Nat→Option (Sigma Den)
 | .arr _ e,l,i=>some ⟨e,List.getD l i (dflt e)⟩
 | .pair a b,x,i=>qT (.pair a b) x i
 | _,_,_=>none
def qrg:(s:Sh)→Den s→Nat→(t:Sh)→Den t→Option (Den s)
 | .arr _ e,l,i,t,y=>if h:t=e then some (List.set l i (h ▸ y)) else none
 | .pair a b,x,i,t,y=>qfS (.pair a b) x i t y
 | _,_,_,_,_=>none
def Sh.step:Sh→Nat→Option Sh
 | .arr n e,i=>if i < n then some e else none
 | s,i=>s.fld i
def qO:Sh→Nat→Nat
 | .arr _ e,i=>i*e.size
 | s,i=>qP s i
def qao:(s:Sh)→Den s→List Nat→Option (Sigma Den)
 | s,x,[]=>some ⟨s,x⟩
 | s,x,i :: p=>match qbS s x i with
  | some ⟨t,y⟩=>qao t y p
  | none=>none
def qjD:(s:Sh)→Den s→List Nat→(t:Sh)→Den t→Option (Den s)
 | s,_,[],t,y=>if h:t=s then some (h ▸ y) else none
 | s,x,i :: p,t,y=>match qbS s x i with
  | some ⟨u,z⟩=>match qjD u z p t y with
   | some z'=>qrg s x i u z'
   | none=>none
  | none=>none
def qbt:Sh→List Nat→Option Nat
 | _,[]=>some 0
 | s,i :: p=>match s.step i with
  | some t=>match qbt t p with
   | some o=>some (qO s i+o)
   | none=>none
  | none=>none
def qhb:(s:Sh)→List Value→Option (Den s×List Value)
 | .bool,vs=>match vs with
  | .bool b :: r=>some (b,r)
  | _=>none
 | .byte,vs=>match vs with
  | .int .u8 n :: r=>if 0≤n∧n < 256 then some (UInt8.ofNat n.toNat,r) else none
  | _=>none
 | .int k,vs=>match vs with
  | .int k' n :: r=>if k=k' then some (n,r) else none
  | _=>none
 | .str,vs=>match vs with
  | .string b :: r=>some (b.data.toList,r)
  | _=>none
 | .sl _,vs=>match vs with
  | .slice none 0 0 :: r=>some ([],r)
  | _=>none
 | .unit,r=>some ((),r)
 | .pair a b,r=>match qhb a r with
  | some (x,r1)=>match qhb b r1 with
   | some (y,r2)=>some ((x,y),r2)
   | none=>none
  | none=>none
 | .arr _ _,_=>none
def qrh (E:Env) (t:TypeId):Value→AV
 | .bool b=>.bool b
 | .int .u8 n=>if 0≤n∧n < 256 then .byte (UInt8.ofNat n.toNat) else .bad
 | .int k n=>.int k n
 | .string s=>.str s.data.toList
 | .slice none 0 0=>match (E.ti t).sh with
  | some (.sl e)=>.dat (.sl e) [] none
  | _=>.bad
 | .agg cs=>match (E.ti t).sh with
  | some s=>if s.agg then (match qhb s cs.toList with
   | some (x,[])=>.dat s x none
   | _=>.bad) else .bad
  | none=>.bad
 | .nilIface=>.nilIface
 | _=>.bad
def rdo (E:Env) (fr:Fr) (G:Bool) (t:TypeId):Operand→Bool×AV
 | .tmp x=>match fr x with
  | .cnd g v=>(!G||g,v.strip)
  | .box _ _=>(true,.badr x [])
  | v=>(true,v)
 | .const v=>(true,qrh E t v)
 | .func f=>(true,.fn f [])
 | .global _=>(true,.bad)
def qIW (op:BinOp) (a b:UInt8):Option (Bool×AV) :=
 match op with
 | .add=>some (true,.byte (a+b))
 | .sub=>some (true,.byte (a - b))
 | .mul=>some (true,.byte (a*b))
 | .quo=>some (b != 0,.byte (a / b))
 | .rem=>some (b != 0,.byte (a % b))
 | .and=>some (true,.byte (a &&& b))
 | .or=>some (true,.byte (a ||| b))
 | .xor=>some (true,.byte (a ^^^ b))
 | .andNot=>some (true,.byte (a &&& ~~~b))
 | .eql=>some (true,.bool (a==b))
 | .neq=>some (true,.bool (a != b))
 | .lss=>some (true,.bool (decide (a < b)))
 | .leq=>some (true,.bool (decide (a≤b)))
 | .gtr=>some (true,.bool (decide (b < a)))
 | .geq=>some (true,.bool (decide (b≤a)))
 | _=>none
def intOp (op:BinOp) (k:IntKind) (a b:Int):Option (Bool×AV) :=
 match op with
 | .add=>some (true,.int k (k.wrap (a+b)))
 | .sub=>some (true,.int k (k.wrap (a - b)))
 | .mul=>some (true,.int k (k.wrap (a*b)))
 | .quo=>some (b != 0,.int k (k.wrap (a.tdiv b)))
 | .rem=>some (b != 0,.int k (a.tmod b))
 | .and=>some (true,.int k (bits .and k a b))
 | .or=>some (true,.int k (bits .or k a b))
 | .xor=>some (true,.int k (bits .xor k a b))
 | .andNot=>some (true,.int k (bits .andNot k a b))
 | .eql=>some (true,.bool (a==b))
 | .neq=>some (true,.bool (a != b))
 | .lss=>some (true,.bool (decide (a < b)))
 | .leq=>some (true,.bool (decide (a≤b)))
 | .gtr=>some (true,.bool (decide (b < a)))
 | .geq=>some (true,.bool (decide (b≤a)))
 | _=>none
def qri (op:BinOp) (k:IntKind) (a b:Int):Option (Bool×AV) :=
 match op with
 | .shl=>some (decide (0≤b),.int k (k.wrap (a*2 ^ (min b.toNat k.bits))))
 | .shr=>some (decide (0≤b),.int k (a.fdiv (2 ^ (min b.toNat k.bits))))
 | _=>none
def qho (op:BinOp) (a:UInt8) (b:Int):Option (Bool×AV) :=
 match op with
 | .shl=>some (decide (0≤b),.byte (UInt8.ofNat (a.toNat*2 ^ (min b.toNat 8))))
 | .shr=>some (decide (0≤b),.byte (UInt8.ofNat (a.toNat / 2 ^ (min b.toNat 8))))
 | _=>none
def qio:BinOp→Bool
 | .shl | .shr=>true
 | _=>false
def strOp (op:BinOp) (a b:List UInt8):Option (Bool×AV) :=
 match op with
 | .add=>some (decide (a.length+b.length≤9223372036854775807),.str (a++b))
 | .eql=>some (true,.bool (a==b))
 | .neq=>some (true,.bool (a != b))
 | _=>none
def binV (tb:Bool) (op:BinOp) (x y:AV):Option (Bool×AV) :=
 match x,y with
 | .dat .byte a _,.dat .byte b _=>if qio op then qho op a ((UInt8.toNat b:Nat):Int) else qIW op a b
 | .dat (.int k) a _,.dat (.int k') b _ =>
  if k=.u8 then none else if qio op then qri op k a b else if k=k' then intOp op k a b else none
 | .dat .byte a _,.dat (.int _) b _=>if qio op then qho op a b else none
 | .dat (.int k) a _,.dat .byte b _=>if k=.u8 then none else if qio op then qri op k a ((UInt8.toNat b:Nat):Int) else none
 | .dat .bool a _,.dat .bool b _=>if !tb then none else match op with
  | .eql=>some (true,.bool ((a:Bool)==b))
  | .neq=>some (true,.bool ((a:Bool) != b))
  | _=>none
 | .dat .str a _,.dat .str b _=>strOp op a b
 | _,_=>none
def unV (op:UnOp) (x:AV):Option AV :=
 match op,x with
 | .not,.dat .bool b _=>some (.bool (!b))
 | .neg,.dat (.int k) n _=>if k=.u8 then none else some (.int k (k.wrap (0 - n)))
 | _,_=>none
def convV (dst:Sh) (x:AV):Option AV :=
 match dst,x with
 | .byte,.dat .byte b _=>some (.byte b)
 | .byte,.dat (.int _) n _=>some (.byte (UInt8.ofNat (IntKind.u8.wrap n).toNat))
 | .int k,.dat .byte b _=>if k=.u8 then none else some (.int k (k.wrap ((UInt8.toNat b:Nat):Int)))
 | .int k,.dat (.int _) n _=>if k=.u8 then none else some (.int k (k.wrap n))
 | .str,.dat .str s _=>some (.str s)
 | .str,.dat (.sl .byte) s _=>some (.str s)
 | .str,.dat (.int .i32) n _=>some (.str (Utf8.encode n).data.toList)
 | _,_=>none
def idxV:AV→Option Int
 | .dat (.int _) n _=>some n
 | .dat .byte b _=>some ((UInt8.toNat b:Nat):Int)
 | _=>none
def lenV:AV→Option Nat
 | .dat (.sl _) l _=>some (List.length l)
 | .dat .str s _=>some (List.length s)
 | _=>none
def shOf:AV→Option Sh
 | .dat s _ _=>some s
 | _=>none
def qfT (d:Nat):Option (Bool×AV)→Option (Bool×Int)
 | none=>some (true,d)
 | some (ok,v)=>match idxV v with
  | some n=>some (ok,n)
  | none=>none
def qNy (v:AV) (l h:Nat):Option AV :=
 match v with
 | .dat (.sl e) x _=>some (.dat (.sl e) (List.drop l (List.take h x)) none)
 | .dat .str x _=>some (.dat .str (List.drop l (List.take h x)) none)
 | _=>none
def still (E:Env) (fr:Fr) (G:Bool) (o:Oper):Option (Bool×AV) :=
 match o.op with
 | .move x=>some (rdo E fr G o.type x)
 | .pick c a b=>match rdo E fr G 0 c with
  | (okc,.dat .bool t _)=>match t with
   | true=>match rdo E fr G 0 a with
    | (oka,.dat .bool x _)=>some (okc&&oka,.bool x)
    | _=>none
   | false=>match rdo E fr G 0 b with
    | (okb,.dat .bool y _)=>some (okc&&okb,.bool y)
    | _=>none
  | _=>none
 | .binOp op t x y yt=>match rdo E fr G t x,rdo E fr G yt y with
  | (okx,vx),(oky,vy)=>match binV (decide ((E.ti t).sh=some .bool)) op vx vy with
   | some (ok,v)=>some (okx&&oky&&ok,v)
   | none=>none
 | .unOp op t x=>match rdo E fr G t x with
  | (okx,vx)=>match unV op vx with
   | some v=>some (okx,v)
   | none=>none
 | .convert src dst x=>match rdo E fr G 0 x,(E.ti dst).sh,(E.ti src).sh with
  | (okx,vx),some s,some u=>match convV s vx with
   | some v=>if shOf vx≠some u then none else some (okx,v)
   | none=>none
  | _,_,_=>none
 | .index t x i=>match rdo E fr G t x,rdo E fr G 0 i with
  | (okx,.dat .str s _),(oki,vi)=>match idxV vi with
   | some n=>if (E.ti t).sh≠some .str then none else some (okx&&oki&&decide (0≤n)&&decide (n < List.length s),.byte (List.getD s n.toNat 0))
   | none=>none
  | (okx,.dat (.arr m e) l _),(oki,vi)=>match idxV vi with
   | some n=>if (E.ti t).sh=some (.arr m e) then some (okx&&oki&&decide (0≤n)&&decide (n < m),.dat e (List.getD l n.toNat (dflt e)) none) else none
   | none=>none
  | _,_=>none
 | .indexAddr t x i=>match rdo E fr G t x,rdo E fr G 0 i with
  | (okx,.dat (.sl e) l _),(oki,vi)=>match idxV vi with
   | some n=>if (E.ti t).sh=some (.sl e) then some (okx&&oki&&decide (0≤n)&&decide (n < List.length l),.adr e (List.getD l n.toNat (dflt e))) else none
   | none=>none
  | (okx,.adr (.arr m e) l),(oki,vi)=>match idxV vi with
   | some n=>if (E.ti t).sh=some (.arr m e) then some (okx&&oki&&decide (0≤n)&&decide (n < m),.adr e (List.getD l n.toNat (dflt e))) else none
   | none=>none
  | (okx,.badr b p),(oki,vi)=>match fr b with
   | .box s v=>match qao s v p with
    | some ⟨.arr m e,_⟩=>match idxV vi with
     | some n=>if (E.ti t).sh=some (.arr m e) then some (okx&&oki&&decide (0≤n)&&decide (n < m),.badr b (p++[n.toNat])) else none
     | none=>none
    | _=>none
   | _=>none
  | _,_=>none
 | .nilCheck x=>match rdo E fr G 0 x with
  | (okx,.adr s v)=>some (okx,.adr s v)
  | (okx,.badr b p)=>some (okx,.badr b p)
  | _=>none
 | .load t x=>match rdo E fr G 0 x with
  | (okx,.adr s v)=>if (E.ti t).sh=some s then some (okx,.dat s v none) else none
  | (okx,.badr b p)=>match fr b with
   | .box s v=>match qao s v p with
    | some ⟨u,y⟩=>if (E.ti t).sh=some u then some (okx,.dat u y none) else none
    | none=>none
   | _=>none
  | _=>none
 | .field t x f=>match rdo E fr G t x with
  | (okx,.dat s v _)=>match qT s v f with
   | some ⟨u,y⟩=>if (E.ti t).sh=some s then some (okx,.dat u y none) else none
   | none=>none
  | _=>none
 | .fieldAddr t x f=>match rdo E fr G t x with
  | (okx,.adr s v)=>match qT s v f with
   | some ⟨u,y⟩=>if (E.ti t).sh=some s∧u.size≠0 then some (okx,.adr u y) else none
   | none=>none
  | (okx,.badr b p)=>match fr b with
   | .box s v=>match qao s v p with
    | some ⟨u,y⟩=>match qT u y f with
     | some ⟨z,_⟩=>if (E.ti t).sh=some u∧z.size≠0 then some (okx,.badr b (p++[f])) else none
     | none=>none
    | none=>none
   | _=>none
  | _=>none
 | .slice t x lo hi (some m)=>match rdo E fr G t x with
  | (okx,.adr (.arr n e) z)=>match qfT 0 (lo.map (rdo E fr G 0)),hi,rdo E fr G 0 m with
   | some (okl,l),some y,(okm,vm)=>match rdo E fr G 0 y,idxV vm with
    | (okh,vh),some k=>match idxV vh with
     | some h=>if (E.ti t).sh≠some (.arr n e) then none else some (okx&&okl&&okh&&okm&&decide (0≤l)&&decide (l≤h)&&decide (h≤k)&&decide (k≤n),.dat (.sl e) ((z.take h.toNat).drop l.toNat) none)
     | none=>none
    | _,_=>none
   | _,_,_=>none
  | (okx,.dat (.sl e) z _)=>match qfT 0 (lo.map (rdo E fr G 0)),hi,rdo E fr G 0 m with
   | some (okl,l),some y,(okm,vm)=>match rdo E fr G 0 y,idxV vm with
    | (okh,vh),some k=>match idxV vh with
     | some h=>if (E.ti t).sh≠some (.sl e) then none else some (okx&&okl&&okh&&okm&&decide (0≤l)&&decide (l≤h)&&decide (h≤k)&&decide (k≤z.length),.dat (.sl e) ((z.take h.toNat).drop l.toNat) none)
     | none=>none
    | _,_=>none
   | _,_,_=>none
  | _=>none
 | .slice t x lo hi none=>match rdo E fr G t x with
  | (okx,vx)=>match lenV vx with
   | some len=>match qfT 0 (lo.map (rdo E fr G 0)),qfT len (hi.map (rdo E fr G 0)) with
    | some (okl,l),some (okh,h)=>match qNy vx l.toNat h.toNat with
     | some v=>if (E.ti t).sh≠shOf vx then none else some (okx&&okl&&okh&&decide (0≤l)&&decide (l≤h)&&decide (h≤len),v)
     | none=>none
    | _,_=>none
   | none=>none
 | .extract t i=>match rdo E fr G 0 t with
  | (okx,.tup vs)=>match vs[i]? with
   | some (.cnd g v)=>some (okx&&g,v.strip)
   | some v=>some (okx,v.strip)
   | none=>none
  | _=>none
 | .call c=>match c.callee,c.args.toList,c.argTypes.toList with
  | .builtin .len,[x],[t]=>match rdo E fr G t x with
   | (okx,vx)=>match lenV vx with
    | some n=>if (E.ti t).sh≠shOf vx then none else some (okx,.int .i64 n)
    | none=>none
  | .builtin .min,[x,y],_=>match rdo E fr G o.type x,rdo E fr G o.type y with
   | (okx,.dat (.int k) n _),(oky,.dat (.int k') m _)=>if k=k' then some (okx&&oky,.int k (bif decide (m < n) then m else n)) else none
   | _,_=>none
  | .builtin .max,[x,y],_=>match rdo E fr G o.type x,rdo E fr G o.type y with
   | (okx,.dat (.int k) n _),(oky,.dat (.int k') m _)=>if k=k' then some (okx&&oky,.int k (bif decide (m > n) then m else n)) else none
   | _,_=>none
  | _,_,_=>none
 | _=>none
def qtO (E:Env) (fr:Fr) (G:Bool) (s:Sh) (t:TypeId):List (Nat×Operand)→Den s→Option (Bool×Den s)
 | [],x=>some (true,x)
 | (i,p) :: r,x=>match rdo E fr G t p with
  | (ok,.dat u y _)=>match qfS s x i u y with
   | some x'=>match qtO E fr G s t r x' with
    | some (ok',z)=>some (ok&&ok',z)
    | none=>none
   | none=>none
  | _=>none
def qmm (E:Env) (fr:Fr) (G:Bool) (e:Sh) (te:TypeId):List (Nat×Operand)→List (Den e)→Option (Bool×List (Den e))
 | [],x=>some (true,x)
 | (i,p) :: r,x=>match rdo E fr G te p with
  | (ok,.dat u y _)=>if h:u=e∧i < x.length then
   match qmm E fr G e te r (x.set i (h.1 ▸ y)) with
   | some (ok',z)=>some (ok&&ok',z)
   | none=>none
   else none
  | _=>none
def argsV (E:Env) (fr:Fr) (G:Bool):List Operand→List TypeId→Bool×List AV
 | x :: xs,t :: ts=>match rdo E fr G t x,argsV E fr G xs ts with
  | (ok,v),(oks,vs)=>(ok&&oks,v.strip :: vs)
 | _,_=>(true,[])
def room:Nat:=1073741824
def AV.drop (d:Nat):AV→AV
 | .dat s x o=>.dat s x (match o with | some (l,e)=>if l=d then none else some (l,e) | none=>none)
 | .badr s p=>if s=d then .bad else .badr s p
 | .clom f ss=>if ss.contains d then .bad else .clom f ss
 | v=>v
def AV.spent (d:Nat):AV→AV
 | .dat s x o=>.dat s x (match o with | some (l,e)=>if l=d then none else some (l,e) | none=>none)
 | v=>v
def Fr.put (fr:Fr) (d:Nat) (v:AV):Fr:=fun x=>if x=d then v else (fr x).drop d
def Fr.spend (fr:Fr) (d:Nat):Fr:=fun x=>(fr x).spent d
def AV.at (d:Nat):AV→AV
 | .dat s x (some (_,te))=>.dat s x (some (d,te))
 | .clom _ _=>.bad
 | v=>v
def eff (E:Env) (fr:Fr) (G:Bool) (o:Oper):Option (Bool×AV) :=
 match o.op with
 | .call c=>match c.callee with
  | .value (.func f)=>match E.cns f with
   | some _=>none
   | none=>match argsV E fr G c.args.toList c.argTypes.toList with
    | (ok,vs)=>match E.fns f vs with
     | (pre,r)=>some (ok&&pre&&decide (c.args.size=c.argTypes.size),r)
  | .value (.tmp x)=>match rdo E fr G 0 (.tmp x),argsV E fr G c.args.toList c.argTypes.toList with
   | (okf,.fn f caps),(ok,vs)=>match E.fns f (vs++caps.map AV.strip) with
    | (pre,r)=>some (okf&&ok&&pre&&decide (c.args.size=c.argTypes.size),r)
   | _,_=>none
  | _=>none
 | .buildSlice t n parts=>match (E.ti t).sh with
  | some (.sl e)=>match qmm E fr G e (E.ti t).el parts.toList (List.replicate n (dflt e)) with
   | some (ok,l)=>if n*e.size≤65536 then some (ok,.dat (.sl e) l (some (0,(E.ti t).el))) else none
   | none=>none
  | _=>none
 | .makeSlice t n m=>match (E.ti t).sh,rdo E fr G 0 n,rdo E fr G 0 m with
  | some (.sl e),(okn,.dat (.int _) l _),(okm,.dat (.int _) c _) =>
   if (E.ti (E.ti t).el).bytes≤1024 then some (okn&&okm&&decide ((0:Int)≤l)&&decide ((l:Int)≤c)&&decide ((c:Int)≤room),.dat (.sl e) (List.replicate (Int.toNat l) (dflt e)) (some (0,(E.ti t).el))) else none
  | _,_,_=>none
 | .build t parts=>match (E.ti t).sh with
  | some (.arr n e)=>match qmm E fr G e (E.ti t).el parts.toList (List.replicate n (dflt e)) with
   | some (ok,l)=>some (ok,.dat (.arr n e) l none)
   | none=>none
  | some s=>if s.agg=true∧s.isArr=false then
   match qtO E fr G s t parts.toList (dflt s) with
   | some (ok,x)=>some (ok,.dat s x none)
   | none=>none
   else none
  | _=>none
 | _=>none
def qmn (ops:Array Oper) (fr:Fr) (j:Nat) (want:Bool):Option Bool :=
 match (ops[j]?).bind (·.dst) with
 | some t=>match fr t with
  | .dat .bool b _=>some (b==want)
  | .cnd false _=>some false
  | .cnd true (.dat .bool b _)=>some (b==want)
  | _=>none
 | none=>none
def okPut (d:Nat):AV→Bool
 | .dat _ _ (some (l,_))=>l != d
 | .badr s _=>s != d
 | .clom _ ss => !ss.contains d
 | _=>true
def qIX (E:Env) (fr:Fr) (t:TypeId) (x:Operand):Option (Bool×Option Nat×Sigma fun e=>List (Den e)) :=
 match x with
 | .const (.slice none 0 0)=>match (E.ti t).sh with
  | some (.sl e)=>some (true,none,⟨e,[]⟩)
  | _=>none
 | x=>match rdo E fr true t x with
  | (ok,.dat (.sl e) l (some (lb,te)))=>if te=(E.ti t).el then some (ok,some lb,⟨e,l⟩) else none
  | _=>none
def qBG (fr:Fr):Option Nat→Fr
 | some lb=>fr.spend lb
 | none=>fr
def newsV (E:Env) (t u:TypeId) (e:Sh):AV→Option (List (Den e))
 | .dat (.sl e') m _=>if h:e'=e∧u=t then some (h.1 ▸ m) else none
 | .dat .str m _=>if h:Sh.byte=e∧(E.ti (E.ti t).el).bytes=1 then some (h.1 ▸ m) else none
 | _=>none
def qmo (E:Env) (fr:Fr) (o:Oper) (d:Nat):Option (Bool×Fr) :=
 match o.op with
 | .assign x=>match x with
  | .const (.slice none 0 0)=>match (E.ti o.type).sh with
   | some (.sl e)=>some (true,fr.put d (.dat (.sl e) [] (some (d,(E.ti o.type).el))))
   | _=>none
  | .tmp y=>match fr y with
   | .box s z=>if y=d then none else some (true,(fr.put y .bad).put d (.box s z))
   | .dat s z (some (l,te))=>some (true,(fr.spend l).put d (.dat s z (some (d,te))))
   | _=>match rdo E fr true o.type x with
    | (ok,v)=>if okPut d v then some (ok,fr.put d v) else none
  | x=>match rdo E fr true o.type x with
   | (ok,v)=>if okPut d v then some (ok,fr.put d v) else none
 | .call c=>match c.callee,c.args.toList,c.argTypes.toList with
  | .builtin .append,[x,y],[t,u]=>match qIX E fr t x,rdo E fr true u y with
   | some (okx,lb,⟨e,l⟩),(oky,vy) =>
    if (E.ti t).sh=some (.sl e)∧(E.ti (E.ti t).el).bytes≤1024∧(E.ti u).sh=shOf vy then
     match newsV E t u e vy with
     | some m=>some (okx&&oky&&decide (l.length+m.length≤room),(qBG fr lb).put d (.dat (.sl e) (l++m) (some (d,(E.ti t).el))))
     | none=>none
    else none
   | _,_=>none
  | .value (.func f),x :: xs,t :: ts=>match E.cns f with
   | some sp=>match rdo E fr true t x,argsV E fr true xs ts with
    | (ok,.dat (.sl e) l (some (lb,te))),(oks,vs)=>match sp (.dat (.sl e) l (some (0,te)) :: vs) with
     | (pre,.dat (.sl e') r (some (_,te')))=>if h:e'=e then
      (if te'=te∧xs.length=ts.length then some (ok&&oks&&pre,(fr.spend lb).put d (.dat (.sl e) (h ▸ r) (some (d,te)))) else none)
      else none
     | _=>none
    | _,_=>none
   | none=>none
  | _,_,_=>none
 | .alloc t=>match (E.ti t).sh with
  | some s=>some (true,fr.put d (.box s (dflt s)))
  | none=>none
 | .box t x=>match rdo E fr true t x with
  | (ok,.dat s z _)=>if (E.ti t).sh=some s then some (ok,fr.put d (if E.mutd.contains d then .box s z else .adr s z)) else none
  | _=>none
 | .convert src dst x=>match rdo E fr true src x,(E.ti dst).sh with
  | (ok,.dat .str s _),some (.sl .byte)=>if (E.ti src).sh=some .str∧(E.ti (E.ti dst).el).bytes≤1024 then some (ok&&decide (List.length s≤room),fr.put d (.dat (.sl .byte) s none)) else none
  | (ok,.dat (.sl .byte) l (some (lb,_))),some (.sl .byte)=>if src=dst then some (ok&&decide (0 < List.length l),(fr.spend lb).put d (.dat (.sl .byte) l none)) else none
  | _,_=>none
 | _=>none
def Fr.rebox (fr:Fr) (b:Nat) (v:AV):Fr:=fun x=>if x=b then v else fr x
def stepU (E:Env) (fr:Fr) (o:Oper) (d:Nat):Option (Bool×Fr) :=
 match still E fr true o with
 | some (ok,v)=>if okPut d v then some (ok,fr.put d v) else none
 | none=>match eff E fr true o with
  | some (ok,v)=>some (ok,fr.put d (v.at d))
  | none=>qmo E fr o d
def qjo (E:Env) (ops:Array Oper) (fr:Fr) (o:Oper):Option (Bool×Fr) :=
 match o.dst with
 | some d=>if E.nt≤d then none else match o.guard with
  | none=>stepU E fr o d
  | some (j,want)=>match qmn ops fr j want with
   | some true=>stepU E fr o d
   | some false=>some (true,fr.put d (.cnd false .bad))
   | none=>none
 | none=>match o.guard,o.op with
  | none,.store t x y=>match rdo E fr true 0 x,rdo E fr true t y with
   | (okx,.badr b p),(oky,.dat u z _)=>match fr b with
    | .box s q=>match qjD s q p u z with
     | some q'=>if (E.ti t).sh=some u then some (okx&&oky,fr.rebox b (.box s q')) else none
     | none=>none
    | _=>none
   | _,_=>none
  | _,_=>none
def Fr.set (fr:Fr) (d:Nat) (v:AV):Fr:=fun x=>if x=d then v else fr x
def qRM (ops:Array Oper) (d:Nat):Bool :=
 ops.toList.any fun o=>match o.guard with
  | some (j,_)=>(match ops[j]? with | some o'=>o'.dst==some d | none=>false)
  | none=>false
def qjp (ops:Array Oper) (o:Option Nat) (fr:Fr) (K:Fr→Option AV):Option AV :=
 match o with
 | none=>K fr
 | some d=>match qRM ops d with
  | false=>match fr d with
   | .ite b x y=>(AV.ite b x y).split fun v=>K (fr.set d v)
   | _=>K fr
  | true=>match fr d with
   | .dat .bool b o=>bif b then K (fr.set d (.dat .bool true o)) else K (fr.set d (.dat .bool false o))
   | .cnd true (.dat .bool b o)=>bif b then K (fr.set d (.cnd true (.dat .bool true o))) else K (fr.set d (.cnd true (.dat .bool false o)))
   | _=>K fr
def evOps (E:Env) (ops:Array Oper):List Oper→Fr→(Fr→Option AV)→Option AV
 | [],fr,K=>K fr
 | o :: rest,fr,K=>match qjo E ops fr o with
  | some (ok,fr')=>bif ok then qjp ops o.dst fr' (fun fr2=>evOps E ops rest fr2 K) else none
  | none=>none
inductive Ex where
 | normal
 | exit (id:Nat)
 | ret
 deriving DecidableEq,Inhabited
def qdl (E:Env) (fr:Fr) (G:Bool) (o:Oper):Bool :=
 match o.op with
 | .load _ x=>match rdo E fr G 0 x with
  | (_,.badr _ _)=>false
  | _=>true
 | _=>true
def qip:Op→Bool
 | .move _ | .pick .. | .binOp .. | .unOp .. | .convert .. | .index .. | .indexAddr .. | .nilCheck .. | .load .. | .field .. | .fieldAddr .. | .slice .. | .extract .. | .makeInterface .. | .typeAssert .. => true
 | .call c=>match c.callee with
  | .builtin .len=>true
  | .builtin .min=>true
  | .builtin .max=>true
  | _=>false
 | _=>false
def takes (E:Env) (fr:Fr) (ops:Array Oper) (o:Oper):Bool :=
 qip o.op&&(match o.guard with
 | none=>(still E fr true o).isSome&&qdl E fr true o
 | some (j,want)=>match qmn ops fr j want with
  | some true=>(still E fr true o).isSome&&qdl E fr true o
  | some false=>true
  | none=>false)
def qmp (E:Env) (ops:Array Oper):Nat→Array Bool→Fr→(Fr→Option AV)→Option AV
 | 0,_,_,_=>none
 | n+1,listed,fr,K=>match Region.ready .any ops listed with
  | []=>K fr
  | i :: rs=>match (i :: rs).find? (fun i=>Region.free .any ops listed i&&takes E fr ops (ops.getD i default)) with
   | some k=>match qjo E ops fr (ops.getD k default) with
    | some (ok,fr')=>bif ok then qjp ops (ops.getD k default).dst fr' (fun fr2=>qmp E ops n (listed.setIfInBounds k true) fr2 K) else none
    | none=>none
   | none=>match rs with
    | []=>match qjo E ops fr (ops.getD i default) with
     | some (ok,fr')=>bif ok then qjp ops (ops.getD i default).dst fr' (fun fr2=>qmp E ops n (listed.setIfInBounds i true) fr2 K) else none
     | none=>none
    | _=>none
def frOf:List (Nat×AV)→Fr
 | [],_=>.bad
 | (s,v) :: r,x=>if x=s then v else frOf r x
def qjq (l:List Nat) (s:Nat):Bool:=l.contains s&&decide (s < 1000000)
def cutV (l:List Nat):AV→AV
 | .dat s x (some (lb,te))=>match qjq l lb with
  | true=>.dat s x (some (lb,te))
  | false=>.dat s x none
 | .badr s p=>match qjq l s with
  | true=>.badr s p
  | false=>.bad
 | v=>v
def cutF (o:Option (List Nat)) (fr:Fr):Fr :=
 match o with
 | some l=>frOf (l.map fun s=>(s % 1000000,cutV l (fr (s % 1000000))))
 | none=>fr
def qjr:Code→Nat
 | .region id _ _=>id
 | .seq a _=>qjr a
 | .block _ c=>qjr c
 | .scope c=>qjr c
 | .loop c=>qjr c+1000000
 | _=>0
def kSeq (f:(Ex→Fr→Option AV)→Fr→Option AV) (K:Ex→Fr→Option AV):Ex→Fr→Option AV
 | .normal,fr=>f K fr
 | ex,fr=>K ex fr
def qNz (id:Nat) (o:Option (List Nat)) (K:Ex→Fr→Option AV):Ex→Fr→Option AV
 | .normal,fr=>K .normal (cutF o fr)
 | .exit i,fr=>if i=id then K .normal fr else K (.exit i) fr
 | .ret,fr=>K .ret fr
def evC (E:Env) (lp:Code→(Ex→Fr→Option AV)→Fr→Option AV):Code→(Ex→Fr→Option AV)→Fr→Option AV
 | .skip,K,fr=>K .normal fr
 | .region _ ops false,K,fr=>evOps E ops ops.toList fr (K .normal)
 | .region _ ops true,K,fr=>if Region.noSelect ops then qmp E ops (ops.size+1) (Array.replicate ops.size false) fr (K .normal) else none
 | .seq a b,K,fr=>evC E lp a (kSeq (evC E lp b) K) fr
 | .cond c a b,K,fr=>match rdo E fr true 0 c with
  | (ok,.dat .bool t _)=>bif ok then (bif t then evC E lp a K fr else evC E lp b K fr) else none
  | _=>none
 | .block id c,K,fr=>evC E lp c (qNz id (E.cutb id) K) fr
 | .loop c,K,fr=>lp c K (cutF (E.cuts (qjr c)) fr)
 | .exit id,K,fr=>K (.exit id) (cutF (E.cutb id) fr)
 | .ret,K,fr=>K .ret (cutF E.cutr fr)
 | _,_,_=>none
def evL (E:Env):Nat→Code→(Ex→Fr→Option AV)→Fr→Option AV
 | 0,_,_,_=>none
 | n+1,c,K,fr=>evC E (evL E n) c (kSeq (fun K fr=>evL E n c K (cutF (E.cuts (qjr c)) fr)) K) fr
def resV (E:Env) (fr:Fr):ResultVar→Bool×AV
 | .tmp t=>match fr t with
  | .box _ _=>(false,.bad)
  | .badr _ _=>(false,.bad)
  | .cnd _ _=>(false,.bad)
  | v=>(true,v)
 | .cell t ty=>match fr t with
  | .box s x=>if (E.ti ty).sh=some s then (true,.dat s x none) else (false,.bad)
  | .adr s x=>if (E.ti ty).sh=some s then (true,.dat s x none) else (false,.bad)
  | _=>(false,.bad)
def resL (E:Env) (fr:Fr):List ResultVar→Bool×List AV
 | []=>(true,[])
 | r :: rs=>match resV E fr r,resL E fr rs with
  | (ok,v),(oks,vs)=>(ok&&oks,v.strip :: vs)
def qfU (E:Env) (rs:Array ResultVar) (fr:Fr):Option AV :=
 match rs.toList with
 | [r]=>match resV E fr r with
  | (ok,v)=>bif ok then some v else none
 | rs=>match resL E fr rs with
  | (ok,vs)=>bif ok then some (.tup vs) else none
def kFn (E:Env) (rs:Array ResultVar):Ex→Fr→Option AV
 | .normal,fr=>qfU E rs fr
 | .ret,fr=>qfU E rs fr
 | .exit _,_=>none
def sub:Code→List Nat→Code
 | c,[]=>c
 | .seq a _,0 :: p=>sub a p
 | .seq _ b,_ :: p=>sub b p
 | .cond _ a _,0 :: p=>sub a p
 | .cond _ _ b,_ :: p=>sub b p
 | .block _ c,_ :: p=>sub c p
 | .loop c,_ :: p=>sub c p
 | .scope c,_ :: p=>sub c p
 | _,_=>.skip
@[match_pattern] abbrev da (s:List UInt8):AV:=.dat (.sl .byte) s none
@[match_pattern] abbrev db (s:List UInt8) (o:Lab):AV:=.dat (.sl .byte) s o
@[match_pattern] abbrev dc (s:Int):AV:=.dat (.int .i64) s none
@[match_pattern] abbrev de (s:Int) (o:Lab):AV:=.dat (.int .i64) s o
@[match_pattern] abbrev df (s:List UInt8) (o:Lab):AV:=.dat .str s o
@[match_pattern] abbrev dg (s:Bool):AV:=.dat .bool s none
@[match_pattern] abbrev dh (s:Bool) (o:Lab):AV:=.dat .bool s o
@[match_pattern] abbrev di (s:Int) (o:Lab):AV:=.dat (.int .i32) s o
@[match_pattern] abbrev dm (s:UInt8):AV:=.dat .byte s none
@[match_pattern] abbrev dn (s:UInt8) (o:Lab):AV:=.dat .byte s o
end
section
open Go.RowKit
variable {w w':World} {S:qa} {v:Value} {av:AV}
inductive Rd (w:World) (S:qa):Value→AV→Prop
 | bad (v:Value):Rd w S v .bad
 | dat (s:Sh) (x:Den s) (o:Lab) (v:Value) (h:RdV w S s x v):Rd w S v (.dat s x o)
 | tup (vs:Array Value) (avs:List AV) (hl:∀ (i:Nat) (c:AV),avs[i]? = some c→i < vs.size∨∃ v,c=.cnd false v)
  (hr:∀ (i:Nat) (c:AV),avs[i]? = some c→Rd w S (vs.getD i undef) c):Rd w S (.tuple vs) (.tup avs)
 | adr (s:Sh) (x:Den s) (ad:Addr) (cs:List Value) (h:RdC w S s x cs) (hm:ad.spot=none∧(cs≠[]→MemAt w S ad cs)):Rd w S (.pointer (some ad)) (.adr s x)
 | box (v:Value) (s:Sh) (x:Den s):Rd w S v (.box s x)
 | badr (v:Value) (s:Nat) (p:List Nat):Rd w S v (.badr s p)
 | fn (f:FuncId) (caps:Array Value) (avs:List AV) (hl:caps.size=avs.length)
  (hr:∀ (i:Nat) (c:AV),avs[i]? = some c→Rd w S (caps.getD i undef) c):Rd w S (.func (.func f) #[] caps) (.fn f avs)
 | nilIface:Rd w S .nilIface .nilIface
 | iface (t:TypeId) (v:Value) (av:AV) (h:Rd w S v av):Rd w S (.iface t v) (.iface t av)
 | cnd (v:Value) (g:Bool) (av:AV) (h0:g=false→v=undef) (h:g=true→Rd w S v av):Rd w S v (.cnd g av)
 | pv (v:Value) (p:PSh) (x:Den p.sh) (h:Option (List PStep)):Rd w S v (.pv p x h)
 | pbox (v:Value) (p:PSh) (x:Den p.sh) (h:Option (List PStep)):Rd w S v (.pbox p x h)
 | padr (v:Value) (s:Nat) (path:List PStep):Rd w S v (.padr s path)
 | pval (v:Value) (s:Nat) (path:List PStep):Rd w S v (.pval s path)
 | itr (v:Value) (s:List UInt8) (pos:Nat):Rd w S v (.itr s pos)
 | abs (v:Value) (s:Sh) (V:Inv s) (x:Den s):Rd w S v (.abs s V x)
 | clom (v:Value) (f:FuncId) (ss:List Nat):Rd w S v (.clom f ss)
 | ite (v:Value) (b:Bool) (x y:AV) (h1:b=true→Rd w S v x) (h2:b=false→Rd w S v y):Rd w S v (.ite b x y)
theorem Rd.keeps {S':qa} (h:Rd w S v av) (hk:Keeps w S w' S'):Rd w' S' v av:=by
 induction h with
 | bad v=>exact .bad v
 | dat s x o v h=>exact .dat s x o v (h.keeps hk)
 | tup vs avs hl _ ih=>exact .tup vs avs hl ih
 | adr s x ad cs h hm=>exact .adr s x ad cs (RdC.keeps hk s x cs h) ⟨hm.1,fun h0=>(hm.2 h0).keeps hk⟩
 | box v s x=>exact .box v s x
 | badr v s p=>exact .badr v s p
 | fn f caps avs hl _ ih=>exact .fn f caps avs hl ih
 | nilIface=>exact .nilIface
 | iface t v av _ ih=>exact .iface t v av ih
 | cnd v g av h0 _ ih=>exact .cnd v g av h0 ih
 | pv v p x h=>exact .pv v p x h
 | pbox v p x h=>exact .pbox v p x h
 | padr v s p=>exact .padr v s p
 | pval v s p=>exact .pval v s p
 | itr v s p=>exact .itr v s p
 | abs v s V x=>exact .abs v s V x
 | clom v f ss=>exact .clom v f ss
 | ite v b x y _ _ ih1 ih2=>exact .ite v b x y ih1 ih2
theorem Rd.relab (h:Rd w S v av) (o:Lab):Rd w S v (av.relab o):=by
 cases h with
 | dat s x o' v h=>exact .dat s x o v h
 | bad v=>exact .bad v
 | tup vs avs hl hr=>exact .tup vs avs hl hr
 | adr s x ad cs h hm=>exact .adr s x ad cs h hm
 | box v s x=>exact .box v s x
 | badr v s p=>exact .badr v s p
 | fn f caps avs hl hr=>exact .fn f caps avs hl hr
 | nilIface=>exact .nilIface
 | iface t v av h=>exact .iface t v av h
 | cnd v g av h0 h=>exact .cnd v g av h0 h
 | pv v p x h=>exact .pv v p x h
 | pbox v p x h=>exact .pbox v p x h
 | padr v s p=>exact .padr v s p
 | pval v s p=>exact .pval v s p
 | itr v s p=>exact .itr v s p
 | abs v s V x=>exact .abs v s V x
 | clom v f ss=>exact .clom v f ss
 | ite v b x y h1 h2=>exact .ite v b x y h1 h2
theorem Rd.strip (h:Rd w S v av):Rd w S v av.strip:=by
 cases av <;> first | exact .bad v | exact h | exact h.relab none
theorem Rd.drop (h:Rd w S v av) (d:Nat):Rd w S v (av.drop d):=by
 cases av with
 | dat s x o=>exact h.relab _
 | badr s p =>
  show Rd w S v (if s=d then .bad else .badr s p);split
  ·exact .bad v
  ·exact h
 | clom f ss =>
  show Rd w S v (if ss.contains d then .bad else .clom f ss);split
  ·exact .bad v
  ·exact h
 | _=>exact h
theorem Rd.spent (h:Rd w S v av) (d:Nat):Rd w S v (av.spent d):=by
 cases av with
 | dat s x o=>exact h.relab _
 | _=>exact h
structure Kept (Pr:Nat→Prop) (w w':World):Prop where
 os:w'.os=w.os
 tape:w'.tape=w.tape
 output:w'.output=w.output
 size:w.heap.size≤w'.heap.size
 block:∀ k,Pr k→w'.heap[k]? = w.heap[k]?
theorem Kept.refl (Pr:Nat→Prop) (w:World):Kept Pr w w:=⟨rfl,rfl,rfl,yv _,fun _ _=>rfl⟩
theorem Kept.grown {Pr:Nat→Prop} {a:World} {row:Option Nat} (h:Kept Pr a w) (hg:w.grownBy w' row) (hB:∀ k,Pr k→k < w.heap.size) (hr:∀ k,row=some k→¬ Pr k):Kept Pr a w' :=
 ⟨hg.os.trans h.os,hg.tape.trans h.tape,hg.output.trans h.output,yL h.size hg.size,fun k hk=>(hg.block k (hB k hk) (fun e=>hr k e.symm hk)).trans (h.block k hk)⟩
def qcb (w:World) (S:qa) (base:Nat→Prop) (te:TypeId) (e:Sh) (v:Value) (l:List (Den e)):Prop :=
 ∃ xs:List Value,w.ownsRow 0 te e.size v l.length xs∧qd (RdC w S e) l xs∧(∀ b,v.ownBlock=some b→∀ o,(S b o↔o < l.length*e.size))∧∀ b,v.ownBlock=some b→¬ base b
def BoxAt (w:World) (S:qa) (base:Nat→Prop) (b:Nat) (s:Sh) (x:Den s):Prop :=
 ¬ base b∧(∀ o,¬ S b o)∧∃ (c:Array Value) (T:TypeId),w.heap[b]? = some (.cells c T (0,0))∧RdC w S s x c.toList
structure R (base:Nat→Prop) (w0:World) (S0:qa) (S:qa) (fr:Fr) (a:Act) (w:World):Prop where
 below:Kept base w0 w
 base_le:∀ k,base k→k < w.heap.size
 old:∀ b o,base b→(S b o↔S0 b o)
 kp:Keeps w0 S0 w S
 slt:∀ b o,S b o→b < w.heap.size
 dfr:a.defers=[]
 rd:∀ t,Rd w S (a.tmps.getD t undef) (fr t)
 cp:∀ t l e,(fr t).lab=some (l,e)→fr l=fr t∧a.tmps.getD l undef=a.tmps.getD t undef
 sls:∀ t s (x:Den s) l,fr t=.dat s x (some l)→∃ e,s=.sl e
 own:∀ t e (x:List (Den e)) te,fr t=.dat (.sl e) x (some (t,te))→qcb w S base te e (a.tmps.getD t undef) x
 dist:∀ l l' e e' b,(fr l).lab=some (l,e)→(fr l').lab=some (l',e')→l≠l'→(a.tmps.getD l undef).ownBlock=some b→(a.tmps.getD l' undef).ownBlock≠some b
 box:∀ t s (x:Den s),fr t=.box s x→∃ b,BoxAt w S base b s x∧a.tmps.getD t undef=.pointer (some ⟨b,0,none⟩)
 boxd:∀ t t' s s' (x:Den s) (x':Den s') b,fr t=.box s x→fr t'=.box s' x'→t≠t'→a.tmps.getD t undef=.pointer (some ⟨b,0,none⟩)→a.tmps.getD t' undef≠.pointer (some ⟨b,0,none⟩)
 boxo:∀ t s (x:Den s) b l e,fr t=.box s x→a.tmps.getD t undef=.pointer (some ⟨b,0,none⟩)→(fr l).lab=some (l,e)→(a.tmps.getD l undef).ownBlock≠some b
 badr:∀ t s p,fr t=.badr s p→∃ u y z b,fr s=.box u y∧a.tmps.getD s undef=.pointer (some ⟨b,0,none⟩)∧qao u y p=some z∧∃ o,qbt u p=some o∧a.tmps.getD t undef=.pointer (some ⟨b,o,none⟩)
 clm:∀ t f ss,fr t=.clom f ss→a.tmps.getD t undef=.func (.func f) #[] (ss.map fun s=>a.tmps.getD s undef).toArray
end
section
open Go.RowKit
variable {v:AV} {d l:Nat} {e:TypeId} {s:Sh} {p ss:List Nat} {f:FuncId} {val:Value} {w':World} {S':qa} {row:Option Nat}
theorem qL (a:Act) (d:Nat) (v:Value) (t:Nat) (hd:d < a.tmps.size) :
 (a.put (some d) v).tmps.getD t undef=if t=d then v else a.tmps.getD t undef:=by
 simp only[Act.put]
 by_cases h:t=d
 ·subst h;simp[hd]
 ·rw[if_neg h];simp[Array.getElem?_setIfInBounds_ne (Ne.symm h)]
theorem qg (a:Act) (d:Option Nat) (v:Value):(a.put d v).tmps.size=a.tmps.size:=by
 cases d <;> simp[Act.put]
theorem qMZ (a:Act) (d:Option Nat) (v:Value):(a.put d v).defers=a.defers:=by
 cases d <;> rfl
theorem qaI (h:(v.drop d).lab=some (l,e)):v.lab=some (l,e)∧l≠d:=by
 cases v with
 | dat s x o =>
  cases o with
  | none=>simp[AV.drop,AV.lab] at h
  | some p =>
   obtain⟨l',e'⟩:=p;simp only[AV.drop,AV.lab] at h ⊢;split at h
   ·cases h
   ·cases h;exact⟨rfl,by assumption⟩
 | badr s p =>
  simp only[AV.drop] at h;split at h <;> simp[AV.lab] at h
 | clom f ss =>
  simp only[AV.drop] at h;split at h <;> simp[AV.lab] at h
 | _=>simp[AV.drop,AV.lab] at h
theorem qqE (h:v.lab=some (l,e)) (hne:l≠d):v.drop d=v:=by
 cases v with
 | dat s x o =>
  simp only[AV.lab] at h;subst h;simp[AV.drop,hne]
 | _=>simp[AV.lab] at h
theorem qbv (h:(v.spent d).lab=some (l,e)):v.lab=some (l,e)∧l≠d:=by
 cases v with
 | dat s x o =>
  cases o with
  | none=>simp[AV.spent,AV.lab] at h
  | some p =>
   obtain⟨l',e'⟩:=p;simp only[AV.spent,AV.lab] at h ⊢;split at h
   ·cases h
   ·cases h;exact⟨rfl,by assumption⟩
 | _=>simp[AV.spent,AV.lab] at h
theorem qvd (h:v.lab=some (l,e)) (hne:l≠d):v.spent d=v:=by
 cases v with
 | dat s x o =>
  simp only[AV.lab] at h;subst h;simp[AV.spent,hne]
 | _=>simp[AV.lab] at h
theorem qve {x:Den s} {l:Nat×TypeId} (h:v.drop d=.dat s x (some l)):v=.dat s x (some l)∧l.1≠d:=by
 have h1:=qaI (v:=v) (d:=d) (l:=l.1) (e:=l.2) (by rw[h];rfl);rw[qqE h1.1 h1.2] at h;exact⟨h,h1.2⟩
theorem qqF {x:Den s} {l:Nat×TypeId} (h:v.spent d=.dat s x (some l)):v=.dat s x (some l)∧l.1≠d:=by
 have h1:=qbv (v:=v) (d:=d) (l:=l.1) (e:=l.2) (by rw[h];rfl);rw[qvd h1.1 h1.2] at h;exact⟨h,h1.2⟩
theorem qaU {x:Den s} (h:v.drop d=.box s x):v=.box s x:=by
 cases v with
 | dat s x o=>simp[AV.drop] at h
 | badr s p=>simp only[AV.drop] at h;split at h <;> cases h
 | clom f ss=>simp only[AV.drop] at h;split at h <;> cases h
 | _=>exact h
theorem qbQ {x:Den s} (h:v.spent d=.box s x):v=.box s x:=by
 cases v with
 | dat s x o=>simp[AV.spent] at h
 | _=>exact h
theorem qBb {s:Nat} (h:v.drop d=.badr s p):v=.badr s p∧s≠d:=by
 cases v with
 | dat s x o=>simp[AV.drop] at h
 | badr s' p' =>
  simp only[AV.drop] at h;split at h
  ·cases h
  ·cases h;exact⟨rfl,by assumption⟩
 | clom f ss=>simp only[AV.drop] at h;split at h <;> cases h
 | _=>simp[AV.drop] at h
theorem qBc (h:v.drop d=.clom f ss):v=.clom f ss∧d ∉ ss:=by
 cases v with
 | dat s x o=>simp[AV.drop] at h
 | badr s' p'=>simp only[AV.drop] at h;split at h <;> cases h
 | clom f' ss' =>
  simp only[AV.drop] at h;split at h
  ·cases h
  ·rename_i hc;cases h;exact⟨rfl,fun hm=>hc (List.contains_iff_mem.2 hm)⟩
 | _=>simp[AV.drop] at h
theorem qvf (h:v.spent d=.clom f ss):v=.clom f ss:=by
 cases v with
 | dat s x o=>simp[AV.spent] at h
 | _=>exact h
theorem qvg {s:Nat} (h:v.spent d=.badr s p):v=.badr s p:=by
 cases v with
 | dat s x o=>simp[AV.spent] at h
 | _=>exact h
theorem qvh {x:Den s} (h:v=.box s x):v.drop d=.box s x:=by subst h;rfl
theorem qBd {x:Den s} (h:v=.box s x):v.spent d=.box s x:=by subst h;rfl
section
variable {base:Nat→Prop} {w0 w:World} {S0 S:qa} {fr:Fr} {a:Act}
theorem R.put (h:R base w0 S0 S fr a w) (hd:d < a.tmps.size) (hv:Rd w S val v)
 (hsl:∀ s (x:Den s) l,v=.dat s x (some l)→∃ e,s=.sl e)
 (hcp:∀ l e,v.lab=some (l,e)→l≠d→fr l=v∧a.tmps.getD l undef=val)
 (hown:∀ e (x:List (Den e)) te,v=.dat (.sl e) x (some (d,te))→qcb w S base te e val x)
 (hdist:∀ te,v.lab=some (d,te)→∀ l e b,l≠d→(fr l).lab=some (l,e)→(a.tmps.getD l undef).ownBlock=some b→val.ownBlock≠some b)
 (hbox:∀ s (x:Den s),v=.box s x→∃ b,BoxAt w S base b s x∧val=.pointer (some ⟨b,0,none⟩))
 (hboxd:∀ s (x:Den s),v=.box s x→∀ t s' (x':Den s') b,t≠d→fr t=.box s' x'→val=.pointer (some ⟨b,0,none⟩)→a.tmps.getD t undef≠.pointer (some ⟨b,0,none⟩))
 (hboxo1:∀ s (x:Den s),v=.box s x→∀ b l e,val=.pointer (some ⟨b,0,none⟩)→l≠d→(fr l).lab=some (l,e)→(a.tmps.getD l undef).ownBlock≠some b)
 (hboxo2:∀ te,v.lab=some (d,te)→∀ t s (x:Den s) b,t≠d→fr t=.box s x→a.tmps.getD t undef=.pointer (some ⟨b,0,none⟩)→val.ownBlock≠some b)
 (hbadr:∀ s p,v=.badr s p→s≠d∧∃ u y z b,fr s=.box u y∧a.tmps.getD s undef=.pointer (some ⟨b,0,none⟩)∧qao u y p=some z∧∃ o,qbt u p=some o∧val=.pointer (some ⟨b,o,none⟩))
 (hclm:∀ f ss,v=.clom f ss→d ∉ ss∧val=.func (.func f) #[] (ss.map fun s=>a.tmps.getD s undef).toArray:=by intro _ _ e;cases e) :
 R base w0 S0 S (fr.put d v) (a.put (some d) val) w where
 below:=h.below
 base_le:=h.base_le
 kp:=h.kp
 old:=h.old
 slt:=h.slt
 dfr:=by rw[qMZ];exact h.dfr
 rd:=fun t=>by
  rw[qL a d val t hd];unfold Fr.put;split
  ·exact hv
  ·exact(h.rd t).drop d
 sls:=fun t s x l he=>by
  unfold Fr.put at he;split at he
  ·exact hsl s x l he
  ·exact h.sls t s x l (qve he).1
 cp:=fun t l e he=>by
  rw[qL a d val t hd,qL a d val l hd];unfold Fr.put at he ⊢
  by_cases ht:t=d
  ·rw[if_pos ht] at he;rw[if_pos ht,if_pos ht]
   by_cases hl:l=d
   ·rw[if_pos hl,if_pos hl];exact⟨rfl,rfl⟩
   ·rw[if_neg hl,if_neg hl];obtain⟨e1,e2⟩:=hcp l e he hl;rw[e1,qqE he hl];exact⟨rfl,e2⟩
  ·rw[if_neg ht] at he;rw[if_neg ht,if_neg ht];obtain⟨h1,hne⟩:=qaI he;rw[if_neg hne,if_neg hne];obtain⟨e1,e2⟩:=h.cp t l e h1;exact⟨by rw[e1],e2⟩
 own:=fun t e x te he=>by
  rw[qL a d val t hd];unfold Fr.put at he
  by_cases ht:t=d
  ·rw[if_pos ht] at he ⊢;subst ht;exact hown e x te he
  ·rw[if_neg ht] at he ⊢;exact h.own t e x te (qve he).1
 dist:=fun l l' e e' b h1 h2 hne hb=>by
  rw[qL a d val l hd] at hb;rw[qL a d val l' hd];unfold Fr.put at h1 h2
  by_cases hl:l=d
  ·rw[if_pos hl] at h1 hb;have hl':l'≠d:=fun e=>hne (hl.trans e.symm);rw[if_neg hl'] at h2 ⊢;subst hl;intro hc;exact hdist e h1 l' e' b hl' (qaI h2).1 hc hb
  ·rw[if_neg hl] at h1 hb
   by_cases hl':l'=d
   ·rw[if_pos hl'] at h2 ⊢;subst hl';exact hdist e' h2 l e b hl (qaI h1).1 hb
   ·rw[if_neg hl'] at h2 ⊢;exact h.dist l l' e e' b (qaI h1).1 (qaI h2).1 hne hb
 box:=fun t s x he=>by
  rw[qL a d val t hd];unfold Fr.put at he
  by_cases ht:t=d
  ·rw[if_pos ht] at he ⊢;exact hbox s x he
  ·rw[if_neg ht] at he ⊢;exact h.box t s x (qaU he)
 boxd:=fun t t' s s' x x' b h1 h2 hne hb=>by
  rw[qL a d val t hd] at hb;rw[qL a d val t' hd];unfold Fr.put at h1 h2
  by_cases ht:t=d
  ·have ht':t'≠d:=fun e=>hne (ht.trans e.symm);rw[if_pos ht] at h1 hb;rw[if_neg ht'] at h2 ⊢;exact hboxd s x h1 t' s' x' b ht' (qaU h2) hb
  ·rw[if_neg ht] at h1 hb
   by_cases ht':t'=d
   ·rw[if_pos ht'] at h2 ⊢;intro hc;exact hboxd s' x' h2 t s x b ht (qaU h1) hc hb
   ·rw[if_neg ht'] at h2 ⊢;exact h.boxd t t' s s' x x' b (qaU h1) (qaU h2) hne hb
 boxo:=fun t s x b l e h1 hb h2=>by
  rw[qL a d val t hd] at hb;rw[qL a d val l hd];unfold Fr.put at h1 h2
  by_cases ht:t=d
  ·rw[if_pos ht] at h1 hb
   by_cases hl:l=d
   ·rw[if_pos hl] at h2;rw[h1] at h2;cases h2
   ·rw[if_neg hl] at h2 ⊢;exact hboxo1 s x h1 b l e hb hl (qaI h2).1
  ·rw[if_neg ht] at h1 hb
   by_cases hl:l=d
   ·rw[if_pos hl] at h2 ⊢;subst hl;exact hboxo2 e h2 t s x b ht (qaU h1) hb
   ·rw[if_neg hl] at h2 ⊢;exact h.boxo t s x b l e (qaU h1) hb (qaI h2).1
 badr:=fun t s p he=>by
  rw[qL a d val t hd,qL a d val s hd];unfold Fr.put at he ⊢
  by_cases ht:t=d
  ·rw[if_pos ht] at he ⊢;obtain⟨hne,u,y,z,b,h1,h2,h3,o,h4,h5⟩:=hbadr s p he;rw[if_neg hne,if_neg hne];exact⟨u,y,z,b,qvh h1,h2,h3,o,h4,h5⟩
  ·rw[if_neg ht] at he ⊢;obtain⟨he,hne⟩:=qBb he;rw[if_neg hne,if_neg hne];obtain⟨u,y,z,b,h1,h2,h3,o,h4,h5⟩:=h.badr t s p he;exact⟨u,y,z,b,qvh h1,h2,h3,o,h4,h5⟩
 clm:=fun t f ss he=>by
  have key:d ∉ ss→(ss.map fun s=>(a.put (some d) val).tmps.getD s undef)=ss.map fun s=>a.tmps.getD s undef:=fun hn =>
   List.map_congr_left fun s hs=>by rw[qL a d val s hd,if_neg (fun e:s=d=>hn (by rw[← e];exact hs))]
  rw[qL a d val t hd];unfold Fr.put at he
  by_cases ht:t=d
  ·rw[if_pos ht] at he ⊢;obtain⟨hn,h1⟩:=hclm f ss he;rw[key hn];exact h1
  ·rw[if_neg ht] at he ⊢;obtain⟨he,hn⟩:=qBc he;rw[key hn];exact h.clm t f ss he
def AV.plain:AV→Bool
 | .dat _ _ (some _)=>false
 | .box _ _=>false
 | .badr _ _=>false
 | .clom _ _=>false
 | _=>true
theorem R.put_plain (h:R base w0 S0 S fr a w) (hd:d < a.tmps.size) (hv:Rd w S val v) (hp:v.plain=true) :
 R base w0 S0 S (fr.put d v) (a.put (some d) val) w:=by
 have hl:∀ p,v.lab≠some p:=fun p e=>by
  cases v with
  | dat s x o=>cases o <;> simp_all [AV.lab,AV.plain]
  | _=>simp[AV.lab] at e
 refine h.put hd hv ?_ ?_ ?_ ?_ ?_ ?_ ?_ ?_ ?_ ?_
 ·intro s x l e;subst e;simp[AV.plain] at hp
 ·intro l e he;exact absurd he (hl _)
 ·intro e x te he;subst he;simp[AV.plain] at hp
 ·intro te he;exact absurd he (hl _)
 ·intro s x e;subst e;simp[AV.plain] at hp
 ·intro s x e;subst e;simp[AV.plain] at hp
 ·intro s x e;subst e;simp[AV.plain] at hp
 ·intro te he;exact absurd he (hl _)
 ·intro s p e;subst e;simp[AV.plain] at hp
 ·intro f ss e;subst e;simp[AV.plain] at hp
theorem R.spend (h:R base w0 S0 S fr a w) (d:Nat):R base w0 S0 S (fr.spend d) a w where
 below:=h.below
 base_le:=h.base_le
 kp:=h.kp
 old:=h.old
 slt:=h.slt
 dfr:=h.dfr
 rd:=fun t=>(h.rd t).spent d
 sls:=fun t s x l he=>h.sls t s x l (qqF he).1
 cp:=fun t l e he=>by
  obtain⟨h1,hne⟩:=qbv he;obtain⟨e1,e2⟩:=h.cp t l e h1;exact⟨by unfold Fr.spend;rw[e1],e2⟩
 own:=fun t e x te he=>h.own t e x te (qqF he).1
 dist:=fun l l' e e' b h1 h2 hne hb=>h.dist l l' e e' b (qbv h1).1 (qbv h2).1 hne hb
 box:=fun t s x he=>h.box t s x (qbQ he)
 boxd:=fun t t' s s' x x' b h1 h2 hne hb=>h.boxd t t' s s' x x' b (qbQ h1) (qbQ h2) hne hb
 boxo:=fun t s x b l e h1 hb h2=>h.boxo t s x b l e (qbQ h1) hb (qbv h2).1
 badr:=fun t s p he=>by
  obtain⟨u,y,z,b,h1,r⟩:=h.badr t s p (qvg he);exact⟨u,y,z,b,qBd h1,r⟩
 clm:=fun t f ss he=>h.clm t f ss (qvf he)
theorem qcb.step {w:World} {S:qa} {te:TypeId} {e:Sh} {v:Value} {l:List (Den e)} (h:qcb w S base te e v l)
 (hk:Keeps w S w' S') (hg:w.grownBy w' row) (hne:∀ b,v.ownBlock=some b→row≠some b) (hS:∀ b o,b < w.heap.size→row≠some b→(S' b o↔S b o)):qcb w' S' base te e v l:=by
 obtain⟨xs,h1,h2,h3,h4⟩:=h;refine⟨xs,h1.kept hg ?_,h2.mono (RdC.keeps hk e),fun b hb o=>?_,h4⟩
 ·cases hv:v.ownBlock with
  | none=>exact .inl rfl
  | some b=>exact .inr (fun hc=>hne b hv hc.symm)
 ·rw[hS b o (h1.lt b hb).2 (hne b hb)];exact h3 b hb o
theorem BoxAt.step {w:World} {S:qa} {b:Nat} {x:Den s} (h:BoxAt w S base b s x)
 (hk:Keeps w S w' S') (hg:w.grownBy w' row) (hne:row≠some b) (hS:∀ b o,b < w.heap.size→row≠some b→(S' b o↔S b o)):BoxAt w' S' base b s x:=by
 obtain⟨h1,h2,c,T,h3,h4⟩:=h;have hlt:b < w.heap.size:=(Array.getElem?_eq_some_iff.1 h3).1;refine⟨h1,fun o ho=>h2 o ((hS b o hlt hne).1 ho),c,T,?_,RdC.keeps hk s x _ h4⟩;rw[hg.block b hlt (fun e=>hne e.symm)];exact h3
theorem R.step (h:R base w0 S0 S fr a w) (hg:w.grownBy w' row) (hk:Keeps w S w' S')
 (hS:∀ b o,b < w.heap.size→row≠some b→(S' b o↔S b o)) (hlt:∀ b o,S' b o→b < w'.heap.size)
 (hrow:∀ g,row=some g→¬ base g∧(∀ l e,(fr l).lab=some (l,e)→(a.tmps.getD l undef).ownBlock≠some g) ∧
  ∀ t s (x:Den s),fr t=.box s x→a.tmps.getD t undef≠.pointer (some ⟨g,0,none⟩)):R base w0 S0 S' fr a w' where
 below:=h.below.grown hg h.base_le (fun g hg'=>(hrow g hg').1)
 base_le:=fun k hk=>yH (h.base_le k hk) hg.size
 old:=fun b o hb=>(hS b o (h.base_le b hb) (fun e=>(hrow b e).1 hb)).trans (h.old b o hb)
 kp:=h.kp.trans hk
 slt:=hlt
 dfr:=h.dfr
 rd:=fun t=>(h.rd t).keeps hk
 sls:=h.sls
 cp:=h.cp
 own:=fun t e x te he=>(h.own t e x te he).step hk hg (fun b hb hr=>(hrow b hr).2.1 t te (by rw[he];rfl) hb) hS
 dist:=h.dist
 box:=fun t s x he=>by
  obtain⟨b,h1,h2⟩:=h.box t s x he;exact⟨b,h1.step hk hg (fun hr=>(hrow b hr).2.2 t s x he h2) hS,h2⟩
 boxd:=h.boxd
 boxo:=h.boxo
 badr:=h.badr
 clm:=h.clm
end
end
section
open Go.RowKit
variable {k yk:IntKind} {o:Lab} {v x:AV} {b:Int} {a:UInt8} {vx:Value}
theorem qRD (a b:UInt8):IntKind.u8.wrap ((a.toNat:Int)+b.toNat)=((a+b).toNat:Int):=by
 rw[IntKind.wrap_u8,UInt8.toNat_add];omega
theorem qRE (a b:UInt8):IntKind.u8.wrap ((a.toNat:Int) - b.toNat)=((a - b).toNat:Int):=by
 rw[IntKind.wrap_u8,UInt8.toNat_sub];have:=a.toNat_lt;have:=b.toNat_lt;omega
theorem qRF (a b:UInt8):IntKind.u8.wrap ((a.toNat:Int)*b.toNat)=((a*b).toNat:Int):=by
 rw[IntKind.wrap_u8,UInt8.toNat_mul,← Int.natCast_mul];omega
theorem qRG (a b:UInt8):IntKind.u8.wrap ((a.toNat:Int).tdiv b.toNat)=((a / b).toNat:Int):=by
 rw[IntKind.wrap_u8,UInt8.toNat_div];have h1:(a.toNat:Int).tdiv b.toNat=((a.toNat / b.toNat:Nat):Int):=by rw[Int.ofNat_tdiv]
 rw[h1];have h2:a.toNat / b.toNat≤a.toNat:=Nat.div_le_self _ _;have h3:=a.toNat_lt;generalize a.toNat / b.toNat=q at *
 omega
theorem qRH (a b:UInt8):(a.toNat:Int).tmod b.toNat=((a % b).toNat:Int):=by
 rw[UInt8.toNat_mod,Int.ofNat_tmod]
theorem qvo (a:UInt8):(BitVec.ofInt 8 (a.toNat:Int))=a.toBitVec:=by
 rw[BitVec.ofInt_natCast];apply BitVec.eq_of_toNat_eq;simp
theorem qqH (a b:UInt8) (op:BinOp) (r:UInt8)
 (h:(match op with | .and=>a.toBitVec &&& b.toBitVec | .or=>a.toBitVec ||| b.toBitVec | .xor=>a.toBitVec ^^^ b.toBitVec | .andNot=>a.toBitVec &&& ~~~b.toBitVec | _=>0)=r.toBitVec)
 (hop:op=.and∨op=.or∨op=.xor∨op=.andNot) :
 bits op .u8 (a.toNat:Int) b.toNat=(r.toNat:Int):=by
 have hr:(r.toBitVec.toNat:Int)=(r.toNat:Int):=rfl;have hw:IntKind.u8.wrap (r.toNat:Int)=(r.toNat:Int):=by rw[IntKind.wrap_u8];have:=r.toNat_lt;omega
 have key:∀ x:BitVec 8,x=r.toBitVec→IntKind.u8.wrap (x.toNat:Int)=(r.toNat:Int):=fun x hx=>by rw[hx,hr,hw]
 have ea:BitVec.ofInt IntKind.u8.bits (a.toNat:Int)=a.toBitVec:=qvo a;have eb:BitVec.ofInt IntKind.u8.bits (b.toNat:Int)=b.toBitVec:=qvo b;rcases hop with rfl | rfl | rfl | rfl;all_goals
  unfold bits;rw[ea,eb];exact key _ h
abbrev YV (P:Program) (s:Sem Value) (val:Value):Prop:=∀ w,s.run P w=.ok val w
theorem qaL {w:World} {S:qa} {n:Int} {v:Value} (h:Rd w S v (.dat (.int k) n o)):v=.int k n:=by
 cases h with
 | dat _ _ _ _ h=>simpa [RdV,Sh.agg,RdC] using h
theorem qbC {w:World} {S:qa} {n:UInt8} {v:Value} (h:Rd w S v (.dat .byte n o)):v=.int .u8 (n.toNat:Nat):=by
 cases h with
 | dat _ _ _ _ h=>simpa [RdV,Sh.agg,RdC] using h
theorem qbD {w:World} {S:qa} {b:Bool} {v:Value} (h:Rd w S v (.dat .bool b o)):v=.bool b:=by
 cases h with
 | dat _ _ _ _ h=>simpa [RdV,Sh.agg,RdC] using h
theorem qcS {w:World} {S:qa} {s:List UInt8} {v:Value} (h:Rd w S v (.dat .str s o)):∃ b:ByteArray,v=.string b∧b.data.toList=s:=by
 cases h with
 | dat _ _ _ _ h=>simpa [RdV,Sh.agg,RdC] using h
theorem qbP (w:World) (S:qa) (k:IntKind) (n:Int):Rd w S (.int k n) (.int k n):=.dat _ _ _ _ (by simp[RdV,Sh.agg,RdC])
theorem qbE (w:World) (S:qa) (n:UInt8):Rd w S (.int .u8 (n.toNat:Nat)) (.byte n):=.dat _ _ _ _ (by simp[RdV,Sh.agg,RdC])
theorem qaw (w:World) (S:qa) (b:Bool):Rd w S (.bool b) (.bool b):=.dat _ _ _ _ (by simp[RdV,Sh.agg,RdC])
theorem qtx (w:World) (S:qa) (b:ByteArray):Rd w S (.string b) (.str b.data.toList):=.dat _ _ _ _ (by simp[RdV,Sh.agg,RdC])
section
variable {P:Program} {w:World} {S:qa}
theorem qBh {op:BinOp} {b:UInt8} (t:TypeId) (hs:qio op=false) (h:qIW op a b=some (true,v)) :
 ∃ val,YV P (binOp op t (.int .u8 (a.toNat:Nat)) (.int .u8 (b.toNat:Nat))) val∧Rd w S val v∧v.plain=true:=by
 have hlt:∀ x y:UInt8,((x.toNat:Int) < y.toNat)↔x < y:=fun x y=>by rw[UInt8.lt_iff_toNat_lt];omega
 have hle:∀ x y:UInt8,((x.toNat:Int)≤y.toNat)↔x≤y:=fun x y=>by rw[UInt8.le_iff_toNat_le];omega
 have heq:∀ x y:UInt8,((x.toNat:Int)==y.toNat)=(x==y):=fun x y=>by
  rw[Bool.eq_iff_iff,beq_iff_eq,beq_iff_eq,← UInt8.toNat_inj];omega
 have hnz:(b != 0)=true→¬ ((b.toNat:Int)=0):=fun hb hc=>by
  have:b=0:=by rw[← UInt8.toNat_inj];simpa using hc
  simp[this] at hb
 cases op <;> simp only[qIW,qio,ya,yb,reduceCtorEq,true_and] at h hs
 case add=>subst h;exact⟨_,fun w=>by simp[binOp,Op.intArith,qRD],qbE _ _ _,rfl⟩
 case sub=>subst h;exact⟨_,fun w=>by simp[binOp,Op.intArith,qRE],qbE _ _ _,rfl⟩
 case mul=>subst h;exact⟨_,fun w=>by simp[binOp,Op.intArith,qRF],qbE _ _ _,rfl⟩
 case quo=>obtain⟨h0,rfl⟩:=h;exact⟨_,fun w=>by simp only[binOp,ne_eq,yJ,if_false,Op.intDiv,if_neg (hnz h0),qRG];rfl,qbE _ _ _,rfl⟩
 case rem=>obtain⟨h0,rfl⟩:=h;exact⟨_,fun w=>by simp only[binOp,ne_eq,yJ,if_false,Op.intDiv,if_neg (hnz h0),qRH];rfl,qbE _ _ _,rfl⟩
 case and=>subst h;exact⟨_,fun w=>by simp only[binOp,ne_eq,yJ,if_false,intBits_and,qqH a b .and (a &&& b) rfl (by simp)];rfl,qbE _ _ _,rfl⟩
 case or=>subst h;exact⟨_,fun w=>by simp only[binOp,ne_eq,yJ,if_false,intBits_or,qqH a b .or (a ||| b) rfl (by simp)];rfl,qbE _ _ _,rfl⟩
 case xor=>subst h;exact⟨_,fun w=>by simp only[binOp,ne_eq,yJ,if_false,intBits_xor,qqH a b .xor (a ^^^ b) rfl (by simp)];rfl,qbE _ _ _,rfl⟩
 case andNot=>subst h;exact⟨_,fun w=>by simp only[binOp,ne_eq,yJ,if_false,intBits_andNot,qqH a b .andNot (a &&& ~~~b) rfl (by simp)];rfl,qbE _ _ _,rfl⟩
 case eql=>subst h;exact⟨_,fun w=>by simp only[binOp,ne_eq,yJ,if_false,Op.intCmp,heq];rfl,qaw _ _ _,rfl⟩
 case neq=>subst h;exact⟨_,fun w=>by simp only[binOp,ne_eq,yJ,if_false,Op.intCmp,bne,heq];rfl,qaw _ _ _,rfl⟩
 case lss=>subst h;exact⟨_,fun w=>by simp only[binOp,ne_eq,yJ,if_false,Op.intCmp,hlt];rfl,qaw _ _ _,rfl⟩
 case leq=>subst h;exact⟨_,fun w=>by simp only[binOp,ne_eq,yJ,if_false,Op.intCmp,hle];rfl,qaw _ _ _,rfl⟩
 case gtr=>subst h;exact⟨_,fun w=>by simp only[binOp,ne_eq,yJ,if_false,Op.intCmp,gt_iff_lt,hlt];rfl,qaw _ _ _,rfl⟩
 case geq=>subst h;exact⟨_,fun w=>by simp only[binOp,ne_eq,yJ,if_false,Op.intCmp,ge_iff_le,hle];rfl,qaw _ _ _,rfl⟩
theorem qIu {op:BinOp} {a:Int} (t:TypeId) (h:intOp op k a b=some (true,v)) :
 ∃ val,YV P (binOp op t (.int k a) (.int k b)) val∧Rd w S val v∧v.plain=true:=by
 have hnz:(b != 0)=true→¬ (b=0):=fun hb hc=>by simp[hc] at hb
 cases op <;> simp only[intOp,ya,yb,reduceCtorEq,true_and] at h
 case add=>subst h;exact⟨_,fun w=>by simp[binOp,Op.intArith],qbP _ _ _ _,rfl⟩
 case sub=>subst h;exact⟨_,fun w=>by simp[binOp,Op.intArith],qbP _ _ _ _,rfl⟩
 case mul=>subst h;exact⟨_,fun w=>by simp[binOp,Op.intArith],qbP _ _ _ _,rfl⟩
 case quo=>obtain⟨h0,rfl⟩:=h;exact⟨_,fun w=>by simp only[binOp,ne_eq,yJ,if_false,Op.intDiv,if_neg (hnz h0)];rfl,qbP _ _ _ _,rfl⟩
 case rem=>obtain⟨h0,rfl⟩:=h;exact⟨_,fun w=>by simp only[binOp,ne_eq,yJ,if_false,Op.intDiv,if_neg (hnz h0)];rfl,qbP _ _ _ _,rfl⟩
 case and=>subst h;exact⟨_,fun w=>by simp only[binOp,ne_eq,yJ,if_false,intBits_and];rfl,qbP _ _ _ _,rfl⟩
 case or=>subst h;exact⟨_,fun w=>by simp only[binOp,ne_eq,yJ,if_false,intBits_or];rfl,qbP _ _ _ _,rfl⟩
 case xor=>subst h;exact⟨_,fun w=>by simp only[binOp,ne_eq,yJ,if_false,intBits_xor];rfl,qbP _ _ _ _,rfl⟩
 case andNot=>subst h;exact⟨_,fun w=>by simp only[binOp,ne_eq,yJ,if_false,intBits_andNot];rfl,qbP _ _ _ _,rfl⟩
 case eql=>subst h;exact⟨_,fun w=>by simp only[binOp,ne_eq,yJ,if_false,Op.intCmp];rfl,qaw _ _ _,rfl⟩
 case neq=>subst h;exact⟨_,fun w=>by simp only[binOp,ne_eq,yJ,if_false,Op.intCmp];rfl,qaw _ _ _,rfl⟩
 case lss=>subst h;exact⟨_,fun w=>by simp only[binOp,ne_eq,yJ,if_false,Op.intCmp];rfl,qaw _ _ _,rfl⟩
 case leq=>subst h;exact⟨_,fun w=>by simp only[binOp,ne_eq,yJ,if_false,Op.intCmp];rfl,qaw _ _ _,rfl⟩
 case gtr=>subst h;exact⟨_,fun w=>by simp only[binOp,ne_eq,yJ,if_false,Op.intCmp];rfl,qaw _ _ _,rfl⟩
 case geq=>subst h;exact⟨_,fun w=>by simp only[binOp,ne_eq,yJ,if_false,Op.intCmp];rfl,qaw _ _ _,rfl⟩
theorem qlU {op:BinOp} {a:Int} (t:TypeId) (h:qri op k a b=some (true,v)) :
 ∃ val,YV P (binOp op t (.int k a) (.int yk b)) val∧Rd w S val v∧v.plain=true:=by
 cases op <;> simp only[qri,ya,yb,reduceCtorEq,ym] at h
 case shl=>obtain⟨h0,rfl⟩:=h;exact⟨_,fun w=>by simp only[binOp,Op.shift,if_neg (show ¬ b < 0 by omega)];rfl,qbP _ _ _ _,rfl⟩
 case shr=>obtain⟨h0,rfl⟩:=h;exact⟨_,fun w=>by simp only[binOp,Op.shift,if_neg (show ¬ b < 0 by omega)];rfl,qbP _ _ _ _,rfl⟩
theorem qhU {op:BinOp} (t:TypeId) (h:qho op a b=some (true,v)) :
 ∃ val,YV P (binOp op t (.int .u8 (a.toNat:Nat)) (.int yk b)) val∧Rd w S val v∧v.plain=true:=by
 cases op <;> simp only[qho,ya,yb,reduceCtorEq,ym] at h
 case shl =>
  obtain⟨h0,rfl⟩:=h;refine⟨_,fun w=>?_,qbE _ _ _,rfl⟩;have e:IntKind.u8.wrap ((a.toNat:Int)*2 ^ (min b.toNat 8))=((UInt8.ofNat (a.toNat*2 ^ (min b.toNat 8))).toNat:Int):=by
   rw[IntKind.wrap_u8,UInt8.toNat_ofNat'];have:((a.toNat:Int)*2 ^ (min b.toNat 8))=((a.toNat*2 ^ (min b.toNat 8):Nat):Int):=by rw[Int.natCast_mul,Int.natCast_pow];rfl
   rw[this];omega
  simp only[binOp,Op.shift,if_neg (show ¬ b < 0 by omega),IntKind.bits,e];rfl
 case shr =>
  obtain⟨h0,rfl⟩:=h;refine⟨_,fun w=>?_,qbE _ _ _,rfl⟩;have e:(a.toNat:Int).fdiv (2 ^ (min b.toNat 8))=((UInt8.ofNat (a.toNat / 2 ^ (min b.toNat 8))).toNat:Int):=by
   rw[UInt8.toNat_ofNat'];have h1:a.toNat / 2 ^ (min b.toNat 8)≤a.toNat:=Nat.div_le_self _ _;have h2:=a.toNat_lt;have h3:((2:Int) ^ (min b.toNat 8))=((2 ^ (min b.toNat 8):Nat):Int):=by rw[Int.natCast_pow];rfl
   rw[h3,Int.fdiv_eq_ediv_of_nonneg _ (Int.natCast_nonneg _),← Int.natCast_ediv,Nat.mod_eq_of_lt (by omega)]
  simp only[binOp,Op.shift,if_neg (show ¬ b < 0 by omega),IntKind.bits,e];rfl
theorem qqI (b:ByteArray):b.toList=b.data.toList:=by
 obtain⟨⟨l⟩⟩:=b;exact ByteArray.toList_mk l
theorem qNe {tb:Bool} {op:BinOp} {y:AV} {vy:Value} (t:TypeId) (hx:Rd w S vx x) (hy:Rd w S vy y) (h:binV tb op x y=some (true,v)) (htb:tb=true→P.underlying t=some .bool) :
 ∃ val,YV P (do eqGuard op t (.const .nilFunc) (.const .nilFunc) vx vy;binOp op t vx vy) val∧(∀ (p q:Operand) w',(eqGuard op t p q vx vy).run P w'=.ok () w')∧Rd w S val v∧v.plain=true:=by
 have guard:∀ (p q:Operand) (a b:Value),(∀ c,a≠.agg c)→a≠.nilIface→∀ w',(eqGuard op t p q a b).run P w'=.ok () w':=by
  intro p q a b h1 h2 w';unfold eqGuard;cases op <;> simp <;> cases a <;> simp_all
 have close:∀ (a b:Value),(∀ c,a≠.agg c)→a≠.nilIface→(∃ val,YV P (binOp op t a b) val∧Rd w S val v∧v.plain=true) →
  ∃ val,YV P (do eqGuard op t (.const .nilFunc) (.const .nilFunc) a b;binOp op t a b) val∧(∀ (p q:Operand) w',(eqGuard op t p q a b).run P w'=.ok () w')∧Rd w S val v∧v.plain=true:=by
  intro a b h1 h2 ⟨val,e1,e2,e3⟩;refine⟨val,fun w'=>?_,fun p q w'=>guard p q a b h1 h2 w',e2,e3⟩;rw[yh,guard _ _ a b h1 h2 w'];exact e1 w'
 unfold binV at h;split at h
 ·obtain rfl:=qbC hx;obtain rfl:=qbC hy;split at h
  ·exact close _ _ (by simp) (by simp) (qhU t h)
  ·rename_i hs;exact close _ _ (by simp) (by simp) (qBh t (by revert hs;cases qio op <;> simp) h)
 ·obtain rfl:=qaL hx;obtain rfl:=qaL hy;split at h
  ·cases h
  ·split at h
   ·exact close _ _ (by simp) (by simp) (qlU t h)
   ·split at h
    ·rename_i e;subst e;exact close _ _ (by simp) (by simp) (qIu t h)
    ·cases h
 ·obtain rfl:=qbC hx;obtain rfl:=qaL hy;split at h
  ·exact close _ _ (by simp) (by simp) (qhU t h)
  ·cases h
 ·obtain rfl:=qaL hx;obtain rfl:=qbC hy;split at h
  ·cases h
  ·split at h
   ·exact close _ _ (by simp) (by simp) (qlU t h)
   ·cases h
 ·obtain rfl:=qbD hx;obtain rfl:=qbD hy;split at h
  ·cases h
  ·rename_i ht;have ht':=htb (by simpa using ht);split at h
   ·simp only[ya,yb,true_and] at h;subst h;exact close _ _ (by simp) (by simp) ⟨_,fun w'=>run_eql_bool w' t _ _ ht',qaw _ _ _,rfl⟩
   ·simp only[ya,yb,true_and] at h;subst h;exact close _ _ (by simp) (by simp) ⟨_,fun w'=>run_neq_bool w' t _ _ ht',qaw _ _ _,rfl⟩
   ·cases h
 ·obtain⟨bx,rfl,rfl⟩:=qcS hx;obtain⟨b_y,rfl,rfl⟩:=qcS hy;unfold strOp at h;split at h
  ·simp only[ya,yb,ym] at h;obtain⟨hl,rfl⟩:=h;have hr:=qtx w S (bx++b_y);rw[show (bx++b_y).data.toList=bx.data.toList++b_y.data.toList from by simp[ByteArray.data_append]] at hr;have hl':bx.size+b_y.size≤9223372036854775807:=by
    have e1:bx.size=List.length bx.data.toList:=by simp
    have e2:b_y.size=List.length b_y.data.toList:=by simp
    omega
   exact close _ _ (by simp) (by simp) ⟨_,fun w'=>by rw[binOp_string_add];exact run_string_add_sum (P:=P) (w:=w') bx b_y hl',hr,rfl⟩
  ·simp only[ya,yb,true_and] at h;subst h;exact close _ _ (by simp) (by simp) ⟨_,fun w'=>by simp only[binOp_string_eql,qqI];rfl,qaw _ _ _,rfl⟩
  ·simp only[ya,yb,true_and] at h;subst h;exact close _ _ (by simp) (by simp) ⟨_,fun w'=>by simp only[binOp_string_neq,qqI];rfl,qaw _ _ _,rfl⟩
  ·cases h
 ·cases h
theorem qRI {op:UnOp} (hx:Rd w S vx x) (h:unV op x=some v) :
 ∃ val,YV P (Op.unary op vx) val∧Rd w S val v∧v.plain=true:=by
 unfold unV at h;split at h
 ·obtain rfl:=qbD hx;simp only[ya] at h;subst h;exact⟨_,fun w'=>rfl,qaw _ _ _,rfl⟩
 ·obtain rfl:=qaL hx;split at h
  ·cases h
  ·simp only[ya] at h;subst h;exact⟨_,fun w'=>rfl,qbP _ _ _ _,rfl⟩
 ·cases h
end
end
section
open Go.RowKit
def zeroN (f:List Value→Option (List Value)):Nat→List Value→Option (List Value)
 | 0,vs=>some vs
 | n+1,vs=>match f vs with
  | some r=>zeroN f n r
  | none=>none
def zeroC:(s:Sh)→List Value→Option (List Value)
 | .bool,vs=>match vs with
  | .bool false :: r=>some r
  | _=>none
 | .byte,vs=>match vs with
  | .int .u8 n :: r=>if n=0 then some r else none
  | _=>none
 | .int k,vs=>match vs with
  | .int k' n :: r=>if k'=k∧n=0 then some r else none
  | _=>none
 | .str,vs=>match vs with
  | .string b :: r=>if b.data.toList=[] then some r else none
  | _=>none
 | .sl _,vs=>match vs with
  | .slice none 0 0 :: r=>some r
  | _=>none
 | .unit,vs=>some vs
 | .pair a b,vs=>match zeroC a vs with
  | some r=>zeroC b r
  | none=>none
 | .arr n e,vs=>zeroN (zeroC e) n vs
def zeroV (s:Sh) (z:Value):Bool :=
 match s.agg,z with
 | true,.agg cs=>(match zeroC s cs.toList with | some []=>true | _=>false)
 | true,_=>false
 | false,z=>(match zeroC s [z] with | some []=>true | _=>false)
structure TyOk1 (P:Program) (E:Env) (t:TypeId) (s:Sh):Prop where
 info:∃ i z,P.info? t=some i∧i.size=s.size∧i.bytes=(E.ti t).bytes∧i.zero=some z∧∀ w S,RdV w S s (dflt s) z
 desc:match s with
  | .bool=>P.underlying t=some .bool
  | .byte=>P.underlying t=some (.int .u8)
  | .int k=>P.underlying t=some (.int k)∧k≠.u8
  | .str=>P.underlying t=some .string
  | .sl e=>∃ te,P.underlying t=some (.slice te)∧(E.ti te).sh=some e∧0 < e.size∧te=(E.ti t).el
  | .arr n e=>∃ te,P.underlying t=some (.array n te)∧(E.ti te).sh=some e
  | s=>∃ fs,P.underlying t=some (.struct fs)∧(∀ (i:Nat) (f:Field),fs[i]? = some f→f.offset=qP s i∧(E.ti f.type).sh=s.fld i∧(s.fld i).isSome=true)∧∀ i u,s.fld i=some u→∃ f:Field,fs[i]? = some f
 zero:∀ i z,P.info? t=some i→i.zero=some z→zeroV s z=true
 arrEl:∀ n e m te,s=.arr n e→P.underlying t=some (.array m te)→te=(E.ti t).el
def TyOk (P:Program) (E:Env):Prop:=∀ t s,(E.ti t).sh=some s→TyOk1 P E t s
structure Cpy (fr:Fr) (a:Act) (v:AV) (val:Value):Prop where
 sl:∀ s (x:Den s) l,v=.dat s x (some l)→∃ e,s=.sl e
 cp:∀ l e,v.lab=some (l,e)→fr l=v∧a.tmps.getD l undef=val
 bd:∀ s p,v=.badr s p→∃ u y z b,fr s=.box u y∧a.tmps.getD s undef=.pointer (some ⟨b,0,none⟩)∧qao u y p=some z∧∃ o,qbt u p=some o∧val=.pointer (some ⟨b,o,none⟩)
 nb:∀ s (x:Den s),v≠.box s x
 cl:∀ f ss,v=.clom f ss→val=.func (.func f) #[] (ss.map fun s=>a.tmps.getD s undef).toArray:=by intro _ _ e;cases e
theorem Cpy.of_plain {fr:Fr} {a:Act} {v:AV} {val:Value} (h:v.plain=true):Cpy fr a v val where
 sl:=fun s x l e=>by subst e;simp[AV.plain] at h
 cp:=fun l e he=>by
  cases v with
  | dat s x o=>cases o <;> simp_all [AV.lab,AV.plain]
  | _=>simp[AV.lab] at he
 bd:=fun s p e=>by subst e;simp[AV.plain] at h
 nb:=fun s x e=>by subst e;simp[AV.plain] at h
 cl:=fun f ss e=>by subst e;simp[AV.plain] at h
theorem qNA {w:World} {S:qa} {v:Value} {g:Bool} {av:AV} (h:Rd w S v (.cnd g av)) (hg:g=true):Rd w S v av:=by
 cases h with
 | cnd _ _ _ _ h=>exact h hg
theorem qfV (v:AV):v.strip.plain=true:=by cases v <;> rfl
section
variable {base:Nat→Prop} {w0 w:World} {S0 S:qa} {fr:Fr} {a:Act} {P:Program} {E:Env}
theorem R.cpy (h:R base w0 S0 S fr a w) (t:Nat) (hb:∀ s (x:Den s),fr t≠.box s x):Cpy fr a (fr t) (a.tmps.getD t undef) where
 sl:=fun s x l e=>h.sls t s x l e
 cp:=fun l e he=>h.cp t l e he
 bd:=fun s p e=>h.badr t s p e
 nb:=hb
 cl:=fun f ss e=>h.clm t f ss e
theorem qeX (n:Int) (hn:0≤n∧n < 256):(.int .u8 n:Value)=.int .u8 ((UInt8.ofNat n.toNat).toNat:Nat):=by
 congr 1;rw[UInt8.toNat_ofNat',Nat.mod_eq_of_lt (by omega)];omega
theorem qkT:∀ (s:Sh) (vs:List Value) (x:Den s) (r:List Value),qhb s vs=some (x,r)→∃ us,vs=us++r∧∀ w S,RdC w S s x us
 | .bool,vs,x,r,h=>by
  simp only[qhb] at h;split at h
  ·simp only[ya,yb] at h;obtain⟨rfl,rfl⟩:=h;exact⟨[_],rfl,fun w S=>by simp[RdC]⟩
  ·cases h
 | .byte,vs,x,r,h=>by
  simp only[qhb] at h;split at h
  ·split at h
   ·rename_i hn;simp only[ya,yb] at h;obtain⟨rfl,rfl⟩:=h;exact⟨[_],rfl,fun w S=>by simp only[RdC];rw[qeX _ hn]⟩
   ·cases h
  ·cases h
 | .int k,vs,x,r,h=>by
  simp only[qhb] at h;split at h
  ·split at h
   ·rename_i hk;subst hk;simp only[ya,yb] at h;obtain⟨rfl,rfl⟩:=h;exact⟨[_],rfl,fun w S=>by simp[RdC]⟩
   ·cases h
  ·cases h
 | .str,vs,x,r,h=>by
  simp only[qhb] at h;split at h
  ·simp only[ya,yb] at h;obtain⟨rfl,rfl⟩:=h;exact⟨[_],rfl,fun w S=>by simp[RdC]⟩
  ·cases h
 | .sl e,vs,x,r,h=>by
  simp only[qhb] at h;split at h
  ·simp only[ya,yb] at h;obtain⟨rfl,rfl⟩:=h;exact⟨[_],rfl,fun w S=>by simp only[RdC];exact⟨none,0,[],by simp,by simp,rfl,fun h=>absurd rfl h⟩⟩
  ·cases h
 | .unit,vs,x,r,h=>by
  simp only[qhb,ya,yb] at h;obtain⟨_,rfl⟩:=h;exact⟨[],rfl,fun w S=>by simp[RdC]⟩
 | .pair a b,vs,x,r,h=>by
  simp only[qhb] at h;split at h
  ·rename_i x1 r1 h1;split at h
   ·rename_i y r2 h2;simp only[ya,yb] at h;obtain⟨rfl,rfl⟩:=h;obtain⟨us,e1,k1⟩:=qkT a _ _ _ h1;obtain⟨us2,e2,k2⟩:=qkT b _ _ _ h2;exact⟨us++us2,by rw[e1,e2,yl],fun w S=>by simp only[RdC];exact⟨us,us2,rfl,k1 w S,k2 w S⟩⟩
   ·cases h
  ·cases h
 | .arr _ _,vs,x,r,h=>by simp[qhb] at h
theorem qmq (v:Value) (t:TypeId):Rd w S v (qrh E t v)∧(qrh E t v).plain=true:=by
 unfold qrh;split
 ·exact⟨qaw _ _ _,rfl⟩
 ·rename_i n;split
  ·rename_i hn;refine⟨?_,rfl⟩;rw[qeX n hn];exact qbE _ _ _
  ·exact⟨.bad _,rfl⟩
 ·exact⟨qbP _ _ _ _,rfl⟩
 ·exact⟨qtx _ _ _,rfl⟩
 ·split
  ·rename_i e he;refine⟨.dat _ _ _ _ ?_,rfl⟩;simp only[RdV,Sh.agg,RdC];exact⟨none,0,[],by simp,by simp,rfl,fun h=>absurd rfl h⟩
  ·exact⟨.bad _,rfl⟩
 ·split
  ·split
   ·split
    ·rename_i hs x hx;obtain⟨us,e,hr⟩:=qkT _ _ _ _ hx;refine⟨.dat _ _ _ _ ?_,rfl⟩;unfold RdV;rw[if_pos (by assumption)];refine⟨_,rfl,?_⟩;rw[e,yG];exact hr _ _
    ·exact⟨.bad _,rfl⟩
   ·exact⟨.bad _,rfl⟩
  ·exact⟨.bad _,rfl⟩
 ·exact⟨.nilIface,rfl⟩
 ·exact⟨.bad _,rfl⟩
theorem qt (h:R base w0 S0 S fr a w) {t:TypeId} {x:Operand} {v:AV} (he:rdo E fr true t x=(true,v)) :
 Rd w S (a.eval x) v∧Cpy fr a v (a.eval x):=by
 cases x with
 | tmp x =>
  simp only[rdo] at he;have hr:=h.rd x;split at he
  ·rename_i g v' hf;simp only[Bool.not_true,Bool.false_or,yb] at he;obtain⟨rfl,rfl⟩:=he;rw[hf] at hr;exact⟨(qNA hr rfl).strip,Cpy.of_plain (qfV _)⟩
  ·rename_i s y hf;simp only[yb,true_and] at he;subst he;obtain⟨b,hb,e⟩:=h.box x s y hf;refine⟨.badr _ _ _,⟨fun _ _ _ e=>(by cases e),fun _ _ e=>(by simp[AV.lab] at e),fun s' p e'=>?_,fun _ _ e=>(by cases e),fun _ _ e=>(by cases e)⟩⟩;cases e';exact⟨s,y,_,b,hf,e,rfl,0,rfl,e⟩
  ·rename_i hnc hnb;simp only[yb,true_and] at he;subst he;exact⟨hr,h.cpy x (fun s y e=>hnb s y e)⟩
 | const v' =>
  simp only[rdo,yb,true_and] at he;subst he;exact⟨(qmq v' t).1,Cpy.of_plain (qmq (w:=w) (S:=S) v' t).2⟩
 | func f =>
  simp only[rdo,yb,true_and] at he;subst he;exact⟨.fn f #[] [] rfl (fun i c hc=>by simp at hc),Cpy.of_plain rfl⟩
 | global g =>
  simp only[rdo,yb,true_and] at he;subst he;exact⟨.bad _,Cpy.of_plain rfl⟩
end
end
variable {base:Nat→Prop} {w0 w:World} {S0 S:qa} {fr:Fr} {a:Act} {P:Program} {E:Env}
section
open Go.RowKit
variable {val v:Value} {w w':World} {t:TypeId} {s e:Sh} {S:qa} {cs:List Value} {ad:Addr} {o:Lab}
structure Like (bx:Bool) (w:World) (S:qa) (fr:Fr) (a:Act) (w':World):Prop where
 keeps:Keeps w S w' S
 box:bx=true→∀ t s (x:Den s) b,fr t=.box s x→a.tmps.getD t undef=.pointer (some ⟨b,0,none⟩)→w'.heap[b]? = w.heap[b]?
theorem Like.refl (bx:Bool) (w:World) (S:qa) (fr:Fr) (a:Act):Like bx w S fr a w:=⟨Keeps.refl w S,fun _ _ _ _ _ _ _=>rfl⟩
section
variable {P:Program} {E:Env}
theorem run_v {s:Sem Value} (h:s.run P w=.ok val w'):(do pure (Next.value (← s)):Sem Next).run P w=.ok (.value val) w':=by
 rw[yh,h];rfl
theorem TyOk1.isAgg (h:TyOk1 P E t s) (w:World):(Go.isAgg t).run P w=.ok s.agg w:=by
 have hd:=h.desc;unfold Go.isAgg;cases s with
 | bool=>simp only at hd;simp[yr hd,Sh.agg]
 | byte=>simp only at hd;simp[yr hd,Sh.agg]
 | int k=>simp only at hd;simp[yr hd.1,Sh.agg]
 | str=>simp only at hd;simp[yr hd,Sh.agg]
 | sl e=>obtain⟨te,hd,_⟩:=hd;simp[yr hd,Sh.agg]
 | unit=>obtain⟨fs,hd,_⟩:=hd;simp[yr hd,Sh.agg]
 | pair a b=>obtain⟨fs,hd,_⟩:=hd;simp[yr hd,Sh.agg]
 | arr n e=>obtain⟨te,hd,_⟩:=hd;simp[yr hd,Sh.agg]
theorem TyOk1.sizeOf (h:TyOk1 P E t s) (w:World):(Go.sizeOf t).run P w=.ok s.size w:=by
 obtain⟨i,z,hi,hs,_⟩:=h.info;simp[Go.sizeOf,typeInfo,hi,hs]
theorem TyOk1.under (h:TyOk1 P E t s):∃ d,P.underlying t=some d:=by
 have hd:=h.desc;cases s with
 | bool=>exact⟨_,hd⟩
 | byte=>exact⟨_,hd⟩
 | int k=>exact⟨_,hd.1⟩
 | str=>exact⟨_,hd⟩
 | sl e=>obtain⟨te,hd,_⟩:=hd;exact⟨_,hd⟩
 | unit=>obtain⟨fs,hd,_⟩:=hd;exact⟨_,hd⟩
 | pair a b=>obtain⟨fs,hd,_⟩:=hd;exact⟨_,hd⟩
 | arr n e=>obtain⟨te,hd,_⟩:=hd;exact⟨_,hd⟩
theorem qeY (ad:Addr) (i:Nat):(ad.add i).block=ad.block:=by unfold Addr.add;split <;> rfl
theorem qwf (ad:Addr) (i:Nat):(ad.add i).off=ad.off+i:=by
 unfold Addr.add;split
 ·rename_i h;simp[h]
 ·rfl
theorem qkU (ad:Addr) (i:Nat) (h:ad.spot=none):(ad.add i).spot=none:=by unfold Addr.add;split <;> simp[h]
theorem qdm (ad:Addr) (i:Nat) (h:ad.spot=none):ad.add i=⟨ad.block,ad.off+i,none⟩:=by
 obtain⟨b,o,s⟩:=ad;simp only at h;subst h;unfold Addr.add;split
 ·rename_i h;simp[h]
 ·rfl
def valOf (s:Sh) (cs:List Value):Value:=if s.agg then .agg cs.toArray else cs.headD undef
theorem qG (ht:TyOk1 P E t s) {x:Den s} (hc:RdC w S s x cs) 
 (hs:ad.spot=none) (hm:∀ (i:Nat) (v:Value),cs[i]? = some v→w'.cell? ⟨ad.block,ad.off+i,none⟩=some v) :
 (loadVar t ad).run P w'=.ok (valOf s cs) w'∧RdV w S s x (valOf s cs):=by
 have hl:=RdC.length s x cs hc;unfold loadVar;rw[yh,ht.isAgg]
 by_cases ha:s.agg=true
 ·rw[show valOf s cs=.agg cs.toArray by simp[valOf,ha]];refine⟨?_,?_⟩
  ·simp only[ye,ha,if_true,yh,ht.sizeOf];rw[← hl];rw[run_loadCells_list w' ad cs (fun j v hj=>by rw[qdm ad j hs];exact hm j v hj)];rfl
  ·unfold RdV;rw[if_pos ha];exact⟨_,rfl,hc⟩
 ·have hone:s.size=1:=by cases s <;> simp_all [Sh.agg,Sh.size]
  match cs,hl.trans hone with
  | [v],_ =>
   rw[show valOf s [v]=v by simp[valOf,ha]];refine⟨?_,?_⟩
   ·simp only[ye,ha];have h0:=hm 0 v rfl;have he:(⟨ad.block,ad.off+0,none⟩:Addr)=ad:=by
     obtain⟨b,o,sp⟩:=ad;simp only at hs;subst hs;rfl
    rw[he] at h0;simp[h0]
   ·unfold RdV;rw[if_neg ha];exact hc
theorem qhp {w:World} {S:qa}:∀ (s:Sh) (x:Den s) (i:Nat) (cs:List Value) (u:Sh) (y:Den u),RdC w S s x cs→qT s x i=some ⟨u,y⟩ →
 s.fld i=some u∧RdC w S u y ((cs.drop (qP s i)).take u.size)∧qP s i+u.size≤s.size
 | .pair a b,x,0,cs,u,y,h,hg=>by
  simp only[qT,ya,yD] at hg;obtain⟨rfl,hg⟩:=hg;obtain rfl:=eq_of_heq hg;simp only[RdC] at h;obtain⟨v1,v2,rfl,h1,h2⟩:=h;refine⟨rfl,?_,by simp[qP,Sh.size]⟩;have hl:=RdC.length a _ _ h1;simp only[qP,yw];rw[List.take_left' hl];exact h1
 | .pair a b,x,i+1,cs,u,y,h,hg=>by
  simp only[qT] at hg;simp only[RdC] at h;obtain⟨v1,v2,rfl,h1,h2⟩:=h;obtain⟨k1,k2,k3⟩:=qhp b x.2 i v2 u y h2 hg;have hl:=RdC.length a _ _ h1;refine⟨by simpa only[Sh.fld] using k1,?_,by simp only[qP,Sh.size];omega⟩;simp only[qP];rw[← hl,← List.drop_drop,List.drop_left];exact k2
 | .bool,_,_,_,_,_,_,hg=>by simp[qT] at hg
 | .byte,_,_,_,_,_,_,hg=>by simp[qT] at hg
 | .int _,_,_,_,_,_,_,hg=>by simp[qT] at hg
 | .str,_,_,_,_,_,_,hg=>by simp[qT] at hg
 | .sl _,_,_,_,_,_,_,hg=>by simp[qT] at hg
 | .unit,_,_,_,_,_,_,hg=>by simp[qT] at hg
 | .arr _ _,_,_,_,_,_,_,hg=>by simp[qT] at hg
theorem qmr (s:Sh) (x:Den s) (i:Nat) (cs:List Value) (u:Sh) (y:Den u) (v:Sh) (h:RdC w S s x cs) (hg:qbS s x i=some ⟨u,y⟩) (hs:s.step i=some v) :
 v=u∧RdC w S u y ((cs.drop (qO s i)).take u.size)∧qO s i+u.size≤s.size:=by
 cases s with
 | arr n e =>
  simp only[qbS,ya,yD] at hg;obtain⟨rfl,hg⟩:=hg;obtain rfl:=eq_of_heq hg;simp only[Sh.step] at hs;split at hs
  ·rename_i hi;simp only[RdC] at h;have hlt:i < List.length x:=by rw[h.1];exact hi
   refine⟨(yp hs).symm,?_,?_⟩
   ·rw[show List.getD x i (dflt e)=x[i] by simp[List.getD,yO hlt]];exact qd.at (RdC.length e) i h.2 hlt
   ·simp only[qO,Sh.size];have:=yC e.size (show i+1≤n from hi);rw[Nat.add_mul,Nat.one_mul] at this;exact this
  ·cases hs
 | pair a b =>
  obtain⟨k1,k2,k3⟩:=qhp (.pair a b) x i cs u y h hg;exact⟨yp (hs.symm.trans k1),k2,k3⟩
 | _=>simp[qbS] at hg
theorem qms {w:World} {S:qa}:∀ (p:List Nat) (s:Sh) (x:Den s) (cs:List Value) (u:Sh) (y:Den u) (o:Nat),RdC w S s x cs→qao s x p=some ⟨u,y⟩→qbt s p=some o →
 RdC w S u y ((cs.drop o).take u.size)∧o+u.size≤s.size
 | [],s,x,cs,u,y,o,h,hg,ho=>by
  simp only[qao,ya,yD] at hg;obtain⟨rfl,hg⟩:=hg;obtain rfl:=eq_of_heq hg;simp only[qbt,ya] at ho;subst ho;refine⟨?_,by omega⟩;rw[yw,← RdC.length s _ _ h,List.take_length];exact h
 | i :: p,s,x,cs,u,y,o,h,hg,ho=>by
  simp only[qao] at hg;split at hg
  ·rename_i t z hz;simp only[qbt] at ho;split at ho
   ·rename_i t' ht';split at ho
    ·rename_i o' ho';simp only[ya] at ho;subst ho;obtain⟨rfl,k2,k3⟩:=qmr s x i cs t z t' h hz ht';obtain⟨j2,j3⟩:=qms p _ z _ u y o' k2 hg ho';refine⟨?_,by omega⟩;rw[List.drop_take,List.take_take,List.drop_drop] at j2;rw[Nat.min_eq_left (by omega)] at j2;exact j2
    ·cases ho
   ·cases ho
  ·cases hg
theorem MemAt.sub (h:MemAt w S ad cs) (o n:Nat):MemAt w S (ad.add o) ((cs.drop o).take n):=by
 refine⟨qkU ad o h.1,fun i v hv=>?_⟩;rw[qeY,qwf];rw[List.getElem?_take] at hv;split at hv
 ·rw[List.getElem?_drop] at hv;have:=h.2 _ _ hv;rw[yS];exact this
 ·cases hv
theorem qdn {v:AV} {n:Int} (h:Rd w S val v) (hi:idxV v=some n):∃ k,val=.int k n:=by
 unfold idxV at hi;split at hi
 ·simp only[ya] at hi;subst hi;exact⟨_,qaL h⟩
 ·simp only[ya] at hi;subst hi;exact⟨_,qbC h⟩
 ·cases hi
theorem rd_sl {l:List (Den e)} (h:Rd w S v (.dat (.sl e) l o)) :
 ∃ A cap cs,v=.slice A l.length cap∧l.length≤cap∧qd (RdC w S e) l cs∧(cs≠[]→∃ ad,A=some ad∧MemAt w S ad cs):=by
 cases h with
 | dat _ _ _ _ h =>
  simp only[RdV,Sh.agg,RdC] at h;obtain⟨A,cap,cs,h1,h2⟩:=h;simp only[List.cons.injEq,and_true] at h1;exact⟨A,cap,cs,h1,h2⟩
theorem qtP {x:Den s} (h:Rd w S v (.adr s x)) :
 ∃ ad cs,v=.pointer (some ad)∧RdC w S s x cs∧ad.spot=none∧(cs≠[]→MemAt w S ad cs):=by
 cases h with
 | adr _ _ ad cs h hm=>exact⟨ad,cs,rfl,h,hm.1,hm.2⟩
theorem qNB {x:Den s} (h:Rd w S v (.dat s x o)) (ha:s.agg=true):∃ cs,v=.agg cs∧RdC w S s x cs.toList:=by
 cases h with
 | dat _ _ _ _ h=>unfold RdV at h;rw[if_pos ha] at h;exact h
theorem qcc {l:List (Den e)} {A:Option Addr} {n cap:Nat} (o:Lab) (hn:n=l.length) (h1:l.length≤cap) (h2:qd (RdC w S e) l cs)
 (h3:cs≠[]→∃ ad,A=some ad∧MemAt w S ad cs):Rd w S (.slice A n cap) (.dat (.sl e) l o):=by
 subst hn;refine .dat _ _ _ _ ?_;simp only[RdV,Sh.agg,RdC];exact⟨A,cap,cs,rfl,h1,h2,h3⟩
theorem qoA (ht:TyOk1 P E t s) {x:Den s} {cs:Array Value} {o:Nat} (h:RdC w S s x ((cs.toList.drop o).take s.size)) (ho:o+s.size≤cs.size) (w':World) :
 ∃ val,(part t cs o).run P w'=.ok val w'∧RdV w S s x val:=by
 unfold part;rw[yh,ht.isAgg]
 by_cases ha:s.agg=true
 ·refine⟨.agg (cs.extract o (o+s.size)),?_,?_⟩
  ·simp only[ye,ha,if_true,yh,ht.sizeOf];rfl
  ·unfold RdV;rw[if_pos ha];refine⟨_,rfl,?_⟩;rw[Array.toList_extract,List.extract_eq_take_drop];simpa using h
 ·have hone:s.size=1:=by cases s <;> simp_all [Sh.agg,Sh.size]
  rw[hone] at h ho;have hlt:o < cs.toList.length:=by simp;omega
  refine⟨cs.toList[o],?_,?_⟩
  ·simp only[ye,ha];have:cs[o]? = some cs.toList[o]:=by simp[show o < cs.size by omega]
   simp[this]
  ·unfold RdV;rw[if_neg ha];rw[List.drop_eq_getElem_cons hlt] at h;simpa using h
end
end
section
open Go.RowKit
variable {v vx vi vh vm:AV} {t tx:TypeId} {x y i m:Operand} {s e u:Sh} {o:Lab} {n l r q:Int} {b f len cap:Nat} {p:List Nat} {vs:List AV}
section
variable {bx:Bool} {base:Nat→Prop} {w0 w:World} {S0 S:qa} {fr:Fr} {a:Act} {P:Program} {E:Env}
def Yld (bx:Bool) (P:Program) (w:World) (S:qa) (fr:Fr) (a:Act) (s:Sem Value) (v:AV):Prop :=
 ∃ val,(∀ w',Like bx w S fr a w'→s.run P w'=.ok val w')∧Rd w S val v∧Cpy fr a v val
theorem Yld.plain {s:Sem Value} {val:Value} (h:∀ w',Like bx w S fr a w'→s.run P w'=.ok val w') (hr:Rd w S val v) (hp:v.plain=true):Yld bx P w S fr a s v :=
 ⟨val,h,hr,Cpy.of_plain hp⟩
theorem qBH (h:R base w0 S0 S fr a w) (hT:TyOk P E) {op:BinOp} {yt:TypeId} {vy:AV}
 (hx:rdo E fr true t x=(true,vx)) (hy:rdo E fr true yt y=(true,vy)) (hb:binV (decide ((E.ti t).sh=some .bool)) op vx vy=some (true,v)) :
 Yld bx P w S fr a (do eqGuard op t x y (a.eval x) (a.eval y);binOp op t (a.eval x) (a.eval y)) v:=by
 obtain⟨val,h1,h2,h3,h4⟩:=qNe (P:=P) t (qt h hx).1 (qt h hy).1 hb (fun e=>by
  have e':=of_decide_eq_true e;exact(hT t _ e').desc)
 refine Yld.plain (val:=val) (fun w' _=>?_) h3 h4;have h1':=h1 w';rw[yh,h2 _ _ w'] at h1';rw[yh,h2 _ _ w'];exact h1'
theorem qIY (h:R base w0 S0 S fr a w) {op:UnOp} 
 (hx:rdo E fr true t x=(true,vx)) (hb:unV op vx=some v):Yld bx P w S fr a (Op.unary op (a.eval x)) v:=by
 obtain⟨val,h1,h2,h3⟩:=qRI (P:=P) (qt h hx).1 hb;exact Yld.plain (fun w' _=>h1 w') h2 h3
theorem qmt (h:R base w0 S0 S fr a w) {s:List UInt8} (hs:(E.ti t).sh=some .str) (hT:TyOk P E)
 (hx:rdo E fr true t x=(true,.dat .str s o)) (hi:rdo E fr true 0 i=(true,vi)) (hn:idxV vi=some n) (h0:0≤n) (h1:n < s.length) :
 Yld bx P w S fr a (Instr.index t (a.eval x) (a.eval i)) (.byte (s.getD n.toNat 0)):=by
 obtain⟨b,e,hb⟩:=qcS (qt h hx).1;obtain⟨k,e2⟩:=qdn (qt h hi).1 hn;have hd:=(hT t _ hs).desc;have hlt:n.toNat < b.data.toList.length:=by rw[hb];omega
 refine Yld.plain (val:=.int .u8 ((b.data.toList[n.toNat]).toNat:Nat)) (fun w' _=>?_) ?_ rfl
 ·unfold Instr.index;rw[e,e2];simp only[asIntOf,yh,yu,ye,yr hd,if_pos h0];have:b[n.toNat]? = some b.data.toList[n.toNat]:=by
   have hlt':n.toNat < b.size:=by simpa using hlt
   rw[getElem?_pos b n.toNat hlt'];rfl
  rw[this];rfl
 ·have:s.getD n.toNat 0=b.data.toList[n.toNat]:=by subst hb;simp[List.getD,yO hlt]
  rw[this];exact qbE _ _ _
theorem qiq (h:R base w0 S0 S fr a w) (hT:TyOk P E) {l:List (Den e)} (hs:(E.ti t).sh=some (.sl e))
 (hx:rdo E fr true t x=(true,.dat (.sl e) l o)) (hi:rdo E fr true 0 i=(true,vi)) (hn:idxV vi=some n) (h0:0≤n) (h1:n < l.length) :
 Yld bx P w S fr a (Instr.indexAt t (a.eval x) (a.eval i)) (.adr e (l.getD n.toNat (dflt e))):=by
 obtain⟨A,cap,cs,ev,hcap,hch,hm⟩:=rd_sl (qt h hx).1;obtain⟨k,e2⟩:=qdn (qt h hi).1 hn;obtain⟨te,hd,hte,hpos,_⟩:=(hT t _ hs).desc;have hlt:n.toNat < l.length:=by omega
 have hlen:=qd.length (RdC.length e) hch;have hne:cs≠[]:=by
  intro hc;rw[hc] at hlen;have:0 < l.length*e.size:=Nat.mul_pos (by omega) hpos;simp at hlen;omega
 obtain⟨ad,rfl,hmem⟩:=hm hne;refine Yld.plain (val:=.pointer (some (ad.add (n.toNat*e.size)))) (fun w' _=>?_) ?_ rfl
 ·unfold Instr.indexAt;rw[ev,e2];have hlen':(n:Int) < (l.length:Int):=h1;simp only[asIntOf,yh,yu,ye,yr hd];rw[if_pos ⟨h0,hlen'⟩];simp only[yh,(hT te _ hte).sizeOf,ye,yu]
 ·rw[show l.getD n.toNat (dflt e)=l[n.toNat] by simp[List.getD,yO hlt]];exact .adr _ _ _ _ (qd.at (RdC.length e) n.toNat hch hlt) ⟨qkU _ _ hmem.1,fun _=>hmem.sub _ _⟩
theorem qoB (h:R base w0 S0 S fr a w) (hT:TyOk P E) {y:Den s} (hs:(E.ti t).sh=some s)
 (hx:rdo E fr true 0 x=(true,.adr s y)):Yld bx P w S fr a (Instr.loadAt t (a.eval x)) (.dat s y none):=by
 obtain⟨ad,cs,ev,hc,hsp,hm⟩:=qtP (qt h hx).1;have hall:∀ w',Like bx w S fr a w'→∀ (i:Nat) (v:Value),cs[i]? = some v→w'.cell? ⟨ad.block,ad.off+i,none⟩=some v:=fun w' hl i v hv=>by
  have h1:=(hm (by rintro rfl;simp at hv)).2 i v hv;rw[(hl.keeps _ _ h1.1).2];exact h1.2
 refine Yld.plain (val:=valOf s cs) (fun w' hl=>?_) (.dat _ _ _ _ (qG (hT t s hs) hc hsp (hall w (Like.refl _ _ _ _ _))).2) rfl;rw[ev];exact(qG (hT t s hs) hc hsp (hall w' hl)).1
theorem qmu {w':World} {c:Array Value} {T:TypeId} (hb:w'.heap[b]? = some (.cells c T (0,0))) (o n:Nat) (i:Nat) (v:Value) (hv:((c.toList.drop o).take n)[i]? = some v) :
 w'.cell? ⟨b,o+i,none⟩=some v:=by
 rw[List.getElem?_take] at hv;split at hv
 ·rw[List.getElem?_drop] at hv;simp[World.cell?,hb];simpa using hv
 ·cases hv
theorem qoC (h:R base w0 S0 S fr a w) (hT:TyOk P E) {z:Den s} {y:Den u} (hs:(E.ti t).sh=some u)
 (hx:rdo E fr true 0 x=(true,.badr b p)) (hb:fr b=.box s z) (hp:qao s z p=some ⟨u,y⟩):Yld true P w S fr a (Instr.loadAt t (a.eval x)) (.dat u y none):=by
 obtain⟨s',z',q,g,e1,e2,_,o,e4,e5⟩:=(qt h hx).2.bd b p rfl;rw[hb] at e1;obtain⟨rfl,e1⟩:=AV.box.inj e1;obtain rfl:=eq_of_heq e1;obtain⟨g',hbox,e6⟩:=h.box b s z hb;rw[e2] at e6;obtain rfl:g=g':=by simpa using e6
 obtain⟨_,_,c,T,hc,hr⟩:=hbox;obtain⟨j2,j3⟩:=qms p s z _ u y o hr hp e4;have hall:∀ w',Like true w S fr a w'→∀ (i:Nat) (v:Value),((c.toList.drop o).take u.size)[i]? = some v→w'.cell? ⟨g,o+i,none⟩=some v:=fun w' hl i v hv =>
  qmu (by rw[hl.box rfl b s z g hb e2];exact hc) o u.size i v hv
 refine Yld.plain (val:=valOf u ((c.toList.drop o).take u.size)) (fun w' hl=>?_) (.dat _ _ _ _ (qG (hT t u hs) j2 (ad:=⟨g,o,none⟩) rfl (hall w (Like.refl _ _ _ _ _))).2) rfl;rw[e5];exact(qG (hT t u hs) j2 (ad:=⟨g,o,none⟩) rfl (hall w' hl)).1
theorem qkV (h:s.agg=false):s.size=1:=by
 cases s <;> first | rfl | cases h
theorem qBI (h:R base w0 S0 S fr a w) (hT:TyOk P E) {z:Den s} {y:Den u} (hs:(E.ti t).sh=some s)
 (hx:rdo E fr true t x=(true,.dat s z o)) (hp:qT s z f=some ⟨u,y⟩):Yld bx P w S fr a (Instr.field t (a.eval x) f) (.dat u y none):=by
 have hag:s.agg=true:=by cases s <;> simp_all [qT,Sh.agg]
 obtain⟨cs,ev,hc⟩:=qNB (qt h hx).1 hag;obtain⟨k1,k2,k3⟩:=qhp s z f _ u y hc hp;have hd:=(hT t s hs).desc;have hlen:=RdC.length s z _ hc;have:∃ fs,P.underlying t=some (.struct fs)∧(∀ (i:Nat) (g:Field),fs[i]? = some g→g.offset=qP s i∧(E.ti g.type).sh=s.fld i∧(s.fld i).isSome=true)∧∀ i u,s.fld i=some u→∃ g:Field,fs[i]? = some g:=by
  cases s <;> first | exact hd | simp[qT] at hp
 obtain⟨fs,hfs,hf1,hf2⟩:=this;obtain⟨g,hg⟩:=hf2 f u k1;obtain⟨hoff,hsh,_⟩:=hf1 f g hg;rw[k1] at hsh;obtain⟨val,j1,j2⟩:=qoA (hT _ _ hsh) (cs:=cs) (o:=g.offset) (by rw[hoff];exact k2) (by rw[hoff];simp at hlen;omega) w;refine Yld.plain (val:=val) (fun w' _=>?_) (.dat _ _ _ _ j2) rfl;obtain⟨val',j1',_⟩:=qoA (hT _ _ hsh) (cs:=cs) (o:=g.offset) (by rw[hoff];exact k2) (by rw[hoff];simp at hlen;omega) w';have hv:val'=val:=by
  have e:∀ w1,(part g.type cs g.offset).run P w1=.ok (if u.agg then .agg (cs.extract g.offset (g.offset+u.size)) else cs.getD g.offset undef) w1:=by
   intro w1;unfold part;rw[yh,(hT _ _ hsh).isAgg];cases hu:u.agg with
   | true=>simp only[ye,if_true,yh,(hT _ _ hsh).sizeOf];rfl
   | false =>
    have hone:u.size=1:=qkV hu;have hlt:g.offset < cs.size:=by rw[hoff];simp only[Array.length_toList] at hlen;omega
    have hsome:cs[g.offset]? = some (cs.getD g.offset undef):=by
     rw[Array.getElem?_eq_getElem hlt];unfold Array.getD;rw[dif_pos hlt];rfl
    simp only[ye,yq,if_false,hsome];rfl
  rw[e w'] at j1';rw[e w] at j1;cases j1;cases j1';rfl
 subst hv;rw[ev];unfold Instr.field;simp only[yh,yr hfs,ye,hg,asAgg,yu];exact j1'
theorem qIZ (hs:TyOk1 P E t s) (hu:s.fld f=some u) :
 ∃ fs g,P.underlying t=some (.struct fs)∧fs[f]? = some g∧g.offset=qP s f∧(E.ti g.type).sh=some u:=by
 have hd:=hs.desc;have:∃ fs,P.underlying t=some (.struct fs)∧(∀ (i:Nat) (g:Field),fs[i]? = some g→g.offset=qP s i∧(E.ti g.type).sh=s.fld i∧(s.fld i).isSome=true)∧∀ i u,s.fld i=some u→∃ g:Field,fs[i]? = some g:=by
  cases s <;> first | exact hd | simp[Sh.fld] at hu
 obtain⟨fs,hfs,hf1,hf2⟩:=this;obtain⟨g,hg⟩:=hf2 f u hu;obtain⟨hoff,hsh,_⟩:=hf1 f g hg;exact⟨fs,g,hfs,hg,hoff,hsh.trans hu⟩
theorem qfW (hT:TyOk P E) (hs:TyOk1 P E t s) (hu:s.fld f=some u) (hz:u.size≠0) (ad:Addr) (w':World) :
 (Instr.fieldAt t (.pointer (some ad)) f).run P w'=.ok (.pointer (some (ad.add (qP s f)))) w':=by
 obtain⟨fs,g,hfs,hg,hoff,hsh⟩:=qIZ hs hu;have h1:(fieldPlace ad g).run P w'=.ok (ad.add (qP s f)) w':=by
  unfold fieldPlace;rw[yh,(hT _ _ hsh).sizeOf,ye,if_neg hz,hoff];rfl
 unfold Instr.fieldAt;rw[yh,yr hfs,ye];simp only[hg];show ((Instr.sureAddr (.pointer (some ad))).bind _).run P w'=_;simp only[Instr.sureAddr];show ((fieldPlace ad g).bind _).run P w'=_;rw[Sem.run_bind',h1];rfl
theorem qhc (h:R base w0 S0 S fr a w) (hT:TyOk P E) {z:Den s} {y:Den u} (hs:(E.ti t).sh=some s) (hz:u.size≠0)
 (hx:rdo E fr true tx x=(true,.adr s z)) (hp:qT s z f=some ⟨u,y⟩):Yld bx P w S fr a (Instr.fieldAt t (a.eval x) f) (.adr u y):=by
 obtain⟨ad,cs,ev,hc,hsp,hm⟩:=qtP (qt h hx).1;obtain⟨k1,k2,k3⟩:=qhp s z f _ u y hc hp;refine Yld.plain (val:=.pointer (some (ad.add (qP s f)))) (fun w' _=>?_) (.adr _ _ _ _ k2 ⟨qkU _ _ hsp,fun hne=>?_⟩) rfl
 ·rw[ev];exact qfW hT (hT t s hs) k1 hz ad w'
 ·exact(hm (by rintro rfl;simp at hne)).sub _ _
theorem qeZ:∀ (s:Sh) (x:Den s) (i:Nat) (q:Sigma Den),qT s x i=some q→s.fld i=some q.1
 | .pair a b,x,0,q,h=>by simp only[qT,ya] at h;subst h;rfl
 | .pair a b,x,i+1,q,h=>qeZ b x.2 i q (by simpa only[qT] using h)
 | .bool,_,_,_,h=>by simp[qT] at h
 | .byte,_,_,_,h=>by simp[qT] at h
 | .int _,_,_,_,h=>by simp[qT] at h
 | .str,_,_,_,h=>by simp[qT] at h
 | .sl _,_,_,_,h=>by simp[qT] at h
 | .unit,_,_,_,h=>by simp[qT] at h
 | .arr _ _,_,_,_,h=>by simp[qT] at h
theorem qBJ (s:Sh) (x:Den s) (i:Nat) (q:Sigma Den) (v:Sh) (hx:qbS s x i=some q) (hs:s.step i=some v):v=q.1:=by
 cases s with
 | arr n e =>
  simp only[qbS,ya] at hx;subst hx;simp only[Sh.step] at hs;split at hs
  ·exact(yp hs).symm
  ·cases hs
 | pair a b=>exact yp (hs.symm.trans (qeZ (.pair a b) x i q hx))
 | _=>simp[qbS] at hx
theorem qcE:∀ (p:List Nat) (s u:Sh) (z:Den s) (y:Den u) (f:Nat),qao s z p=some ⟨u,y⟩→∀ o,qbt s p=some o→∀ v,u.step f=some v→(∃ q,qbS u y f=some q) →
 qbt s (p++[f])=some (o+qO u f)∧∃ q,qao s z (p++[f])=some q
 | [],s,u,z,y,f,h,o,ho,v,hv,hq=>by
  simp only[qao,ya,yD] at h;obtain⟨rfl,h⟩:=h;obtain rfl:=eq_of_heq h;simp only[qbt,ya] at ho;subst ho;obtain⟨⟨u',y'⟩,hq⟩:=hq;exact⟨by simp[qbt,hv],⟨u',y'⟩,by simp[qao,hq]⟩
 | i :: p,s,u,z,y,f,h,o,ho,v,hv,hq=>by
  simp only[qao] at h;split at h
  ·rename_i t x hx;simp only[qbt] at ho;split at ho
   ·rename_i t' ht';split at ho
    ·rename_i o' ho';obtain rfl:=qBJ s z i _ t' hx ht';simp only[ya] at ho;subst ho;obtain⟨k1,q,k2⟩:=qcE p _ u x y f h o' ho' v hv hq;exact⟨by simp only[List.cons_append,qbt,ht',k1,yS],q,by simp only[List.cons_append,qao,hx,k2]⟩
    ·cases ho
   ·cases ho
  ·cases h
theorem qtQ {x:Den s} {i:Nat} {q:Sigma Den} (h:qT s x i=some q):qbS s x i=some q∧s.step i=some q.1∧qO s i=qP s i:=by
 have hf:=qeZ s x i q h;cases s with
 | pair a b=>exact⟨h,hf,rfl⟩
 | arr n e=>simp[qT] at h
 | _=>simp[qT] at h
theorem qhd (h:R base w0 S0 S fr a w) (hT:TyOk P E) {z:Den s} {y:Den u} {q:Sigma Den} (hs:(E.ti t).sh=some u) (hz:q.1.size≠0)
 (hx:rdo E fr true tx x=(true,.badr b p)) (hb:fr b=.box s z) (hp:qao s z p=some ⟨u,y⟩) (hf:qT u y f=some q):Yld bx P w S fr a (Instr.fieldAt t (a.eval x) f) (.badr b (p++[f])):=by
 obtain⟨s',z',q',g,e1,e2,_,o,e4,e5⟩:=(qt h hx).2.bd b p rfl;have hu:=qeZ u y f q hf;rw[hb] at e1;obtain⟨rfl,e1⟩:=AV.box.inj e1;obtain rfl:=eq_of_heq e1;obtain⟨c1,c2,c3⟩:=qtQ hf;obtain⟨j1,r,j2⟩:=qcE p s u z y f hp o e4 q.1 c2 ⟨q,c1⟩;rw[c3] at j1;refine⟨.pointer (some ⟨g,o+qP u f,none⟩),fun w' _=>?_,.badr _ _ _,⟨fun _ _ _ e=>(by cases e),fun _ _ e=>(by simp[AV.lab] at e),fun s1 p1 e=>?_,fun _ _ e=>(by cases e),fun _ _ e=>(by cases e)⟩⟩
 ·rw[e5,qfW hT (hT t u hs) hu hz,qdm _ _ rfl]
 ·cases e;exact⟨s,z,r,g,hb,e2,j2,_,j1,rfl⟩
theorem qdE (h:R base w0 S0 S fr a w) {d:Nat} {x:Option Operand} (hb:qfT d (x.map (rdo E fr true 0))=some (true,n)) :
 (x=none∧n=d)∨∃ y k,x=some y∧a.eval y=.int k n:=by
 cases x with
 | none=>simp[qfT] at hb;exact .inl ⟨rfl,hb.symm⟩
 | some y =>
  right;simp only[yU,qfT] at hb;cases hr:rdo E fr true 0 y with
  | mk ok v =>
   rw[hr] at hb;simp only at hb;split at hb
   ·rename_i n' hn;simp only[ya,yb] at hb;obtain⟨rfl,rfl⟩:=hb;obtain⟨k,e⟩:=qdn (qt h hr).1 hn;exact⟨y,k,rfl,e⟩
   ·cases hb
theorem qec (isS:Bool) {lo hi:Option Operand} (hl:(lo=none∧l=0)∨∃ y k,lo=some y∧a.eval y=.int k l) (hh:(hi=none∧r=len)∨∃ y k,hi=some y∧a.eval y=.int k r)
 (h0:0≤l) (h1:l≤r) (h2:r≤len) (hc:len≤cap) (w':World) :
 (Instr.sliceBounds isS len cap (lo.map a.eval) (hi.map a.eval) none).run P w'=.ok (l.toNat,r.toNat,cap) w':=by
 have bound:∀ (k:IntKind) (n:Int) (y:Nat) (c:BoundsCode),0≤n→n≤y→(Instr.sliceBound (.int k n) y c).run P w'=.ok n.toNat w':=fun k n y c a1 a2=>by
  unfold Instr.sliceBound;simp only[asIntOf,yh,yu,ye];rw[if_pos ⟨a1,a2⟩];rfl
 unfold Instr.sliceBounds;rcases hh with ⟨rfl,rfl⟩ | ⟨y,k,rfl,e⟩
 ·rcases hl with ⟨rfl,rfl⟩ | ⟨y2,k2,rfl,e2⟩
  ·simp
  ·simp only[yU,Option.map_none,yh,yu,ye,e2];rw[bound k2 l len _ h0 h1];simp
 ·rcases hl with ⟨rfl,rfl⟩ | ⟨y2,k2,rfl,e2⟩
  ·simp only[yU,Option.map_none,yh,yu,ye,e];rw[bound k r cap _ (by omega) (by omega)];simp
  ·simp only[yU,yh,yu,ye,e,e2];rw[bound k r cap _ (by omega) (by omega)];simp only[ye];rw[bound k2 l r.toNat _ h0 (by omega)];simp
theorem qoD (h:R base w0 S0 S fr a w) (hT:TyOk P E) {lo hi:Option Operand} {z:List (Den e)} (hs:(E.ti t).sh=some (.sl e))
 (hx:rdo E fr true t x=(true,.dat (.sl e) z o)) (hl:qfT 0 (lo.map (rdo E fr true 0))=some (true,l)) (hh:qfT z.length (hi.map (rdo E fr true 0))=some (true,r))
 (h0:0≤l) (h1:l≤r) (h2:r≤z.length):Yld bx P w S fr a (Instr.sliceAt t (a.eval x) (lo.map a.eval) (hi.map a.eval) none) (.dat (.sl e) ((z.take r.toNat).drop l.toNat) none):=by
 obtain⟨A,cap,cs,ev,hcap,hch,hm⟩:=rd_sl (qt h hx).1;obtain⟨te,hd,hte,hpos,_⟩:=(hT t _ hs).desc;have hb:=fun w'=>qec (P:=P) (a:=a) true (qdE h hl) (qdE h hh) h0 h1 h2 hcap w';have hlen:=qd.length (RdC.length e) hch;have hch':qd (RdC w S e) ((z.take r.toNat).drop l.toNat) ((cs.take (r.toNat*e.size)).drop (l.toNat*e.size)) :=
  qd.drop (RdC.length e) _ (qd.take (RdC.length e) _ hch (by omega)) (by simp;omega)
 refine Yld.plain (val:=.slice (if cap=l.toNat then A else A.map (·.add (l.toNat*e.size))) (r.toNat - l.toNat) (cap - l.toNat)) (fun w' _=>?_) ?_ rfl
 ·have:(Instr.slice t (a.eval x) (lo.map a.eval) (hi.map a.eval) none).run P w'=.ok (.slice (if cap=l.toNat then A else A.map (·.add (l.toNat*e.size))) (r.toNat - l.toNat) (cap - l.toNat)) w':=by
   unfold Instr.slice;rw[yh,yr hd,ye,ev];simp only;rw[yh,hb w',ye];simp only;rw[yh,(hT te _ hte).sizeOf,ye];rfl
  unfold Instr.sliceAt;rw[yh,yr hd,ye];exact this
 ·refine qcc none (by simp;omega) (by simp;omega) hch' (fun hne=>?_);have hpos':0 < ((cs.take (r.toNat*e.size)).drop (l.toNat*e.size)).length:=List.length_pos_iff.2 hne;simp only[yK,yz] at hpos';have hlt:l.toNat < r.toNat:=by
   rcases Nat.lt_or_ge l.toNat r.toNat with hlt | hge
   ·exact hlt
   ·have:=yC e.size hge;omega
  obtain⟨ad,rfl,hmem⟩:=hm (by rintro rfl;simp at hpos');rw[if_neg (by omega)];refine⟨_,rfl,?_⟩;rw[List.drop_take];exact hmem.sub _ _
theorem qdo (bs:Bool) {lo:Option Operand} {k1 k2:IntKind} (hl:(lo=none∧l=0)∨∃ y k,lo=some y∧a.eval y=.int k l) (hh:a.eval y=.int k1 r) (hq:a.eval m=.int k2 q)
 (h0:0≤l) (h1:l≤r) (h2:r≤q) (h3:q≤len) (hc:len≤cap) (w':World) :
 (Instr.sliceBounds bs len cap (lo.map a.eval) (some (a.eval y)) (some (a.eval m))).run P w'=.ok (l.toNat,r.toNat,q.toNat) w':=by
 have bound:∀ (k:IntKind) (n:Int) (y:Nat) (c:BoundsCode),0≤n→n≤y→(Instr.sliceBound (.int k n) y c).run P w'=.ok n.toNat w':=fun k n y c a1 a2=>by
  unfold Instr.sliceBound;simp only[asIntOf,yh,yu,ye];rw[if_pos ⟨a1,a2⟩];rfl
 unfold Instr.sliceBounds;rw[hh,hq];rcases hl with ⟨rfl,rfl⟩ | ⟨y2,k3,rfl,e2⟩
 ·simp only[Option.map_none,yh,yu,ye];rw[bound k2 q cap _ (by omega) (by omega)];simp only[ye];rw[bound k1 r q.toNat _ (by omega) (by omega)];simp
 ·simp only[yU,yh,yu,e2];rw[bound k2 q cap _ (by omega) (by omega)];simp only[ye];rw[bound k1 r q.toNat _ (by omega) (by omega)];simp only[ye];rw[bound k3 l r.toNat _ h0 (by omega)];simp
theorem qwg (h:R base w0 S0 S fr a w) (hT:TyOk P E) {lo:Option Operand} {z:List (Den e)} (hs:(E.ti t).sh=some (.sl e))
 (hx:rdo E fr true t x=(true,.dat (.sl e) z o)) (hl:qfT 0 (lo.map (rdo E fr true 0))=some (true,l)) (hy:rdo E fr true 0 y=(true,vh)) (hyi:idxV vh=some r) (hm:rdo E fr true 0 m=(true,vm)) (hmi:idxV vm=some q)
 (h0:0≤l) (h1:l≤r) (h2:r≤q) (h3:q≤z.length):Yld bx P w S fr a (Instr.sliceAt t (a.eval x) (lo.map a.eval) (some (a.eval y)) (some (a.eval m))) (.dat (.sl e) ((z.take r.toNat).drop l.toNat) none):=by
 obtain⟨A,cap,cs,ev,hcap,hch,hmm⟩:=rd_sl (qt h hx).1;obtain⟨te,hd,hte,hpos,_⟩:=(hT t _ hs).desc;obtain⟨k1,e1⟩:=qdn (qt h hy).1 hyi;obtain⟨k2,e2⟩:=qdn (qt h hm).1 hmi;have hb:=fun w'=>qdo (P:=P) (a:=a) true (qdE h hl) e1 e2 h0 h1 h2 h3 hcap w';have hlen:=qd.length (RdC.length e) hch;have hch':qd (RdC w S e) ((z.take r.toNat).drop l.toNat) ((cs.take (r.toNat*e.size)).drop (l.toNat*e.size)) :=
  qd.drop (RdC.length e) _ (qd.take (RdC.length e) _ hch (by omega)) (by simp;omega)
 refine Yld.plain (val:=.slice (if q.toNat=l.toNat then A else A.map (·.add (l.toNat*e.size))) (r.toNat - l.toNat) (q.toNat - l.toNat)) (fun w' _=>?_) ?_ rfl
 ·have:(Instr.slice t (a.eval x) (lo.map a.eval) (some (a.eval y)) (some (a.eval m))).run P w'=.ok (.slice (if q.toNat=l.toNat then A else A.map (·.add (l.toNat*e.size))) (r.toNat - l.toNat) (q.toNat - l.toNat)) w':=by
   unfold Instr.slice;rw[yh,yr hd,ye,ev];simp only;rw[yh,hb w',ye];simp only;rw[yh,(hT te _ hte).sizeOf,ye];rfl
  unfold Instr.sliceAt;rw[yh,yr hd,ye];exact this
 ·refine qcc none (by simp;omega) (by simp;omega) hch' (fun hne=>?_);have hpos':0 < ((cs.take (r.toNat*e.size)).drop (l.toNat*e.size)).length:=List.length_pos_iff.2 hne;simp only[yK,yz] at hpos';have hlt:l.toNat < r.toNat:=by
   rcases Nat.lt_or_ge l.toNat r.toNat with hlt | hge
   ·exact hlt
   ·have:=yC e.size hge;omega
  obtain⟨ad,rfl,hmem⟩:=hmm (by rintro rfl;simp at hpos');rw[if_neg (by omega)];refine⟨_,rfl,?_⟩;rw[List.drop_take];exact hmem.sub _ _
theorem qkW (h:R base w0 S0 S fr a w) (hT:TyOk P E) {lo:Option Operand} {n:Nat} {z:List (Den e)} (hs:(E.ti t).sh=some (.arr n e))
 (hx:rdo E fr true t x=(true,.adr (.arr n e) z)) (hl:qfT 0 (lo.map (rdo E fr true 0))=some (true,l)) (hy:rdo E fr true 0 y=(true,vh)) (hyi:idxV vh=some r) (hm:rdo E fr true 0 m=(true,vm)) (hmi:idxV vm=some q)
 (h0:0≤l) (h1:l≤r) (h2:r≤q) (h3:q≤n):Yld bx P w S fr a (Instr.sliceAt t (a.eval x) (lo.map a.eval) (some (a.eval y)) (some (a.eval m))) (.dat (.sl e) ((z.take r.toNat).drop l.toNat) none):=by
 obtain⟨ad,cs,ev,hc,hsp,hmm⟩:=qtP (qt h hx).1;simp only[RdC] at hc;obtain⟨hzl,hch⟩:=hc;obtain⟨te,hd,hte⟩:=(hT t _ hs).desc;obtain⟨k1,e1⟩:=qdn (qt h hy).1 hyi;obtain⟨k2,e2⟩:=qdn (qt h hm).1 hmi;have hb:=fun w'=>qdo (P:=P) (a:=a) false (len:=n) (cap:=n) (qdE h hl) e1 e2 h0 h1 h2 h3 (yv _) w';have hlen:=qd.length (RdC.length e) hch;have hch':qd (RdC w S e) ((z.take r.toNat).drop l.toNat) ((cs.take (r.toNat*e.size)).drop (l.toNat*e.size)) :=
  qd.drop (RdC.length e) _ (qd.take (RdC.length e) _ hch (by omega)) (by simp;omega)
 refine Yld.plain (val:=.slice (some (if q.toNat=l.toNat then ad else ad.add (l.toNat*e.size))) (r.toNat - l.toNat) (q.toNat - l.toNat)) (fun w' _=>?_) ?_ rfl
 ·unfold Instr.sliceAt;rw[yh,yr hd,ye,ev];simp only[Instr.sureAddr,yh,yu,ye];rw[hb w',ye];simp only;rw[(hT te _ hte).sizeOf,ye]
 ·refine qcc none (by simp;omega) (by simp;omega) hch' (fun hne=>?_);have hpos':0 < ((cs.take (r.toNat*e.size)).drop (l.toNat*e.size)).length:=List.length_pos_iff.2 hne;simp only[yK,yz] at hpos';have hlt:l.toNat < r.toNat:=by
   rcases Nat.lt_or_ge l.toNat r.toNat with hlt | hge
   ·exact hlt
   ·have:=yC e.size hge;omega
  have hmem:=hmm (by rintro rfl;simp at hpos');rw[if_neg (by omega)];refine⟨_,rfl,?_⟩;rw[List.drop_take];exact hmem.sub _ _
theorem qkX (b:ByteArray) (l r:Nat):(b.extract l r).data.toList=(b.data.toList.take r).drop l:=by
 rw[ByteArray.data_extract,Array.toList_extract,List.extract_eq_take_drop,List.drop_take]
theorem qmv (h:R base w0 S0 S fr a w) (hT:TyOk P E) {lo hi:Option Operand} {z:List UInt8} (hs:(E.ti t).sh=some .str)
 (hx:rdo E fr true t x=(true,.dat .str z o)) (hl:qfT 0 (lo.map (rdo E fr true 0))=some (true,l)) (hh:qfT z.length (hi.map (rdo E fr true 0))=some (true,r))
 (h0:0≤l) (h1:l≤r) (h2:r≤z.length):Yld bx P w S fr a (Instr.sliceAt t (a.eval x) (lo.map a.eval) (hi.map a.eval) none) (.dat .str ((z.take r.toNat).drop l.toNat) none):=by
 obtain⟨b,ev,hz⟩:=qcS (qt h hx).1;have hd:=(hT t _ hs).desc;have hsz:b.size=z.length:=by rw[← hz];simp
 have hb:=fun w'=>qec (P:=P) (a:=a) false (len:=z.length) (cap:=z.length) (qdE h hl) (qdE h hh) h0 h1 h2 (yv _) w';refine Yld.plain (val:=.string (b.extract l.toNat r.toNat)) (fun w' _=>?_) ?_ rfl
 ·have:(Instr.slice t (a.eval x) (lo.map a.eval) (hi.map a.eval) none).run P w'=.ok (.string (b.extract l.toNat r.toNat)) w':=by
   unfold Instr.slice;rw[yh,yr hd,ye,ev];simp only[Option.isSome_none,yq,if_false];rw[hsz];show ((Instr.sliceBounds false z.length z.length (lo.map a.eval) (hi.map a.eval) none).bind _).run P w'=_;rw[Sem.run_bind',hb w',ye];rfl
  unfold Instr.sliceAt;rw[yh,yr hd,ye];exact this
 ·rw[← hz,← qkX];exact qtx _ _ _
theorem qtR (h:R base w0 S0 S fr a w) {i:Nat} (hx:rdo E fr true 0 x=(true,.tup vs)) (hv:vs[i]? = some v) (hc:∀ g u,v≠.cnd g u) :
 Yld bx P w S fr a (Instr.extract (a.eval x) i) v.strip:=by
 have hr:=(qt h hx).1;generalize a.eval x=u at hr;cases hr with
 | tup us _ hl hr =>
  have hlt:i < us.size:=(hl i v hv).elim id (fun ⟨u,e⟩=>absurd e (hc _ _));refine Yld.plain (val:=us.getD i undef) (fun w' _=>?_) (hr i v hv).strip (qfV v);unfold Instr.extract;simp only[Array.getElem?_eq_getElem hlt];unfold Array.getD;rw[dif_pos hlt];rfl
theorem qjs (h:R base w0 S0 S fr a w) {i:Nat} (hx:rdo E fr true 0 x=(true,.tup vs)) (hv:vs[i]? = some (.cnd true v)) :
 Yld bx P w S fr a (Instr.extract (a.eval x) i) v.strip:=by
 have hr:=(qt h hx).1;generalize a.eval x=u at hr;cases hr with
 | tup us _ hl hr =>
  have hlt:i < us.size:=(hl i _ hv).elim id (fun ⟨u,e⟩=>by cases e);have hr':=hr i _ hv;have hr2:Rd w S (us.getD i undef) v:=by
   generalize us.getD i undef=z at hr';cases hr' with
   | cnd _ _ _ h0 h1=>exact h1 rfl
  refine Yld.plain (val:=us.getD i undef) (fun w' _=>?_) hr2.strip (qfV v);unfold Instr.extract;simp only[Array.getElem?_eq_getElem hlt];unfold Array.getD;rw[dif_pos hlt];rfl
theorem qNC (h:R base w0 S0 S fr a w) (hT:TyOk P E) {ty:TypeId} {n:Nat} (hs:(E.ti t).sh=shOf vx)
 (hx:rdo E fr true t x=(true,vx)) (hn:lenV vx=some n):Yld bx P w S fr a (Builtin.len_ #[t] ty #[a.eval x]) (.int .i64 n):=by
 have hr:=(qt h hx).1;refine Yld.plain (val:=.int .i64 n) (fun w' _=>?_) (qbP _ _ _ _) rfl;unfold lenV at hn;split at hn
 ·simp only[ya] at hn;subst hn;obtain⟨A,cap,cs,ev,_⟩:=rd_sl hr;obtain⟨te,hd,_⟩:=(hT t _ hs).desc;rw[ev];simp[Builtin.len_,yr hd,goInt]
 ·simp only[ya] at hn;subst hn;obtain⟨b,ev,hz⟩:=qcS hr;have hd:=(hT t _ hs).desc;rw[ev];have:b.size=List.length b.data.toList:=by simp
  subst hz;simp[Builtin.len_,yr hd,goInt]
 ·cases hn
theorem qJa (h:R base w0 S0 S fr a w) (hx:rdo E fr true t x=(true,v)):Yld bx P w S fr a (pure (a.eval x)) v :=
 ⟨_,fun _ _=>rfl,(qt h hx).1,(qt h hx).2⟩
theorem qbH {w:World} {S:qa}:∀ {l:List UInt8} {cs:List Value},qd (RdC w S .byte) l cs→cs=l.map fun b=>.int .u8 (b.toNat:Nat)
 | [],_,h=>h
 | b :: l,_,⟨v1,v2,e,h1,h2⟩=>by
  simp only[RdC] at h1;rw[e,h1,qbH h2];rfl
theorem qtS (h:R base w0 S0 S fr a w) (hT:TyOk P E) {src dst:TypeId} (hd:(E.ti dst).sh=some s) (hs:(E.ti src).sh=some u) (hu:shOf vx=some u)
 (hx:rdo E fr true 0 x=(true,vx)) (hc:convV s vx=some v):Yld bx P w S fr a (convert src dst (a.eval x)) v:=by
 have hr:=(qt h hx).1;have hdd:=(hT dst _ hd).desc;obtain⟨ds,hds⟩:=(hT src _ hs).under;have toInt:∀ (k k':IntKind) (n:Int),P.underlying dst=some (.int k)→∀ w',(convert src dst (.int k' n)).run P w'=.ok (.int k (k.wrap n)) w':=fun k k' n hk w'=>by
  unfold convert;rw[yh,yr hds,ye,yh,yr hk,ye];cases ds <;> rfl
 unfold convV at hc;split at hc
 ·simp only[ya] at hc;subst hc;have e:=qbC hr;refine Yld.plain (fun w' _=>?_) (qbE _ _ _) rfl;rw[e,toInt .u8 _ _ hdd w'];congr 2;rw[IntKind.wrap_u8];have hb:∀ c:UInt8,((c.toNat:Nat):Int) % 256=c.toNat:=fun c=>by have:=c.toNat_lt;omega
  exact hb _
 ·simp only[ya] at hc;subst hc;have e:=qaL hr;refine Yld.plain (fun w' _=>?_) (qbE _ _ _) rfl;rw[e,toInt .u8 _ _ hdd w'];have h1:∀ n:Int,0≤IntKind.u8.wrap n∧IntKind.u8.wrap n < 256:=fun n=>by rw[IntKind.wrap_u8];omega
  rw[qeX _ (h1 _)]
 ·split at hc
  ·cases hc
  ·simp only[ya] at hc;subst hc;have e:=qbC hr;exact Yld.plain (fun w' _=>by rw[e];exact toInt _ _ _ hdd.1 w') (qbP _ _ _ _) rfl
 ·split at hc
  ·cases hc
  ·simp only[ya] at hc;subst hc;have e:=qaL hr;exact Yld.plain (fun w' _=>by rw[e];exact toInt _ _ _ hdd.1 w') (qbP _ _ _ _) rfl
 ·simp only[ya] at hc;subst hc;obtain⟨b,e,rfl⟩:=qcS hr;refine Yld.plain (val:=.string b) (fun w' _=>?_) (qtx _ _ _) rfl;rw[e];unfold convert;rw[yh,yr hds,ye,yh,yr hdd,ye];cases ds <;> rfl
 ·simp only[ya] at hc;subst hc;rename_i l o;obtain⟨A,cap,cs,ev,hcap,hch,hm⟩:=rd_sl hr;simp only[shOf,ya] at hu;subst hu;obtain⟨te,hte,hsh,_⟩:=(hT src _ hs).desc;have hb:=(hT te _ hsh).desc;have hcs:=qbH hch;refine Yld.plain (val:=.string ⟨(List.toArray l)⟩) (fun w' hl=>?_) (qtx w S ⟨(List.toArray l)⟩) rfl;rw[ev];cases l with
  | nil =>
   cases A with
   | none=>exact run_convert_bytes_nil w' src te hte hb 0 cap dst hdd
   | some ad =>
    rw[run_convert_bytes_string w' src dst te _ _ cap hte hb hdd];simp only[List.length_nil];rw[run_bytesToString w' ad 0 cap [] rfl];rfl
  | cons b l =>
   obtain⟨ad,rfl,hmem⟩:=hm (by rw[hcs];simp);obtain⟨bb,oo,sp⟩:=ad;have hsp:=hmem.1;simp only at hsp;subst hsp;have:=run_convert_bytes_arg w' src te hte hb bb oo (b :: l).length cap ((b :: l).map fun c=>(c.toNat:Int)) (by simp) (fun i hi=>by
    have h1:=hmem.2 i (.int .u8 ((b :: l)[i].toNat:Nat)) (by rw[hcs,List.getElem?_map,yO hi];rfl);rw[(hl.keeps _ _ h1.1).2,h1.2];simp only[List.getD,List.getElem?_map,yO hi];rfl) dst hdd
   rw[this];congr 3;unfold strOfNums;congr 2;rw[List.map_map];conv=>rhs;rw[← List.map_id (b :: l)]
   apply List.map_congr_left;intro c _;simp
 ·simp only[ya] at hc;subst hc;have e:=qaL hr;refine Yld.plain (val:=.string (Utf8.encode _)) (fun w' _=>?_) (qtx _ _ _) rfl;rw[e];unfold convert;rw[yh,yr hds,ye,yh,yr hdd,ye];cases ds <;> rfl
 ·cases hc
theorem qmw (h:R base w0 S0 S fr a w) (hT:TyOk P E) {m:Nat} {l:List (Den e)} (hs:(E.ti t).sh=some (.arr m e))
 (hx:rdo E fr true t x=(true,.dat (.arr m e) l o)) (hi:rdo E fr true 0 i=(true,vi)) (hn:idxV vi=some n) (h0:0≤n) (h1:n < m) :
 Yld bx P w S fr a (Instr.index t (a.eval x) (a.eval i)) (.dat e (l.getD n.toNat (dflt e)) none):=by
 obtain⟨cs,ev,hc⟩:=qNB (qt h hx).1 rfl;obtain⟨k,e2⟩:=qdn (qt h hi).1 hn;obtain⟨te,hd,hte⟩:=(hT t _ hs).desc;simp only[RdC] at hc;obtain⟨hlen,hch⟩:=hc;have hlt:n.toNat < l.length:=by omega
 have hel:=qd.at (RdC.length e) n.toNat hch hlt;have hsz:=qd.length (RdC.length e) hch;have hfit:n.toNat*e.size+e.size≤cs.size:=by
  have:(n.toNat+1)*e.size≤l.length*e.size:=yC _ (by omega);rw[Nat.add_mul,Nat.one_mul,← hsz] at this;simpa using this
 obtain⟨val,j1,j2⟩:=qoA (hT te _ hte) (cs:=cs) (o:=n.toNat*e.size) hel hfit w;have e':∀ w1,(part te cs (n.toNat*e.size)).run P w1=.ok (if e.agg then .agg (cs.extract (n.toNat*e.size) (n.toNat*e.size+e.size)) else cs.getD (n.toNat*e.size) undef) w1:=by
  intro w1;unfold part;rw[yh,(hT _ _ hte).isAgg];cases hu:e.agg with
  | true=>simp only[ye,if_true,yh,(hT _ _ hte).sizeOf];rfl
  | false =>
   have hone:e.size=1:=qkV hu;have hlt:n.toNat*e.size < cs.size:=by omega
   have hsome:cs[n.toNat*e.size]? = some (cs.getD (n.toNat*e.size) undef):=by
    rw[Array.getElem?_eq_getElem hlt];unfold Array.getD;rw[dif_pos hlt];rfl
   simp only[ye,yq,if_false,hsome];rfl
 rw[show l.getD n.toNat (dflt e)=l[n.toNat] by simp[List.getD,yO hlt]];refine Yld.plain (val:=val) (fun w' _=>?_) (.dat _ _ _ _ j2) rfl;have:(part te cs (n.toNat*e.size)).run P w'=.ok val w':=by
  rw[e' w'];rw[e' w] at j1;cases j1;rfl
 unfold Instr.index;rw[ev,e2];have h1':(n:Int) < ((m:Nat):Int):=h1;simp only[asIntOf,yh,yu,ye,yr hd];rw[if_pos ⟨h0,h1'⟩];simp only[yh,(hT te _ hte).sizeOf,ye];exact this
theorem qhe (h:R base w0 S0 S fr a w) (hT:TyOk P E) {m:Nat} {l:List (Den e)} (hs:(E.ti t).sh=some (.arr m e))
 (hx:rdo E fr true t x=(true,.adr (.arr m e) l)) (hi:rdo E fr true 0 i=(true,vi)) (hn:idxV vi=some n) (h0:0≤n) (h1:n < m) :
 Yld bx P w S fr a (Instr.indexAt t (a.eval x) (a.eval i)) (.adr e (l.getD n.toNat (dflt e))):=by
 obtain⟨ad,cs,ev,hc,hsp,hm⟩:=qtP (qt h hx).1;obtain⟨k,e2⟩:=qdn (qt h hi).1 hn;obtain⟨te,hd,hte⟩:=(hT t _ hs).desc;simp only[RdC] at hc;obtain⟨hlen,hch⟩:=hc;have hlt:n.toNat < l.length:=by omega
 have hel:=qd.at (RdC.length e) n.toNat hch hlt;rw[show l.getD n.toNat (dflt e)=l[n.toNat] by simp[List.getD,yO hlt]];refine Yld.plain (val:=.pointer (some (ad.add (n.toNat*e.size)))) (fun w' _=>?_) (.adr _ _ _ _ hel ⟨qkU _ _ hsp,fun hne=>(hm (by rintro rfl;simp at hne)).sub _ _⟩) rfl;unfold Instr.indexAt;rw[ev,e2];have h1':(n:Int) < ((m:Nat):Int):=h1;simp only[asIntOf,yh,yu,ye,yr hd,Instr.sureAddr];rw[if_pos ⟨h0,h1'⟩];simp only[yh,(hT te _ hte).sizeOf,ye,yu]
theorem qhf (h:R base w0 S0 S fr a w) (hT:TyOk P E) {m:Nat} {z:Den s} {l:List (Den e)} (hs:(E.ti t).sh=some (.arr m e))
 (hx:rdo E fr true t x=(true,.badr b p)) (hb:fr b=.box s z) (hp:qao s z p=some ⟨.arr m e,l⟩) (hi:rdo E fr true 0 i=(true,vi)) (hn:idxV vi=some n) (h0:0≤n) (h1:n < m) :
 Yld bx P w S fr a (Instr.indexAt t (a.eval x) (a.eval i)) (.badr b (p++[n.toNat])):=by
 obtain⟨s',z',q',g,e1,e2,_,o,e4,e5⟩:=(qt h hx).2.bd b p rfl;rw[hb] at e1;obtain⟨rfl,e1⟩:=AV.box.inj e1;obtain rfl:=eq_of_heq e1;obtain⟨k,e6⟩:=qdn (qt h hi).1 hn;obtain⟨te,hd,hte⟩:=(hT t _ hs).desc;obtain⟨j1,r,j2⟩:=qcE p s (.arr m e) z l n.toNat hp o e4 e (by simp only[Sh.step];rw[if_pos (by omega)]) ⟨_,rfl⟩;refine⟨.pointer (some ⟨g,o+n.toNat*e.size,none⟩),fun w' _=>?_,.badr _ _ _,⟨fun _ _ _ e=>(by cases e),fun _ _ e=>(by simp[AV.lab] at e),fun s1 p1 e=>?_,fun _ _ e=>(by cases e),fun _ _ e=>(by cases e)⟩⟩
 ·unfold Instr.indexAt;rw[e5,e6];have h1':(n:Int) < ((m:Nat):Int):=h1;simp only[asIntOf,yh,yu,ye,yr hd,Instr.sureAddr];rw[if_pos ⟨h0,h1'⟩];simp only[yh,(hT te _ hte).sizeOf,ye,yu];rw[qdm _ _ rfl]
 ·cases e;exact⟨s,z,r,g,hb,e2,j2,_,j1,rfl⟩
end
end
section
open Go.RowKit
section
theorem and3 {x y z:Bool} (h:(x&&y&&z)=true):x=true∧y=true∧z=true:=by cases x <;> cases y <;> cases z <;> simp_all
theorem qoE (h:R base w0 S0 S fr a w) (hT:TyOk P E) {o:Oper} {v:AV} (he:still E fr true o=some (true,v)) {bx:Bool} (hbx:bx=true∨qdl E fr true o=true) :
 ∃ val,(∀ w',Like bx w S fr a w'→(execOp a.eval o).run P w'=.ok (.value val) w')∧Rd w S val v∧Cpy fr a v val:=by
 have fin:∀ {s:Sem Value},Yld bx P w S fr a s v→execOp a.eval o=(do pure (.value (← s)))→∃ val,(∀ w',Like bx w S fr a w'→(execOp a.eval o).run P w'=.ok (.value val) w')∧Rd w S val v∧Cpy fr a v val:=by
  intro s ⟨val,h1,h2,h3⟩ e;exact⟨val,fun w' hl=>by rw[e];exact run_v (h1 w' hl),h2,h3⟩
 obtain⟨dst,op,ty,pos,after,guard⟩:=o;unfold still at he;split at he
 ·
  rename_i x hop;simp only at hop;subst hop;simp only[ya] at he;exact fin (qJa h he) rfl
 ·
  rename_i c x y hop;simp only at hop;subst hop;have go:∀ (t:Bool) (o1:Lab) (z:Operand) (b_z:Bool) (o2:Lab),rdo E fr true 0 c=(true,.dat .bool t o1)→(if t then x else y)=z→rdo E fr true 0 z=(true,.dat .bool b_z o2) →
   ∃ val,(∀ w',Like bx w S fr a w'→((do pure (Next.value (if ← asBool (a.eval c) then a.eval x else a.eval y)):Sem Next)).run P w'=.ok (.value val) w')∧Rd w S val (.bool b_z)∧Cpy fr a (.bool b_z) val:=by
   intro t o1 z b_z o2 h1 hz h2;refine⟨a.eval z,fun w' _=>?_,?_,Cpy.of_plain rfl⟩
   ·rw[yh,qbD (qt h h1).1];simp only[asBool,yu,ye];subst hz;cases t <;> rfl
   ·rw[qbD (qt h h2).1];exact qaw _ _ _
  split at he
  ·rename_i okc t o1 h1;split at he
   ·split at he
    ·rename_i oka b_x o2 h2;simp only[ya,yb,yf] at he;obtain⟨⟨rfl,rfl⟩,rfl⟩:=he;exact go true o1 x b_x o2 h1 rfl h2
    ·cases he
   ·split at he
    ·rename_i okb b_y o2 h2;simp only[ya,yb,yf] at he;obtain⟨⟨rfl,rfl⟩,rfl⟩:=he;exact go false o1 y b_y o2 h1 rfl h2
    ·cases he
  ·cases he
 ·
  rename_i op t x y yt hop;simp only at hop;subst hop;split at he;rename_i okx vx oky vy h1 h2;split at he
  ·rename_i ok v' hb;simp only[ya,yb] at he;obtain⟨hok,rfl⟩:=he;obtain⟨rfl,rfl,rfl⟩:=and3 hok;exact fin (qBH h hT h1 h2 hb) rfl
  ·cases he
 ·
  rename_i op t x hop;simp only at hop;subst hop;split at he;rename_i okx vx h1;split at he
  ·rename_i v' hb;simp only[ya,yb] at he;obtain⟨rfl,rfl⟩:=he;exact fin (qIY h h1 hb) rfl
  ·cases he
 ·
  rename_i src dst' x hop;simp only at hop;subst hop;split at he
  ·rename_i okx vx s u h1 hd hs;split at he
   ·rename_i v' hb;split at he
    ·cases he
    ·rename_i hu;simp only[ya,yb] at he;obtain⟨rfl,rfl⟩:=he;exact fin (qtS h hT hd hs (by simpa using hu) h1 hb) rfl
   ·cases he
  ·cases he
 ·
  rename_i t x i hop;simp only at hop;subst hop;split at he
  ·rename_i okx s o1 oki vi h1 h2;split at he
   ·rename_i n hn;split at he
    ·cases he
    ·rename_i hs;simp only[ya,yb,yf,ym] at he;obtain⟨⟨⟨⟨rfl,rfl⟩,h0⟩,hlt⟩,rfl⟩:=he;exact fin (qmt h (by simpa using hs) hT h1 h2 hn h0 hlt) rfl
   ·cases he
  ·rename_i okx m e l o1 oki vi h1 h2;split at he
   ·rename_i n hn;split at he
    ·rename_i hs;simp only[ya,yb,yf,ym] at he;obtain⟨⟨⟨⟨rfl,rfl⟩,h0⟩,hlt⟩,rfl⟩:=he;exact fin (qmw h hT hs h1 h2 hn h0 hlt) rfl
    ·cases he
   ·cases he
  ·cases he
 ·
  rename_i t x i hop;simp only at hop;subst hop;split at he
  ·rename_i okx e l o1 oki vi h1 h2;split at he
   ·rename_i n hn;split at he
    ·rename_i hs;simp only[ya,yb,yf,ym] at he;obtain⟨⟨⟨⟨rfl,rfl⟩,h0⟩,hlt⟩,rfl⟩:=he;exact fin (qiq h hT hs h1 h2 hn h0 hlt) rfl
    ·cases he
   ·cases he
  ·rename_i okx m e l oki vi h1 h2;split at he
   ·rename_i n hn;split at he
    ·rename_i hs;simp only[ya,yb,yf,ym] at he;obtain⟨⟨⟨⟨rfl,rfl⟩,h0⟩,hlt⟩,rfl⟩:=he;exact fin (qhe h hT hs h1 h2 hn h0 hlt) rfl
    ·cases he
   ·cases he
  ·rename_i okx b p oki vi h1 h2;split at he
   ·rename_i s z hb;split at he
    ·rename_i m e l hp;split at he
     ·rename_i n hn;split at he
      ·rename_i hs;simp only[ya,yb,yf,ym] at he;obtain⟨⟨⟨⟨rfl,rfl⟩,h0⟩,hlt⟩,rfl⟩:=he;exact fin (qhf h hT hs h1 hb hp h2 hn h0 hlt) rfl
      ·cases he
     ·cases he
    ·cases he
   ·cases he
  ·cases he
 ·
  rename_i x hop;simp only at hop;subst hop;split at he
  ·rename_i okx s z h1;simp only[ya,yb] at he;obtain⟨rfl,rfl⟩:=he;obtain⟨ad,cs,ev,hc⟩:=qtP (qt h h1).1;exact⟨a.eval x,fun w' _=>by simp only[execOp,ev];rfl,(qt h h1).1,(qt h h1).2⟩
  ·rename_i okx b p h1;simp only[ya,yb] at he;obtain⟨rfl,rfl⟩:=he;obtain⟨s',z',q,g,e1,e2,_,o,e4,e5⟩:=(qt h h1).2.bd b p rfl;exact⟨a.eval x,fun w' _=>by simp only[execOp,e5];rfl,(qt h h1).1,(qt h h1).2⟩
  ·cases he
 ·
  rename_i t x hop;simp only at hop;subst hop;split at he
  ·rename_i okx s y h1;split at he
   ·rename_i hs;simp only[ya,yb] at he;obtain⟨rfl,rfl⟩:=he;exact fin (qoB h hT hs h1) rfl
   ·cases he
  ·rename_i okx b p h1;split at he
   ·rename_i s z hb;split at he
    ·rename_i u y hp;split at he
     ·rename_i hs;simp only[ya,yb] at he;obtain⟨rfl,rfl⟩:=he;rcases hbx with rfl | hbx
      ·exact fin (qoC h hT hs h1 hb hp) rfl
      ·simp[qdl,h1] at hbx
     ·cases he
    ·cases he
   ·cases he
  ·cases he
 ·
  rename_i t x f hop;simp only at hop;subst hop;split at he
  ·rename_i okx s z o1 h1;split at he
   ·rename_i u y hp;split at he
    ·rename_i hs;simp only[ya,yb] at he;obtain⟨rfl,rfl⟩:=he;exact fin (qBI h hT hs h1 hp) rfl
    ·cases he
   ·cases he
  ·cases he
 ·
  rename_i t x f hop;simp only at hop;subst hop;split at he
  ·rename_i okx s z h1;split at he
   ·rename_i u y hp;split at he
    ·rename_i hs;simp only[ya,yb] at he;obtain⟨rfl,rfl⟩:=he;exact fin (qhc h hT hs.1 hs.2 h1 hp) rfl
    ·cases he
   ·cases he
  ·rename_i okx b p h1;split at he
   ·rename_i s z hb;split at he
    ·rename_i u y hp;split at he
     ·rename_i q1 q2 hf;split at he
      ·rename_i hs;simp only[ya,yb] at he;obtain⟨rfl,rfl⟩:=he;exact fin (qhd h hT hs.1 hs.2 h1 hb hp hf) rfl
      ·cases he
     ·cases he
    ·cases he
   ·cases he
  ·cases he
 ·
  rename_i t x lo hi m hop;simp only at hop;subst hop;split at he
  ·rename_i okx n e z h1;split at he
   ·rename_i okl l y okm vm hl h3;split at he
    ·rename_i okh vh k h2 hk;split at he
     ·rename_i r hr;split at he
      ·cases he
      ·rename_i hs;simp only[ya,yb,yf,ym] at he;obtain⟨⟨⟨⟨⟨⟨⟨⟨rfl,rfl⟩,rfl⟩,rfl⟩,h0⟩,hle⟩,hlt⟩,hq⟩,rfl⟩:=he;exact fin (qkW h hT (by simpa using hs) h1 hl h2 hr h3 hk h0 hle hlt hq) rfl
     ·cases he
    ·cases he
   ·cases he
  ·rename_i okx e z o1 h1;split at he
   ·rename_i okl l y okm vm hl h3;split at he
    ·rename_i okh vh k h2 hk;split at he
     ·rename_i r hr;split at he
      ·cases he
      ·rename_i hs;simp only[ya,yb,yf,ym] at he;obtain⟨⟨⟨⟨⟨⟨⟨⟨rfl,rfl⟩,rfl⟩,rfl⟩,h0⟩,hle⟩,hlt⟩,hq⟩,rfl⟩:=he;have hs':(E.ti t).sh=some (.sl e):=by simpa using hs
       exact fin (qwg h hT hs' h1 hl h2 hr h3 hk h0 hle hlt hq) rfl
     ·cases he
    ·cases he
   ·cases he
  ·cases he
 ·
  rename_i t x lo hi hop;simp only at hop;subst hop;split at he;rename_i okx vx h1;split at he
  ·rename_i len hlen;split at he
   ·rename_i okl l okh r hl hr;split at he
    ·rename_i v' hv;split at he
     ·cases he
     ·rename_i hs;simp only[ya,yb,yf,ym] at he;obtain⟨⟨⟨⟨⟨⟨rfl,rfl⟩,rfl⟩,h0⟩,hle⟩,hlt⟩,rfl⟩:=he;have hs':(E.ti t).sh=shOf vx:=by simpa using hs
      unfold qNy at hv;split at hv
      ·simp only[ya] at hv;simp only[lenV,ya] at hlen;subst hv;subst hlen;exact fin (qoD h hT hs' h1 hl hr h0 hle hlt) rfl
      ·simp only[ya] at hv;simp only[lenV,ya] at hlen;subst hv;subst hlen;exact fin (qmv h hT hs' h1 hl hr h0 hle hlt) rfl
      ·cases hv
    ·cases he
   ·cases he
  ·cases he
 ·
  rename_i x i hop;simp only at hop;subst hop;split at he
  ·rename_i okx vs h1;split at he
   ·rename_i g v' hv;simp only[ya,yb,yf] at he;obtain⟨⟨rfl,rfl⟩,rfl⟩:=he;exact fin (qjs h h1 hv) rfl
   ·rename_i v' hnc hv;simp only[ya,yb] at he;obtain⟨rfl,rfl⟩:=he;exact fin (qtR h h1 hv (fun g u e=>hnc g u e)) rfl
   ·cases he
  ·cases he
 ·
  rename_i c hop;simp only at hop;subst hop;obtain⟨callee,args,argTypes⟩:=c;split at he
  ·rename_i x t hc hargs htypes;simp only at hc hargs htypes;subst hc;obtain rfl:args = #[x]:=Array.ext' hargs;obtain rfl:argTypes = #[t]:=Array.ext' htypes;split at he;rename_i okx vx h1;split at he
   ·rename_i n hn;split at he
    ·cases he
    ·rename_i hs;simp only[ya,yb] at he;obtain⟨rfl,rfl⟩:=he;obtain⟨val,k1,k2,k3⟩:=qNC (bx:=bx) (P:=P) (ty:=ty) h hT (by simpa using hs) h1 hn;refine⟨val,fun w' hl=>?_,k2,k3⟩;have:=k1 w' hl;simp only[execOp,resolve,invoke,builtin,yh,yu,ye,List.map_toArray,yI,List.map_nil,this]
   ·cases he
  ·rename_i x y hc hargs;simp only at hc hargs;subst hc;obtain rfl:args = #[x,y]:=Array.ext' hargs;split at he
   ·rename_i okx k n ox oky k' m oy h1 h2;split at he
    ·rename_i hk;subst hk;simp only[ya,yb,yf] at he;obtain⟨⟨rfl,rfl⟩,rfl⟩:=he;refine⟨_,fun w' _=>?_,qbP w S k (bif decide (m < n) then m else n),Cpy.of_plain rfl⟩;have:=run_min_int2 (P:=P) (w:=w') argTypes ty k k n m;simp only[execOp,resolve,invoke,builtin,yh,yu,ye,List.map_toArray,yI,List.map_nil,qaL (qt h h1).1,qaL (qt h h2).1,this]
     by_cases hmn:m < n <;> simp[hmn]
    ·cases he
   ·cases he
  ·rename_i x y hc hargs;simp only at hc hargs;subst hc;obtain rfl:args = #[x,y]:=Array.ext' hargs;split at he
   ·rename_i okx k n ox oky k' m oy h1 h2;split at he
    ·rename_i hk;subst hk;simp only[ya,yb,yf] at he;obtain⟨⟨rfl,rfl⟩,rfl⟩:=he;refine⟨_,fun w' _=>?_,qbP w S k (bif decide (m > n) then m else n),Cpy.of_plain rfl⟩;have:=run_max_int2 (P:=P) (w:=w') argTypes ty k k n m;simp only[execOp,resolve,invoke,builtin,yh,yu,ye,List.map_toArray,yI,List.map_nil,qaL (qt h h1).1,qaL (qt h h2).1,this]
     by_cases hmn:m > n <;> simp[hmn]
    ·cases he
   ·cases he
  ·cases he
 ·cases he
end
end
section
open Go.RowKit
variable {w':World} {b l t d:Nat} {S':qa} {e:TypeId} {s:Sh} {v:Value} {r:AV}
section
theorem qj {w:World} (h:w'.heap[b]? = w.heap[b]?) (o:Nat):w'.cell? ⟨b,o,none⟩=w.cell? ⟨b,o,none⟩:=by simp[World.cell?,h]
structure Grew (w:World) (S:qa) (w':World) (S':qa):Prop where
 below:Below w.heap.size w w'
 old:∀ b o,b < w.heap.size→(S' b o↔S b o)
 lt:∀ b o,S' b o→b < w'.heap.size
theorem Grew.keeps (g:Grew w S w' S') (hS:∀ b o,S b o→b < w.heap.size):Keeps w S w' S' :=
 fun b o hs=>⟨(g.old b o (hS b o hs)).2 hs,qj (g.below.block b (hS b o hs)) o⟩
theorem qbu (hb:Below w.heap.size w w') (row:Option Nat):w.grownBy w' row:=⟨hb.os,hb.tape,hb.output,hb.size,fun k hk _=>hb.block k hk⟩
theorem R.grow (h:R base w0 S0 S fr a w) (g:Grew w S w' S'):R base w0 S0 S' fr a w' :=
 h.step (row:=none) (qbu g.below none) (g.keeps h.slt) (fun b o hlt _=>g.old b o hlt) g.lt (fun g hg=>by cases hg)
theorem R.own_lt (h:R base w0 S0 S fr a w) (hl:(fr l).lab=some (l,e)) (hb:(a.tmps.getD l undef).ownBlock=some b):b < w.heap.size:=by
 cases hf:fr l with
 | dat s x o =>
  rw[hf] at hl;simp only[AV.lab] at hl;subst hl;obtain⟨e',rfl⟩:=h.sls l s x _ hf;obtain⟨xs,h1,_⟩:=h.own l e' x e hf;exact(h1.lt b hb).2
 | _=>rw[hf] at hl;simp[AV.lab] at hl
theorem R.lab_own (h:R base w0 S0 S fr a w) (hl:(fr t).lab=some (l,e)):(fr l).lab=some (l,e):=by
 rw[(h.cp t l e hl).1];exact hl
theorem R.own_lt' (h:R base w0 S0 S fr a w) (hl:(fr t).lab=some (l,e)) (hb:(a.tmps.getD t undef).ownBlock=some b):b < w.heap.size:=by
 have h1:=h.cp t l e hl;exact h.own_lt (h.lab_own hl) (by rw[h1.2];exact hb)
theorem R.box_lt (h:R base w0 S0 S fr a w) {x:Den s} (hf:fr t=.box s x) (hb:a.tmps.getD t undef=.pointer (some ⟨b,0,none⟩)):b < w.heap.size:=by
 obtain⟨b',⟨_,_,c,T,hc,_⟩,e⟩:=h.box t s x hf;rw[hb] at e;obtain rfl:b=b':=by simpa using e
 exact(Array.getElem?_eq_some_iff.1 hc).1
theorem R.fresh (h:R base w0 S0 S fr a w) (hd:d < a.tmps.size) (g:Grew w S w' S')
 {val:Value} {v:AV} (hv:Rd w' S' val v) (hnb:∀ s (x:Den s),v≠.box s x) (hnp:∀ s p,v≠.badr s p)
 (hl:∀ l te,v.lab=some (l,te)→l=d∧∃ e,∃ x:List (Den e),v=.dat (.sl e) x (some (l,te))∧qcb w' S' (· < w.heap.size) te e val x)
 (hnc:∀ f ss,v≠.clom f ss:=by intro _ _ e;cases e) :
 R base w0 S0 S' (fr.put d v) (a.put (some d) val) w':=by
 have h1:=h.grow g;have new_of:∀ te,v.lab=some (d,te)→∀ b,val.ownBlock=some b→w.heap.size≤b:=fun te he b hb'=>by
  obtain⟨_,e,x,_,xs,h2,_,_,h5⟩:=hl d te he;exact Nat.le_of_not_lt (h5 b hb')
 refine h1.put hd hv ?_ ?_ ?_ ?_ ?_ ?_ ?_ ?_ ?_ (fun f ss e=>absurd e (hnc f ss))
 ·intro s x l e;obtain⟨l1,te⟩:=l;obtain⟨_,e',x',h2,_⟩:=hl l1 te (by rw[e];rfl);rw[e] at h2;exact⟨e',(AV.dat.inj h2).1⟩
 ·intro l te he hne;exact absurd (hl l te he).1 hne
 ·intro e x te he;obtain⟨_,e',x',h2,h3⟩:=hl d te (by rw[he];rfl);rw[he] at h2;obtain⟨h4,h5,_⟩:=AV.dat.inj h2;obtain rfl:e=e':=by simpa using h4
  obtain rfl:=eq_of_heq h5;obtain⟨xs,k1,k2,k3,k4⟩:=h3;exact⟨xs,k1,k2,k3,fun b hb hp=>k4 b hb (h.base_le b hp)⟩
 ·intro te he l e b hne hle hb' hc;have:=new_of te he b hc;have:=h.own_lt' hle hb';omega
 ·intro s x e;exact absurd e (hnb s x)
 ·intro s x e;exact absurd e (hnb s x)
 ·intro s x e;exact absurd e (hnb s x)
 ·intro te he t s x b hne hf hb' hc;have:=new_of te he b hc;have:=h.box_lt hf hb';omega
 ·intro s p e;exact absurd e (hnp s p)
theorem R.boxed (h:R base w0 S0 S fr a w) (hd:d < a.tmps.size) {x:Den s} (hb:Below w.heap.size w w') (hge:w.heap.size≤b)
 {c:Array Value} {T:TypeId} (hc:w'.heap[b]? = some (.cells c T (0,0))) (hr:RdC w S s x c.toList) :
 R base w0 S0 S (fr.put d (.box s x)) (a.put (some d) (.pointer (some ⟨b,0,none⟩))) w':=by
 have g:Grew w S w' S:=⟨hb,fun _ _ _=>Iff.rfl,fun b o hs=>yH (h.slt b o hs) hb.size⟩;have h1:=h.grow g;refine h1.put hd (.box _ _ _) ?_ ?_ ?_ ?_ ?_ ?_ ?_ ?_ ?_
 ·intro s x l e;cases e
 ·intro l e he;simp[AV.lab] at he
 ·intro e x te he;cases he
 ·intro te he;simp[AV.lab] at he
 ·intro s1 x1 e;obtain⟨rfl,e⟩:=AV.box.inj e;obtain rfl:=eq_of_heq e;exact⟨b,⟨fun hp=>by have:=h.base_le b hp;omega,fun o ho=>by have:=h.slt b o ho;omega,c,T,hc,RdC.keeps (g.keeps h.slt) _ _ _ hr⟩,rfl⟩
 ·intro s1 x1 _ t s' x' b' _ hf e hc';obtain rfl:b=b':=by simpa using e
  have:=h.box_lt hf hc';omega
 ·intro s1 x1 _ b' l e e' _ hl hc';obtain rfl:b=b':=by simpa using e'
  have:=h.own_lt' hl hc';omega
 ·intro te he;simp[AV.lab] at he
 ·intro s p e;cases e
def qav (w:World) (S:qa) (vals:List Value) (avs:List AV):Prop :=
 vals.length=avs.length∧∀ (i:Nat) (v:Value) (av:AV),vals[i]? = some v→avs[i]? = some av→Rd w S v av
structure ResRd (n:Nat→Prop) (w':World) (S':qa) (v:Value) (r:AV):Prop where
 rd:Rd w' S' v r
 nb:∀ s (x:Den s),r≠.box s x
 np:∀ s p,r≠.badr s p
 own:∀ l te,r.lab=some (l,te)→∃ e,∃ x:List (Den e),r=.dat (.sl e) x (some (l,te))∧qcb w' S' n te e v x
theorem qRA {te:TypeId} (h:(r.at d).lab=some (l,te)):l=d∧∃ l',r.lab=some (l',te):=by
 cases r with
 | dat s x o =>
  cases o with
  | none=>simp[AV.at,AV.lab] at h
  | some p =>
   obtain⟨l',te'⟩:=p;simp only[AV.at,AV.lab,ya,yb] at h ⊢;obtain⟨rfl,rfl⟩:=h;exact⟨rfl,l',rfl,rfl⟩
 | _=>simp[AV.at,AV.lab] at h
theorem Rd.at {w:World} {S:qa} (h:Rd w S v r) (d:Nat):Rd w S v (r.at d):=by
 cases r with
 | dat s x o=>cases o <;> first | exact h | exact h.relab (some (d,_))
 | clom f ss=>exact .bad v
 | _=>exact h
theorem R.called (h:R base w0 S0 S fr a w) (hd:d < a.tmps.size) (g:Grew w S w' S') (hr:ResRd (· < w.heap.size) w' S' v r) :
 R base w0 S0 S' (fr.put d (r.at d)) (a.put (some d) v) w':=by
 refine h.fresh hd g (hr.rd.at d) ?_ ?_ ?_ (fun f ss e=>by cases r with | dat s' x' o=>cases o <;> simp[AV.at] at e | _=>simp[AV.at] at e)
 ·intro s x e;cases r with
  | box s' x'=>exact hr.nb _ _ rfl
  | dat s' x' o=>cases o <;> simp[AV.at] at e
  | _=>simp[AV.at] at e
 ·intro s p e;cases r with
  | badr s' p'=>exact hr.np _ _ rfl
  | dat s' x' o=>cases o <;> simp[AV.at] at e
  | _=>simp[AV.at] at e
 ·intro l te he;obtain⟨rfl,l',hl⟩:=qRA he;obtain⟨e,x,h1,h2⟩:=hr.own l' te hl;exact⟨rfl,e,x,by rw[h1];rfl,h2⟩
end
end
section
open Go.RowKit
variable {o:Oper} {Post:Act→World→Prop} {w':World}
section
def qh (P:Program) (o:Oper) (a:Act) (w:World) (Post:Act→World→Prop):Prop :=
 ∀ (K:Act→World→Prop) (Q:Exit→Act→World→Prop),(∀ a' w',Post a' w'→K a' w')→o.wp P a w K Q
theorem qh.value {v:Value} (h:(execOp a.eval o).run P w=.ok (.value v) w') (hp:Post (a.put o.dst v) w'):qh P o a w Post :=
 fun K Q hK=>by
  unfold Oper.wp;rw[h];exact hK _ _ hp
theorem qh.skip (h:(execOp a.eval o).run P w=.ok .skip w') (hp:Post (a.put o.dst undef) w'):qh P o a w Post :=
 fun K Q hK=>by
  unfold Oper.wp;rw[h];exact hK _ _ hp
theorem qh.enter {f:FuncId} {args:Array Value} (h:(execOp a.eval o).run P w=.ok (.enter f args) w)
 (hc:Calls P f args w fun e w'=>∃ v,e=.returned v∧Post (a.put o.dst v) w'):qh P o a w Post :=
 fun K Q hK=>by
  unfold Oper.wp;rw[h];exact hc.mono fun e w' ⟨v,he,hp⟩=>by subst he;exact hK _ _ hp
theorem qh.mono {Post':Act→World→Prop} (h:qh P o a w Post) (hp:∀ a' w',Post a' w'→Post' a' w'):qh P o a w Post' :=
 fun K Q hK=>h K Q fun _ _ h'=>hK _ _ (hp _ _ h')
def Ran (P:Program) (f:FuncId) (vals:Array Value) (w:World) (Post:Value→World→Prop):Prop :=
 ((callFunc f vals).run P w=.ok (.enter f vals) w∧Calls P f vals w fun e w'=>∃ v,e=.returned v∧Post v w') ∨
 ∃ v w',(callFunc f vals).run P w=.ok (.value v) w'∧Post v w'
def qaT (P:Program) (f:FuncId) (spec:List AV→Bool×AV) (w:World) (S:qa):Prop :=
 ∀ (vals:List Value) (avs:List AV) (r:AV),spec avs=(true,r)→(∀ b o,S b o→b < w.heap.size)→qav w S vals avs →
  Ran P f vals.toArray w fun v w'=>∃ S',Grew w S w' S'∧ResRd (· < w.heap.size) w' S' v r
def Sound (P:Program) (f:FuncId) (spec:List AV→Bool×AV):Prop:=∀ (w:World) (S:qa),qaT P f spec w S
def qcZ (G:World→qa→Prop) (P:Program) (f:FuncId) (spec:List AV→Bool×AV):Prop:=∀ (w:World) (S:qa),G w S→qaT P f spec w S
def Stays (G:World→qa→Prop):Prop:=∀ w S w' S',Keeps w S w' S'→G w S→G w' S'
def qoh (P:Program) (f:FuncId) (spec:List AV→Bool×AV) (w:World) (S:qa):Prop :=
 ∀ (Pr:Nat→Prop) (v0:Value) (vals:List Value) (avs:List AV) (e:Sh) (x r:List (Den e)) (te:TypeId) (k:Nat),
  spec (.dat (.sl e) x (some (0,te)) :: avs)=(true,.dat (.sl e) r (some (k,te)))→(∀ b o,S b o→b < w.heap.size)→(∀ k,Pr k→k < w.heap.size) →
  Rd w S v0 (.dat (.sl e) x none)→qcb w S Pr te e v0 x→qav w S vals avs →
  Ran P f (v0 :: vals).toArray w fun v w'=>∃ S',w.grownBy w' v0.ownBlock∧Keeps w S w' S'∧(∀ b o,b < w.heap.size→v0.ownBlock≠some b→(S' b o↔S b o))∧(∀ b o,S' b o→b < w'.heap.size) ∧
   Rd w' S' v (.dat (.sl e) r none)∧qcb w' S' Pr te e v r∧∀ b,v.ownBlock=some b→v0.ownBlock=some b∨w.heap.size≤b
def qlR (P:Program) (f:FuncId) (spec:List AV→Bool×AV):Prop:=∀ (w:World) (S:qa),qoh P f spec w S
def FnsOk (P:Program) (E:Env) (w:World) (S:qa):Prop:=(∀ f,qaT P f (E.fns f) w S)∧∀ f sp,E.cns f=some sp→qoh P f sp w S
theorem qfD (h:R base w0 S0 S fr a w):∀ (xs:List Operand) (ts:List TypeId) (vs:List AV),xs.length=ts.length→argsV E fr true xs ts=(true,vs)→qav w S (xs.map a.eval) vs
 | [],[],vs,_,he=>by
  simp only[argsV,yb,true_and] at he;subst he;exact⟨rfl,fun i v av hv=>by simp at hv⟩
 | x :: xs,t :: ts,vs,hl,he=>by
  simp only[argsV] at he;cases h1:rdo E fr true t x with
  | mk ok v =>
   cases h2:argsV E fr true xs ts with
   | mk oks vs' =>
    rw[h1,h2] at he;simp only[yb,yf] at he;obtain⟨⟨rfl,rfl⟩,rfl⟩:=he;have hr:=qfD h xs ts vs' (by simpa using hl) h2;refine⟨by simp[hr.1],fun i u av hu hav=>?_⟩;cases i with
    | zero =>
     simp only[yI,y3,ya] at hu hav;subst hu;subst hav;exact(qt h h1).1.strip
    | succ i =>
     simp only[yI,yZ] at hu hav;exact hr.2 i u av hu hav
 | [],_ :: _,_,hl,_=>by simp at hl
 | _ :: _,[],_,hl,_=>by simp at hl
end
end
section
open Go.RowKit
theorem qkv (z:Array Value) (n:Nat):(madeCells z ((n+1)*z.size)).toList=(madeCells z (n*z.size)).toList++z.toList:=by
 apply List.ext_getElem?
 intro i;have hget:∀ m j,(madeCells z m).toList[j]? = if j < m then some z[j % z.size]! else none:=fun m j=>by
  simp only[madeCells,Array.toList_map,Array.toList_range,List.getElem?_map]
  by_cases h:j < m
  ·rw[if_pos h,List.getElem?_range h];rfl
  ·rw[if_neg h,yW (by simp;omega)];rfl
 rw[hget,List.getElem?_append];have hlen:(madeCells z (n*z.size)).toList.length=n*z.size:=by simp[size_madeCells]
 rw[hlen,hget]
 by_cases h1:i < n*z.size
 ·rw[if_pos (by rw[Nat.add_mul];omega),if_pos h1,if_pos h1]
 ·rw[if_neg h1]
  by_cases h2:i < (n+1)*z.size
  ·rw[if_pos h2];rw[Nat.add_mul,Nat.one_mul] at h2;have hlt:i - n*z.size < z.size:=by omega
   have hmod:i % z.size=i - n*z.size:=by
    have:i=(i - n*z.size)+z.size*n:=by rw[Nat.mul_comm z.size n];omega
    rw[this,Nat.add_mul_mod_self_left,Nat.mod_eq_of_lt (by omega)];omega
   rw[hmod];simp[hlt]
  ·rw[if_neg h2];rw[Nat.add_mul,Nat.one_mul] at h2;rw[yW (by simp;omega)]
theorem qfE {α:Type} {R:α→List Value→Prop} {z:Array Value} {x:α} (h:R x z.toList):∀ n,qd R (List.replicate n x) (madeCells z (n*z.size)).toList
 | 0=>by
  show _=_;rw[Nat.zero_mul];simp[madeCells]
 | n+1=>by
  rw[qkv,List.replicate_succ'];exact(qfE h n).append (qd.single h)
theorem qeH:∀ (vs:List Value) (k off:Nat) (cells:Array Value),off+k+vs.length≤cells.size →
 ((vs.zipIdx k).foldl (fun cs (p:Value×Nat)=>cs.setIfInBounds (off+p.2) p.1) cells).toList=cells.toList.take (off+k)++vs++cells.toList.drop (off+k+vs.length)
 | [],k,off,cells,_=>by simp
 | v :: vs,k,off,cells,h=>by
  simp only[yg] at h;simp only[List.zipIdx_cons,List.foldl_cons];rw[qeH vs (k+1) off _ (by simp;omega)];have hlt:off+k < cells.toList.length:=by simp;omega
  have e1:(cells.setIfInBounds (off+k) v).toList=cells.toList.set (off+k) v:=by simp
  rw[e1,List.set_eq_take_append_cons_drop,if_pos hlt];have hl:(List.take (off+k) cells.toList).length=off+k:=by simp;omega
  rw[show off+(k+1)=(off+k)+1 by omega];rw[List.take_append,List.drop_append,hl];rw[List.take_of_length_le (l:=List.take (off+k) cells.toList) (by omega)];rw[show off+k+1 - (off+k)=1 by omega];rw[yA (as:=List.take (off+k) cells.toList) (by omega)];rw[show off+k+1+vs.length - (off+k)=vs.length+1 by omega];simp only[List.take_succ_cons,List.take_zero,List.drop_succ_cons,List.drop_drop,List.nil_append,yl,List.cons_append,yg];rw[show off+k+1+vs.length=off+k+(vs.length+1) by omega]
theorem qd.set {α:Type} {R:α→List Value→Prop} {k:Nat} (hR:∀ x vs,R x vs→vs.length=k) {l:List α} {cs:List Value} (h:qd R l cs) {i:Nat} (hi:i < l.length) {y:α} {vs:List Value} (hy:R y vs) :
 qd R (l.set i y) (cs.take (i*k)++vs++cs.drop (i*k+k)):=by
 rw[List.set_eq_take_append_cons_drop,if_pos hi];have h1:=qd.take hR i h (Nat.le_of_lt hi);have h2:=qd.drop hR (i+1) h (by omega);rw[Nat.add_mul,Nat.one_mul] at h2;rw[yl];exact h1.append ⟨vs,_,rfl,hy,h2⟩
section
theorem qdb {s:Sh} {x:Den s} {o:Lab} {v:Value} (h:Rd w S v (.dat s x o)):RdC w S s x v.cells.toList:=by
 cases h with
 | dat _ _ _ _ h=>exact h.cells
theorem qok (h:R base w0 S0 S fr a w) {e:Sh} {te:TypeId}:∀ (parts:List (Nat×Operand)) (l l':List (Den e)) (cells:Array Value),qd (RdC w S e) l cells.toList →
 qmm E fr true e te parts l=some (true,l') →
 ∃ cells',Instr.fill (fun i=>some (i*e.size,e.size)) cells (parts.map fun p=>(p.1,a.eval p.2))=some cells'∧qd (RdC w S e) l' cells'.toList∧l'.length=l.length
 | [],l,l',cells,hc,he=>by
  simp only[qmm,ya,yb,true_and] at he;subst he;exact⟨cells,rfl,hc,rfl⟩
 | (i,p) :: r,l,l',cells,hc,he=>by
  simp only[qmm] at he;cases h1:rdo E fr true te p with
  | mk ok v =>
   rw[h1] at he;cases v with
   | dat u y o =>
    simp only at he;split at he
    ·rename_i hu;obtain⟨rfl,hi⟩:=hu;split at he
     ·rename_i ok' z h2;simp only[ya,yb,yf] at he;obtain⟨⟨rfl,rfl⟩,rfl⟩:=he;have hy:=qdb (qt h h1).1;have hyl:=RdC.length _ _ _ hy;have hlen:=qd.length (RdC.length u) hc;have hfit:i*u.size+u.size≤l.length*u.size:=by
       have:=yC u.size (show i+1≤l.length by omega);rw[Nat.add_mul,Nat.one_mul] at this;exact this
      have hcs:cells.size=l.length*u.size:=by simpa using hlen
      have hvs:(a.eval p).cells.size=u.size:=by simpa using hyl
      have hset:=qeH (a.eval p).cells.toList 0 (i*u.size) cells (by simp;omega);simp only[Nat.add_zero,hyl] at hset;have hch:=qd.set (RdC.length u) hc hi hy;obtain⟨cells',k1,k2,k3⟩:=qok h r (l.set i y) _ (((a.eval p).cells.zipIdx.foldl (fun cs (q:Value×Nat)=>cs.setIfInBounds (i*u.size+q.2) q.1) cells)) (by
       rw[← Array.foldl_toList,Array.toList_zipIdx,hset];exact hch) h2
      refine⟨cells',?_,k2,by rw[k3,List.length_set]⟩;simp only[yI,Instr.fill];rw[if_neg (by simp only[hvs];simp;omega)];exact k1
     ·cases he
    ·cases he
   | _=>simp at he
theorem qK (w:World) (o:Obj):Below w.heap.size w (w.alloc o):=(Below.refl _ _).alloc (yv _) o
theorem qeI (hS:∀ b o,S b o→b < w.heap.size) (o:Obj) (n:Nat):Grew w S (w.alloc o) (fun b k=>S b k∨(b=w.heap.size∧k < n)) where
 below:=qK w o
 old:=fun b k hb=>⟨fun h=>h.elim id (fun h=>absurd h.1 (by omega)),.inl⟩
 lt:=fun b k h=>by
  have:(w.alloc o).heap.size=w.heap.size+1:=by simp
  rcases h with h | h
  ·have:=hS b k h;omega
  ·omega
theorem qqG (hS:∀ b o,S b o→b < w.heap.size) {e:Sh} {l:List (Den e)} {cells:Array Value} {te:TypeId} {n cap:Nat} (hn:n=l.length) (hcap:n≤cap) (hmax:cap≤maxLen) (hsz:cells.size=cap*e.size)
 (hc:qd (RdC w S e) l (cells.toList.take (n*e.size))) (k:Nat) :
 ResRd (· < w.heap.size) (w.alloc (.cells cells te)) (fun b o=>S b o∨(b=w.heap.size∧o < n*e.size)) (.slice (some ⟨w.heap.size,0,none⟩) n cap) (.dat (.sl e) l (some (k,te))):=by
 subst hn;have g:=qeI hS (.cells cells te) (l.length*e.size);have hk:=g.keeps hS;have hc':qd (RdC (w.alloc (.cells cells te)) (fun b o=>S b o∨(b=w.heap.size∧o < l.length*e.size)) e) l (cells.toList.take (l.length*e.size)):=hc.mono (RdC.keeps hk e);have hheap:(w.alloc (.cells cells te)).heap[w.heap.size]? = some (.cells cells te (0,0)):=heap_alloc_new w _;refine⟨qcc _ rfl hcap hc' (fun _=>⟨_,rfl,rfl,fun i v hv=>⟨.inr ⟨rfl,?_⟩,?_⟩⟩),fun _ _ e=>(by cases e),fun _ _ e=>(by cases e),fun l' te' he=>?_⟩
 ·have:=(List.getElem?_eq_some_iff.1 hv).1;simp only[yz] at this;simp only[yE];omega
 ·have hv':cells.toList[i]? = some v:=by
   rw[List.getElem?_take] at hv;split at hv
   ·exact hv
   ·cases hv
  simp only[World.cell?,hheap,Option.isSome_none,yq,if_false,yE];simpa using hv'
 ·simp only[AV.lab,ya,yb] at he;obtain⟨rfl,rfl⟩:=he;refine⟨e,l,rfl,cells.toList.take (l.length*e.size),⟨?_,.inr ⟨w.heap.size,cap,cells,rfl,Nat.zero_le _,hheap,hcap,hmax,hsz,rfl⟩⟩,hc',fun b hb o=>?_,fun b hb hp=>by
   simp only[Value.ownBlock,ya] at hb;subst hb;exact absurd hp (Nat.lt_irrefl _)⟩
  ·have:l.length*e.size≤cap*e.size:=yC _ hcap;rw[yz];have h2:cells.toList.length=cap*e.size:=by simpa using hsz
   rw[h2];exact Nat.min_eq_left this
  ·simp only[Value.ownBlock,ya] at hb;subst hb;constructor
   ·intro h;rcases h with h | h
    ·have:=hS _ _ h;omega
    ·exact h.2
   ·intro h;exact .inr ⟨rfl,h⟩
theorem qkw (h:R base w0 S0 S fr a w) (hT:TyOk P E) {t:TypeId} {n:Nat} {parts:Array (Nat×Operand)} {e:Sh} {l:List (Den e)} (hs:(E.ti t).sh=some (.sl e))
 (hb:qmm E fr true e (E.ti t).el parts.toList (List.replicate n (dflt e))=some (true,l)) (hle:n*e.size≤65536) :
 ∃ cells,(Instr.buildSlice t n (parts.map fun (i,x)=>(i,a.eval x))).run P w=.ok (.slice (some ⟨w.heap.size,0,none⟩) n n) (w.alloc (.cells cells (E.ti t).el)) ∧
  cells.size=n*e.size∧qd (RdC w S e) l cells.toList∧l.length=n:=by
 obtain⟨te,hd,hte,hpos,rfl⟩:=(hT t _ hs).desc;obtain⟨i,z,hi,hsz,_,hz,hrd⟩:=(hT _ _ hte).info;have hzs:z.cells.size=e.size:=by have:=RdC.length _ _ _ (hrd w S).cells;simpa using this
 have hch:qd (RdC w S e) (List.replicate n (dflt e)) (madeCells z.cells (n*e.size)).toList:=by
  rw[← hzs];exact qfE (hrd w S).cells n
 obtain⟨cells,k1,k2,k3⟩:=qok h parts.toList _ _ _ hch hb;have hlen:=qd.length (RdC.length e) k2;have hl:l.length=n:=by rw[k3,List.length_replicate]
 refine⟨cells,?_,by rw[hl] at hlen;simpa using hlen,k2,hl⟩;have e2:(parts.map fun (i,x)=>(i,a.eval x)).toList=parts.toList.map fun p=>(p.1,a.eval p.2):=by
  rw[Array.toList_map]
 unfold Instr.buildSlice;rw[yh,yr hd,ye];simp only;rw[yh,(hT _ _ hte).sizeOf,ye];rw[if_neg (by omega)];have e2':(Array.map (fun x:Nat×Operand=>(x.fst,a.eval x.snd)) parts).toList=parts.toList.map fun p=>(p.1,a.eval p.2):=e2
 by_cases h0:n*e.size=0
 ·have hm:Array.map (fun x=>(#[]:Array Value)[x % (#[]:Array Value).size]!) (Array.range (n*e.size))=madeCells z.cells (n*e.size):=by rw[h0];simp[madeCells]
  rw[if_pos h0];simp only[yh,yu,ye];rw[hm,e2',k1];simp[newRow]
 ·rw[if_neg h0];simp only[yh,yu,ye,zeroValue,typeInfo,program,Sem.run,hi,hz];rw[show Array.map (fun x=>z.cells[x % z.cells.size]!) (Array.range (n*e.size))=madeCells z.cells (n*e.size) from rfl,e2',k1];simp[newRow]
end
end
section
open Go.RowKit
variable {t:TypeId} {s:Sh}
theorem qkx {w:World} {S:qa}:∀ (s:Sh) (x:Den s) (i:Nat) (u:Sh) (y:Den u) (x':Den s) (cs vs:List Value),RdC w S s x cs→qfS s x i u y=some x'→RdC w S u y vs →
 s.fld i=some u∧RdC w S s x' (cs.take (qP s i)++vs++cs.drop (qP s i+u.size))∧qP s i+u.size≤s.size
 | .pair a b,x,0,u,y,x',cs,vs,h,hg,hy=>by
  simp only[qfS] at hg;split at hg
  ·rename_i hu;subst hu;simp only[ya] at hg;subst hg;simp only[RdC] at h ⊢;obtain⟨v1,v2,rfl,h1,h2⟩:=h;refine⟨rfl,⟨vs,v2,?_,hy,h2⟩,by simp[qP,Sh.size]⟩;have hl:=RdC.length u _ _ h1;simp only[qP,List.take_zero,List.nil_append,yE];rw[← hl,List.drop_left]
  ·cases hg
 | .pair a b,x,i+1,u,y,x',cs,vs,h,hg,hy=>by
  simp only[qfS,Option.map_eq_some_iff] at hg;obtain⟨z,hz,rfl⟩:=hg;simp only[RdC] at h ⊢;obtain⟨v1,v2,rfl,h1,h2⟩:=h;obtain⟨k1,k2,k3⟩:=qkx b x.2 i u y z v2 vs h2 hz hy;have hl:=RdC.length a _ _ h1;refine⟨by simpa only[Sh.fld] using k1,⟨v1,_,?_,h1,k2⟩,by simp only[qP,Sh.size];omega⟩;simp only[qP];rw[← hl,List.take_length_add_append,yS,List.drop_length_add_append];simp only[yl]
 | .bool,_,_,_,_,_,_,_,_,hg,_=>by simp[qfS] at hg
 | .byte,_,_,_,_,_,_,_,_,hg,_=>by simp[qfS] at hg
 | .int _,_,_,_,_,_,_,_,_,hg,_=>by simp[qfS] at hg
 | .str,_,_,_,_,_,_,_,_,hg,_=>by simp[qfS] at hg
 | .sl _,_,_,_,_,_,_,_,_,hg,_=>by simp[qfS] at hg
 | .unit,_,_,_,_,_,_,_,_,hg,_=>by simp[qfS] at hg
 | .arr _ _,_,_,_,_,_,_,_,_,hg,_=>by simp[qfS] at hg
theorem qky {P:Program} {α β:Type} (f:α→Sem β) (g:α→β) (w:World):∀ (l:List α),(∀ x∈l,(f x).run P w=.ok (g x) w)→(l.mapM f).run P w=.ok (l.map g) w
 | [],_=>by simp[yu]
 | x :: l,h=>by
  rw[List.mapM_cons,yh,h x (by simp),ye,yh,qky f g w l (fun y hy=>h y (by simp[hy])),ye];rfl
section
theorem qvj (h:R base w0 S0 S fr a w) {s:Sh} {t:TypeId} {places:Nat→Option (Nat×Nat)} (hp:∀ i u,s.fld i=some u→places i=some (qP s i,u.size)):∀ (parts:List (Nat×Operand)) (x x':Den s) (cells:Array Value),
 RdC w S s x cells.toList→qtO E fr true s t parts x=some (true,x') →
 ∃ cells',Instr.fill places cells (parts.map fun p=>(p.1,a.eval p.2))=some cells'∧RdC w S s x' cells'.toList
 | [],x,x',cells,hc,he=>by
  simp only[qtO,ya,yb,true_and] at he;subst he;exact⟨cells,rfl,hc⟩
 | (i,p) :: r,x,x',cells,hc,he=>by
  simp only[qtO] at he;cases h1:rdo E fr true t p with
  | mk ok v =>
   rw[h1] at he;cases v with
   | dat u y o =>
    simp only at he;split at he
    ·rename_i x1 hset;split at he
     ·rename_i ok' z h2;simp only[ya,yb,yf] at he;obtain⟨⟨rfl,rfl⟩,rfl⟩:=he;have hy:=qdb (qt h h1).1;have hyl:=RdC.length _ _ _ hy;have hlen:=RdC.length _ _ _ hc;obtain⟨k1,k2,k3⟩:=qkx s x i u y x1 _ _ hc hset hy;have hcs:cells.size=s.size:=by simpa using hlen
      have hvs:(a.eval p).cells.size=u.size:=by simpa using hyl
      have hst:=qeH (a.eval p).cells.toList 0 (qP s i) cells (by simp;omega);simp only[Nat.add_zero,hyl] at hst;obtain⟨cells',j1,j2⟩:=qvj h hp r x1 _ (((a.eval p).cells.zipIdx.foldl (fun cs (q:Value×Nat)=>cs.setIfInBounds (qP s i+q.2) q.1) cells)) (by
       rw[← Array.foldl_toList,Array.toList_zipIdx,hst];exact k2) h2
      refine⟨cells',?_,j2⟩;simp only[yI,Instr.fill,hp i u k1];rw[if_neg (by simp only[hvs];simp;omega)];exact j1
     ·cases he
    ·cases he
   | _=>simp at he
theorem qBf (h:R base w0 S0 S fr a w) (hT:TyOk P E) {parts:Array (Nat×Operand)} {x:Den s} (hs:(E.ti t).sh=some s) (hag:s.agg=true)
 (hb:qtO E fr true s t parts.toList (dflt s)=some (true,x)) (hna:∀ n e,s≠.arr n e) :
 ∃ cells,(Instr.build t (parts.map fun (i,x)=>(i,a.eval x))).run P w=.ok (.agg cells) w∧RdC w S s x cells.toList:=by
 obtain⟨i,z,hi,hsz,_,hz,hrd⟩:=(hT t _ hs).info;have hd:=(hT t s hs).desc;have hst:∃ fs,P.underlying t=some (.struct fs)∧(∀ (i:Nat) (g:Field),fs[i]? = some g→g.offset=qP s i∧(E.ti g.type).sh=s.fld i∧(s.fld i).isSome=true)∧∀ i u,s.fld i=some u→∃ g:Field,fs[i]? = some g:=by
  cases s with
  | arr n e=>exact absurd rfl (hna n e)
  | unit=>exact hd
  | pair _ _=>exact hd
  | _=>exact absurd hag (by simp[Sh.agg])
 obtain⟨fs,hfs,hf1,hf2⟩:=hst;have hall:∀ f∈fs.toList,∃ u,(E.ti f.type).sh=some u:=fun f hf=>by
  obtain⟨i,hi,rfl⟩:=List.getElem_of_mem hf;have hi':fs[i]? = some fs.toList[i]:=by
   simp only[Array.length_toList] at hi;simp[hi]
  obtain⟨_,h2,h3⟩:=hf1 i _ hi';rw[h2];exact Option.isSome_iff_exists.1 h3
 let g:Field→Nat×Nat:=fun f=>(f.offset,match (E.ti f.type).sh with | some u=>u.size | none=>0)
 have hm:(fs.mapM (fun f=>do pure (f.offset,← Go.sizeOf f.type)):Sem (Array (Nat×Nat))).run P w=.ok (fs.map g) w:=by
  rw[Array.mapM_eq_mapM_toList];simp only[Sem.run_map];rw[qky _ g w fs.toList (fun f hf=>by
   obtain⟨u,hu⟩:=hall f hf;rw[yh,(hT _ _ hu).sizeOf,ye];simp only[g,hu];rfl)]
  rw[ye];congr 1;apply Array.ext';simp
 have hp:∀ i u,s.fld i=some u→(fs.map g)[i]? = some (qP s i,u.size):=fun i u hu=>by
  obtain⟨f,hf⟩:=hf2 i u hu;obtain⟨h1,h2,_⟩:=hf1 i f hf;rw[Array.getElem?_map,hf];simp only[yU,g,h1,h2,hu]
 obtain⟨cells,k1,k2⟩:=qvj h (places:=fun i=>(fs.map g)[i]?) hp parts.toList (dflt s) x z.cells (hrd w S).cells hb;refine⟨cells,?_,k2⟩;have e2:(Array.map (fun x:Nat×Operand=>(x.fst,a.eval x.snd)) parts).toList=parts.toList.map fun p=>(p.1,a.eval p.2):=by rw[Array.toList_map]
 unfold Instr.build;simp only[yh,zeroValue,typeInfo,program,Sem.run,hi,hz,yu,ye,yr hfs];rw[hm,ye,e2,k1];rfl
theorem qvk (hT:TyOk P E) (hs:(E.ti t).sh=some s) (hag:s.agg=true) (hna:∀ n e,s≠.arr n e) (w:World) :
 ∃ i z,P.info? t=some i∧i.zero=some z∧(Instr.build t #[]).run P w=.ok (.agg z.cells) w:=by
 obtain⟨i,z,hi,hsz,_,hz,_⟩:=(hT t _ hs).info;have hd:=(hT t s hs).desc;have hst:∃ fs,P.underlying t=some (.struct fs)∧(∀ (i:Nat) (g:Field),fs[i]? = some g→g.offset=qP s i∧(E.ti g.type).sh=s.fld i∧(s.fld i).isSome=true)∧∀ i u,s.fld i=some u→∃ g:Field,fs[i]? = some g:=by
  cases s with
  | arr n e=>exact absurd rfl (hna n e)
  | unit=>exact hd
  | pair _ _=>exact hd
  | _=>exact absurd hag (by simp[Sh.agg])
 obtain⟨fs,hfs,hf1,hf2⟩:=hst;have hall:∀ f∈fs.toList,∃ u,(E.ti f.type).sh=some u:=fun f hf=>by
  obtain⟨i,hi,rfl⟩:=List.getElem_of_mem hf;have hi':fs[i]? = some fs.toList[i]:=by
   simp only[Array.length_toList] at hi;simp[hi]
  obtain⟨_,h2,h3⟩:=hf1 i _ hi';rw[h2];exact Option.isSome_iff_exists.1 h3
 let g:Field→Nat×Nat:=fun f=>(f.offset,match (E.ti f.type).sh with | some u=>u.size | none=>0)
 have hm:(fs.mapM (fun f=>do pure (f.offset,← Go.sizeOf f.type)):Sem (Array (Nat×Nat))).run P w=.ok (fs.map g) w:=by
  rw[Array.mapM_eq_mapM_toList];simp only[Sem.run_map];rw[qky _ g w fs.toList (fun f hf=>by
   obtain⟨u,hu⟩:=hall f hf;rw[yh,(hT _ _ hu).sizeOf,ye];simp only[g,hu];rfl)]
  rw[ye];congr 1;apply Array.ext';simp
 refine⟨i,z,hi,hz,?_⟩;unfold Instr.build;simp only[yh,zeroValue,typeInfo,program,Sem.run,hi,hz,yu,ye,yr hfs];rw[hm,ye];rfl
theorem qvl (h:R base w0 S0 S fr a w) (hT:TyOk P E) {parts:Array (Nat×Operand)} {n:Nat} {e:Sh} {l:List (Den e)} (hs:(E.ti t).sh=some (.arr n e))
 (hb:qmm E fr true e (E.ti t).el parts.toList (List.replicate n (dflt e))=some (true,l)) :
 ∃ cells,(Instr.build t (parts.map fun (i,x)=>(i,a.eval x))).run P w=.ok (.agg cells) w∧RdC w S (.arr n e) l cells.toList:=by
 obtain⟨i,z,hi,hsz,_,hz,hrd⟩:=(hT t _ hs).info;obtain⟨te,hd,hte⟩:=(hT t _ hs).desc;have h0:=(hrd w S).cells;simp only[RdC,dflt] at h0;obtain⟨cells,k1,k2,k3⟩:=qok h parts.toList _ _ z.cells h0.2 hb;refine⟨cells,?_,by simp only[RdC];exact⟨by rw[k3,List.length_replicate],k2⟩⟩;have e2:(Array.map (fun x:Nat×Operand=>(x.fst,a.eval x.snd)) parts).toList=parts.toList.map fun p=>(p.1,a.eval p.2):=by rw[Array.toList_map]
 unfold Instr.build;simp only[yh,zeroValue,typeInfo,program,Sem.run,hi,hz,yu,ye,yr hd];rw[(hT te _ hte).sizeOf,ye,e2,k1];rfl
end
end
section
open Go.RowKit
variable {o:Oper} {vals:List Value} {avs:List AV}
section
def Made (w:World) (S:qa) (a:Act) (d:Option Nat) (v:AV) (a':Act) (w':World):Prop :=
 ∃ S' val,Grew w S w' S'∧ResRd (· < w.heap.size) w' S' val v∧a'=a.put d val
theorem qku (hS:∀ b o,S b o→b < w.heap.size):Grew w S w S:=⟨Below.refl _ _,fun _ _ _=>Iff.rfl,hS⟩
theorem qqD (h:R base w0 S0 S fr a w) {f:FuncId} {r:AV} {spec:List AV→Bool×AV} (hS:qaT P f spec w S)
 (hrun:(execOp a.eval o).run P w=(callFunc f vals.toArray).run P w) (hspec:spec avs=(true,r)) (hargs:qav w S vals avs):qh P o a w (Made w S a o.dst r):=by
 rcases hS vals avs r hspec h.slt hargs with ⟨h1,h2⟩ | ⟨v,w',h1,S',g,hr⟩
 ·exact qh.enter (hrun.trans h1) (h2.mono fun e w' ⟨v,he,S',g,hr⟩=>⟨v,he,S',v,g,hr,rfl⟩)
 ·exact qh.value (hrun.trans h1) ⟨S',v,g,hr,rfl⟩
theorem qlS {us:List Value} {bvs:List AV} (h:qav w S vals avs) (k:qav w S us bvs):qav w S (vals++us) (avs++bvs):=by
 refine⟨by simp[h.1,k.1],fun i v av hv hav=>?_⟩;rw[List.getElem?_append] at hv hav;split at hv
 ·rw[if_pos (by have:=h.1;omega)] at hav;exact h.2 i v av hv hav
 ·rw[if_neg (by have:=h.1;omega)] at hav;rw[h.1] at hv;exact k.2 _ v av hv hav
theorem qAZ (h:R base w0 S0 S fr a w) (hT:TyOk P E) {t ty:TypeId} {n m:Operand} {e:Sh} {k1 k2:IntKind} {l c:Int} {o1 o2:Lab} {dst:Option Nat} {pos:String} {after:Array Edge} {guard:Option (Nat×Bool)}
 (hs:(E.ti t).sh=some (.sl e)) (h1:rdo E fr true 0 n=(true,.dat (.int k1) l o1)) (h2:rdo E fr true 0 m=(true,.dat (.int k2) c o2)) (hbytes:(E.ti (E.ti t).el).bytes≤1024)
 (h0:0≤l) (hlc:l≤c) (hroom:c≤((room:Nat):Int)) :
 qh P ⟨dst,.makeSlice t n m,ty,pos,after,guard⟩ a w (Made w S a dst (.dat (.sl e) (List.replicate l.toNat (dflt e)) (some (0,(E.ti t).el)))):=by
 have hroom':c≤1073741824:=hroom;clear hroom;obtain⟨te,hd,hte,hpos,rfl⟩:=(hT t _ hs).desc;obtain⟨i,z,hi,hsz,hby,hz,hrd⟩:=(hT _ _ hte).info;have hzs:z.cells.size=e.size:=by have:=RdC.length _ _ _ (hrd w S).cells;simpa using this
 have en:=qaL (qt h h1).1;have em:=qaL (qt h h2).1;have hb:(i.bytes:Int)*c≤281474976710656:=by
  rw[hby];have h3:((E.ti (E.ti t).el).bytes:Int)≤1024:=by omega
  have h4:=Int.mul_le_mul h3 hroom' (by omega) (by omega);omega
 have hr:=run_make (P:=P) w t _ i z hd hi hz k1 k2 l c h0 hlc hb (by omega);rw[hsz,← hzs] at hr;have hch:qd (RdC w S e) (List.replicate l.toNat (dflt e)) ((madeCells z.cells (c.toNat*z.cells.size)).toList.take (l.toNat*e.size)):=by
  have h5:=qd.take (RdC.length e) l.toNat (qfE (hrd w S).cells c.toNat) (by simp;omega);rw[List.take_replicate,Nat.min_eq_left (by omega)] at h5;exact h5
 refine qh.value (run_v (w:=w) (val:=.slice (some ⟨w.heap.size,0,none⟩) l.toNat c.toNat) ?_) ⟨_,_,qeI h.slt _ (l.toNat*e.size),qqG h.slt (by simp) (by omega) (by unfold maxLen;omega) (by rw[size_madeCells,hzs]) hch 0,rfl⟩;rw[en,em];exact hr
theorem qMX (h:R base w0 S0 S fr a w) (hT:TyOk P E) (hF:FnsOk P E w S) {v:AV} (he:eff E fr true o=some (true,v)):qh P o a w (Made w S a o.dst v):=by
 obtain⟨dst,op,ty,pos,after,guard⟩:=o;unfold eff at he;split at he
 ·
  rename_i c hop;simp only at hop;subst hop;obtain⟨callee,args,argTypes⟩:=c;split at he
  ·rename_i f hc;simp only at hc;subst hc;split at he
   ·cases he
   cases h1:argsV E fr true args.toList argTypes.toList with
   | mk ok vs =>
    cases h2:E.fns f vs with
    | mk pre r =>
     rw[h1] at he;simp only[h2,ya,yb,yf,ym] at he;obtain⟨⟨⟨rfl,rfl⟩,hsz⟩,rfl⟩:=he;have ha:=qfD h _ _ _ (by simpa using hsz) h1;refine qqD h (hF.1 f) ?_ h2 ha;have e1:args.map a.eval=(args.toList.map a.eval).toArray:=by apply Array.ext';simp
     simp only[execOp,resolve,yh,Deferred.ofValue,Act.eval,yu,ye,invoke,Array.append_empty,Array.empty_append,e1]
  ·rename_i x hc;simp only at hc;subst hc;split at he
   ·rename_i okf f caps ok vs h0 h1;cases h2:E.fns f (vs++caps.map AV.strip) with
    | mk pre r =>
     simp only[h2,ya,yb,yf,ym] at he;obtain⟨⟨⟨⟨rfl,rfl⟩,rfl⟩,hsz⟩,rfl⟩:=he;have ha:=qfD h _ _ _ (by simpa using hsz) h1;have hf:=(qt h h0).1;have hf':∃ us:Array Value,a.eval (.tmp x)=.func (.func f) #[] us∧qav w S us.toList (caps.map AV.strip):=by
      generalize a.eval (.tmp x)=u at hf;cases hf with
      | fn _ us _ hl hr =>
       refine⟨us,rfl,by simp[hl],fun i v av hv hav=>?_⟩;rw[List.getElem?_map,Option.map_eq_some_iff] at hav;obtain⟨av',hav,rfl⟩:=hav;have hu:=hr i av' hav;have:us.getD i undef=v:=by
        have hv':us[i]? = some v:=by simpa using hv
        obtain⟨hlt,e⟩:=Array.getElem?_eq_some_iff.1 hv';unfold Array.getD;rw[dif_pos hlt];exact e
       rw[this] at hu;exact hu.strip
     obtain⟨us,hu,hcap⟩:=hf';refine qqD h (hF.1 f) ?_ h2 (qlS ha hcap);have e1:args.map a.eval++us=(args.toList.map a.eval++us.toList).toArray:=by apply Array.ext';simp
     simp only[execOp,resolve,yh,hu,Deferred.ofValue,yu,ye,invoke,Array.empty_append,e1]
   ·cases he
  ·cases he
 ·
  rename_i t n parts hop;simp only at hop;subst hop;split at he
  ·rename_i e hs;split at he
   ·rename_i ok l hb;split at he
    ·rename_i hle;simp only[ya,yb] at he;obtain⟨rfl,rfl⟩:=he;obtain⟨cells,k1,k2,k3,k4⟩:=qkw h hT hs hb hle;obtain⟨te,hd,hte,hpos,_⟩:=(hT t _ hs).desc;have hn:n≤65536:=by
      have:=Nat.mul_le_mul_left n (show 1≤e.size by omega);omega
     have hl2:cells.toList.length=n*e.size:=by simpa using k2
     refine qh.value (run_v k1) ⟨_,_,qeI h.slt _ (n*e.size),qqG h.slt k4.symm (yv _) (by unfold maxLen;omega) k2 (by rw[← hl2,List.take_length];exact k3) 0,rfl⟩
    ·cases he
   ·cases he
  ·cases he
 ·
  rename_i t n m hop;simp only at hop;subst hop;split at he
  ·rename_i e okn k1 l o1 okm k2 c o2 hs h1 h2;split at he
   ·rename_i hbytes;simp only[ya,yb,yf,ym] at he;obtain⟨⟨⟨⟨⟨rfl,rfl⟩,h0⟩,hlc⟩,hroom⟩,rfl⟩:=he;obtain⟨te,hd,hte,hpos,rfl⟩:=(hT t _ hs).desc;obtain⟨i,z,hi,hsz,hby,hz,hrd⟩:=(hT _ _ hte).info;have hzs:z.cells.size=e.size:=by have:=RdC.length _ _ _ (hrd w S).cells;simpa using this
    have en:=qaL (qt h h1).1;have em:=qaL (qt h h2).1;exact qAZ h hT hs h1 h2 hbytes h0 hlc hroom
   ·cases he
  ·cases he
 ·
  rename_i t parts hop;simp only at hop;subst hop;split at he
  ·rename_i n e hs;split at he
   ·rename_i ok l hb;simp only[ya,yb] at he;obtain⟨rfl,rfl⟩:=he;obtain⟨cells,k1,k2⟩:=qvl h hT hs hb;refine qh.value (run_v k1) ⟨S,_,qku h.slt,⟨.dat _ _ _ _ ?_,fun _ _ e=>(by cases e),fun _ _ e=>(by cases e),fun _ _ e=>(by simp[AV.lab] at e)⟩,rfl⟩;unfold RdV;exact⟨cells,rfl,k2⟩
   ·cases he
  ·rename_i s hna hs;split at he
   ·rename_i hag;split at he
    ·rename_i ok x hb;simp only[ya,yb] at he;obtain⟨rfl,rfl⟩:=he;obtain⟨cells,k1,k2⟩:=qBf h hT hs hag.1 hb (fun n e hn=>by subst hn;exact absurd hag.2 (by simp[Sh.isArr]));refine qh.value (run_v k1) ⟨S,_,qku h.slt,⟨.dat _ _ _ _ ?_,fun _ _ e=>(by cases e),fun _ _ e=>(by cases e),fun _ _ e=>(by simp[AV.lab] at e)⟩,rfl⟩;unfold RdV;rw[if_pos hag.1];exact⟨cells,rfl,k2⟩
    ·cases he
   ·cases he
  ·cases he
 ·cases he
end
end
section
open Go.RowKit Go.Lib
variable {w':World} {d lb:Nat} {e:Sh} {te:TypeId} {v v':Value}
structure App (w:World) (base:Nat) (te:TypeId) (size:Nat) (v:Value) (n m:Nat) (xs news:List Value) (v':Value) (w':World):Prop where
 own:w'.ownsRow base te size v' (n+m) (xs++news)
 loc:(v'.ownBlock=v.ownBlock∧w.grownBy w' v.ownBlock)∨(v'.ownBlock=some w.heap.size∧Below w.heap.size w w')
theorem qeF {w:World} (h:w.grownBy w' none):Below w.heap.size w w':=⟨h.os,h.tape,h.output,h.size,fun k hk=>h.block k hk (by simp)⟩
theorem qX (w:World) (o:Obj):Below w.heap.size w (w.drew.alloc o):=((Below.refl _ _).drew).alloc (yv _) o
section
variable {P:Program} (w:World)
theorem qks (base:Nat) (t ty e:TypeId) (i:TypeInfo) (z:Value) (size bytes:Nat) (ht:P.underlying t=some (.slice e)) (hi:P.info? e=some i) (hz:i.zero=some z)
 (hsize:i.size=size) (hby:i.bytes=bytes) (hzs:z.cells.size=size) (hsz:0 < size)
 (v:Value) (n:Nat) (xs:List Value) (hown:w.ownsRow base e size v n xs)
 (a:Addr) (m c:Nat) (news:List Value) (hl:news.length=m*size) (hnews:∀ j u,news[j]? = some u→w.cell? (a.add j)=some u) (h1:∀ u∈news,u.oneCell'=true)
 (h63:n+m≤maxLen) (hbytes:(n+m)*bytes≤140737488355328) (hbase:base≤w.heap.size) :
 ∃ v' w',(Builtin.append_ #[t,t] ty #[v,.slice (some a) m c]).run P w=.ok v' w'∧App w base e size v n m xs news v' w':=by
 obtain⟨v',w',hr,h2,h3,h4,_⟩:=run_append_own_at (P:=P) w base t ty e i z size bytes ht hi hz hsize hby hzs hsz v n xs hown a m c news hl hnews h1 h63 hbytes hbase;refine⟨v',w',hr,h2,?_⟩;have hsmall:n+m≤9223372036854775807:=by simp only[maxLen] at h63;omega
 rcases hown.2 with ⟨rfl,rfl⟩ | ⟨g,cap,cur,rfl,hbg,hg,hnc,hcm,hcs,htake⟩
 ·by_cases hm:m=0
  ·have:=h4.2 ⟨rfl,hm⟩;subst this;exact .inl ⟨rfl,h3⟩
  ·have hx:=run_append_nil (P:=P) w t ty e i z ht hi hz a m c news (by rw[hsize];exact hl) hnews (by omega) (by omega) (by rw[hby];rw[yE] at hbytes;omega);rw[hx] at hr;simp only[Result.ok.injEq] at hr;obtain⟨rfl,rfl⟩:=hr;exact .inr ⟨rfl,qX w _⟩
 ·by_cases hroom:n+m≤cap
  ·have hfit:n*i.size+news.length≤cur.size:=by rw[hl,hcs,hsize,← Nat.add_mul];exact yC _ hroom
   have hx:=run_append_room (P:=P) w t ty e i ht hi g n cap cur hg a m c news (by rw[hsize];exact hl) hnews h1 hroom hfit;rw[hx] at hr;simp only[Result.ok.injEq] at hr;obtain⟨rfl,rfl⟩:=hr;exact .inl ⟨rfl,h3⟩
  ·have holds:∀ j u,xs[j]? = some u→w.cell? ((⟨g,0,none⟩:Addr).add j)=some u:=hown.cells (g:=g) rfl;have hx:=run_append_grow (P:=P) w t ty e i z ht hi hz ⟨g,0,none⟩ n cap xs (by rw[hsize];exact hown.1) holds a m c news (by rw[hsize];exact hl) hnews (by omega) (by omega) (by rw[hby];exact growslice_fits (by omega) hbytes);rw[hx] at hr;simp only[Result.ok.injEq] at hr;obtain⟨rfl,rfl⟩:=hr;exact .inr ⟨rfl,qX w _⟩
theorem qvb (base:Nat) (t ty e:TypeId) (i:TypeInfo) (size:Nat) (ht:P.underlying t=some (.slice e)) (hi:P.info? e=some i)
 (v:Value) (n:Nat) (xs:List Value) (hown:w.ownsRow base e size v n xs) (c:Nat) :
 (Builtin.append_ #[t,t] ty #[v,.slice none 0 c]).run P w=.ok v w∧App w base e size v n 0 xs [] v w:=by
 refine⟨?_,by simpa using hown,.inl ⟨rfl,World.grownBy.refl w _⟩⟩;rcases hown.2 with ⟨rfl,rfl⟩ | ⟨g,cap,cur,rfl,_,_,hnc,_⟩
 ·simp[Builtin.append_,yr ht,sizeOf,typeInfo,hi,Builtin.lenOf,Builtin.firstCells]
 ·simp[Builtin.append_,yr ht,sizeOf,typeInfo,hi,Builtin.lenOf,Builtin.firstCells,hnc,storeCells]
theorem qGG (base:Nat) (t u ty e:TypeId) (i:TypeInfo) (ht:P.underlying t=some (.slice e)) (hu:P.underlying u=some .string) (hi:P.info? e=some i) (hz:i.zero=some (.int .u8 0))
 (hsize:i.size=1) (hby:i.bytes=1) (v:Value) (n:Nat) (xs:List Value) (hown:w.ownsRow base e 1 v n xs) (s:ByteArray)
 (h63:n+s.size≤maxLen) (hbytes:n+s.size≤140737488355328) (hbase:base≤w.heap.size) :
 ∃ v' w',(Builtin.append_ #[t,u] ty #[v,.string s]).run P w=.ok v' w'∧App w base e 1 v n s.size xs (strCells s) v' w':=by
 obtain⟨v',w',hr,h2,h3,h4⟩:=run_append_own_string (P:=P) w base t u ty e i ht hu hi hz hsize hby v n xs hown s h63 hbytes hbase;refine⟨v',w',hr,h2,?_⟩;have hsmall:n+s.size≤9223372036854775807:=by simp only[maxLen] at h63;omega
 rcases hown.2 with ⟨rfl,rfl⟩ | ⟨g,cap,cur,rfl,hbg,hg,hnc,hcm,hcs,htake⟩
 ·by_cases hm:s.size=0
  ·have:=h4.2 ⟨rfl,hm⟩;subst this;exact .inl ⟨rfl,h3⟩
  ·have hx:=run_append_nil_string (P:=P) w t u ty e i (.int .u8 0) ht hu hi hz s (by omega) (by omega) (by rw[hby];omega);rw[hx] at hr;simp only[Result.ok.injEq] at hr;obtain⟨rfl,rfl⟩:=hr;exact .inr ⟨rfl,qX w _⟩
 ·by_cases hroom:n+s.size≤cap
  ·have hx:=run_append_room_string (P:=P) w t u ty e i ht hu hi hsize g n cap cur hg s hroom (by rw[Nat.mul_one] at hcs;omega);rw[hx] at hr;simp only[Result.ok.injEq] at hr;obtain⟨rfl,rfl⟩:=hr;exact .inl ⟨rfl,h3⟩
  ·have holds:∀ j u,xs[j]? = some u→w.cell? ((⟨g,0,none⟩:Addr).add j)=some u:=hown.cells (g:=g) rfl;have hx:=run_append_grow_string (P:=P) w t u ty e i (.int .u8 0) ht hu hi hz ⟨g,0,none⟩ n cap xs (by rw[hsize];exact hown.1) holds s (by omega) (by omega) (by rw[hby];exact growslice_fits (by omega) (by omega));rw[hx] at hr;simp only[Result.ok.injEq] at hr;obtain⟨rfl,rfl⟩:=hr;exact .inr ⟨rfl,qX w _⟩
end
section
theorem R.regained (h:R base w0 S0 S fr a w) (hd:d < a.tmps.size) {l r:List (Den e)} {S':qa}
 (hlb:fr lb=.dat (.sl e) l (some (lb,te))) (hv:a.tmps.getD lb undef=v) (hpr:∀ b,v.ownBlock=some b→¬ base b) (hgrown:w.grownBy w' v.ownBlock) (hkeep:Keeps w S w' S')
 (hS:∀ b o,b < w.heap.size→v.ownBlock≠some b→(S' b o↔S b o)) (hlt:∀ b o,S' b o→b < w'.heap.size)
 (hown':qcb w' S' base te e v' r) (hnew':∀ b,v'.ownBlock=some b→v.ownBlock=some b∨w.heap.size≤b) (hrd:Rd w' S' v' (.dat (.sl e) r (some (d,te)))) :
 R base w0 S0 S' ((fr.spend lb).put d (.dat (.sl e) r (some (d,te)))) (a.put (some d) v') w':=by
 have hsp:=h.spend lb;have hothers:∀ l' e',((fr.spend lb) l').lab=some (l',e')→∀ g,v.ownBlock=some g→(a.tmps.getD l' undef).ownBlock≠some g:=fun l' e' hl' g hg=>by
  obtain⟨h1,hne⟩:=qbv hl';exact h.dist lb l' te e' g (by rw[hlb];rfl) h1 (Ne.symm hne) (by rw[hv];exact hg)
 have hothers':∀ t e1 l',((fr.spend lb) t).lab=some (l',e1)→∀ g,v.ownBlock=some g→(a.tmps.getD t undef).ownBlock≠some g:=fun t e1 l' hl' g hg=>by
  have h1:=hsp.cp t l' e1 hl';rw[← h1.2];exact hothers l' e1 (hsp.lab_own hl') g hg
 have hboxes:∀ t s (x:Den s),(fr.spend lb) t=.box s x→∀ g,v.ownBlock=some g→a.tmps.getD t undef≠.pointer (some ⟨g,0,none⟩):=fun t s x hf g hg hc =>
  h.boxo t s x g lb te (qbQ hf) hc (by rw[hlb];rfl) (by rw[hv];exact hg)
 have hstep:R base w0 S0 S' (fr.spend lb) a w':=hsp.step hgrown hkeep hS hlt
  (fun g hg=>⟨hpr g hg,fun l' e' hl'=>hothers' _ _ _ hl' g hg,fun t s x hf=>hboxes t s x hf g hg⟩)
 refine hstep.put hd hrd ?_ ?_ ?_ ?_ ?_ ?_ ?_ ?_ ?_
 ·intro s x l' he;obtain⟨rfl,_⟩:=AV.dat.inj he;exact⟨e,rfl⟩
 ·intro l' e' he hne;simp only[AV.lab,ya,yb] at he;exact absurd he.1.symm hne
 ·intro e1 x te1 he;obtain⟨h4,h5,h6⟩:=AV.dat.inj he;obtain rfl:e=e1:=by simpa using h4
  obtain rfl:=eq_of_heq h5;simp only[ya,yb,true_and] at h6;subst h6;exact hown'
 ·intro te1 _ l' e' b hne hl' hb hc;rcases hnew' b hc with hb' | hge
  ·exact hothers' _ _ _ hl' b hb' hb
  ·have:=hsp.own_lt' hl' hb;omega
 ·intro s x he;cases he
 ·intro s x he;cases he
 ·intro s x he;cases he
 ·intro te1 _ t s x b hne hf hb hc;rcases hnew' b hc with hb' | hge
  ·exact hboxes t s x hf b hb' hb
  ·have:=hsp.box_lt hf hb;omega
 ·intro s p he;cases he
theorem R.appended (h:R base w0 S0 S fr a w) (hd:d < a.tmps.size) {l m:List (Den e)} {xs news:List Value}
 (hlb:fr lb=.dat (.sl e) l (some (lb,te))) (hv:a.tmps.getD lb undef=v) (hx:qcb w S base te e v l) (hxs:w.ownsRow 0 te e.size v l.length xs) (hch:qd (RdC w S e) l xs)
 (hnew:qd (RdC w S e) m news) (happ:App w 0 te e.size v l.length m.length xs news v' w') :
 ∃ S',R base w0 S0 S' ((fr.spend lb).put d (.dat (.sl e) (l++m) (some (d,te)))) (a.put (some d) v') w'∧Keeps w S w' S':=by
 let S':qa:=fun b o=>S b o∨(v'.ownBlock=some b∧o < (l++m).length*e.size)
 refine⟨S',?_⟩;obtain⟨xs',hxs',_,hst,hpr⟩:=hx;obtain⟨hown,hloc⟩:=happ;have hlen:(l++m).length=l.length+m.length:=by simp
 have hxl:xs.length=l.length*e.size:=hxs.1;have hle:l.length*e.size≤(l++m).length*e.size:=yC _ (by rw[hlen];omega);have hvb:∀ b,v.ownBlock=some b→¬ base b∧b < w.heap.size:=fun b hb=>⟨hpr b hb,(hxs.lt b hb).2⟩;have hvb':∀ b,v'.ownBlock=some b→¬ base b∧b < w'.heap.size:=fun b hb=>⟨by
  rcases hloc with ⟨e1,_⟩ | ⟨e1,_⟩
  ·exact hpr b (e1 ▸ hb)
  ·intro hp;rw[e1] at hb;have:=yp hb;have:=h.base_le b hp;omega,(hown.lt b hb).2⟩
 have hkeep:Keeps w S w' S':=by
  intro b o hs;refine⟨.inl hs,?_⟩;have hb:=h.slt b o hs;rcases hloc with ⟨e1,g⟩ | ⟨_,g⟩
  ·by_cases hbv:v.ownBlock=some b
   ·have ho:=(hst b hbv o).1 hs;have hget:xs[o]? = some xs[o]:=yO (by omega);have c1:=hxs.cells hbv o _ hget;have c2:=hown.cells (e1.trans hbv) o xs[o] (by rw[yM (by omega)];exact hget);rw[qdm _ _ rfl,yE] at c1 c2;rw[c1,c2]
   ·exact qj (g.block b hb (fun hc=>hbv hc.symm)) o
  ·exact qj (g.block b hb) o
 have hgrown:w.grownBy w' v.ownBlock:=by
  rcases hloc with ⟨_,g⟩ | ⟨_,g⟩
  ·exact g
  ·exact qbu g _
 have hS:∀ b o,b < w.heap.size→v.ownBlock≠some b→(S' b o↔S b o):=fun b o hb hne=>by
  refine⟨fun hs=>hs.elim id (fun hh=>?_),.inl⟩;rcases hloc with ⟨e1,_⟩ | ⟨e1,_⟩
  ·rw[e1] at hh;exact absurd hh.1 hne
  ·rw[e1] at hh;have:=yp hh.1;omega
 have hown':qcb w' S' base te e v' (l++m):=by
  refine⟨xs++news,by rw[hlen];exact hown,(hch.append hnew).mono (RdC.keeps hkeep e),fun b hb o=>?_,fun b hb=>(hvb' b hb).1⟩;constructor
  ·rintro (hs | hs)
   ·rcases hloc with ⟨e1,_⟩ | ⟨e1,_⟩
    ·exact yH ((hst b (e1 ▸ hb) o).1 hs) hle
    ·rw[e1] at hb;have:=yp hb;have:=h.slt b o hs;omega
   ·exact hs.2
  ·exact fun hs=>.inr ⟨hb,hs⟩
 have hnew':∀ b,v'.ownBlock=some b→v.ownBlock=some b∨w.heap.size≤b:=fun b hb=>by
  rcases hloc with ⟨e1,_⟩ | ⟨e1,_⟩
  ·exact .inl (e1 ▸ hb)
  ·exact .inr (by rw[e1] at hb;exact Nat.le_of_eq (yp hb))
 have hrd:Rd w' S' v' (.dat (.sl e) (l++m) (some (d,te))):=by
  rcases hown.2 with ⟨rfl,h0⟩ | ⟨g,cap,cur,rfl,hbg,hg,hnc,hcm,hcs,htake⟩
  ·have hnil:l++m=[]:=yF (by rw[hlen];exact h0);rw[hnil];exact qcc _ rfl (yv _) (cs:=[]) rfl (fun hh=>absurd rfl hh)
  ·refine qcc _ hlen.symm (by rw[hlen];exact hnc) ((hch.append hnew).mono (RdC.keeps hkeep e)) (fun _=>⟨_,rfl,rfl,fun i u hu=>⟨.inr ⟨rfl,?_⟩,?_⟩⟩)
   ·have h1:=(List.getElem?_eq_some_iff.1 hu).1;have h2:=hown.1;rw[← hlen] at h2;show 0+i < _;omega
   ·have c2:=hown.cells (g:=g) rfl i u hu;rw[qdm _ _ rfl] at c2;exact c2
 exact⟨h.regained hd hlb hv hpr hgrown hkeep hS (fun b o hs=>hs.elim (fun k=>yH (h.slt b o k) hgrown.size) (fun k=>(hvb' b k.1).2)) hown' hnew' hrd,hkeep⟩
end
end
end Go.Av
