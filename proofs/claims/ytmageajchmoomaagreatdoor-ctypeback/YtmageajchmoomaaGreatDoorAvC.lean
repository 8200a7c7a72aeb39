import Derived.Test.YtmageajchmoomaaGreatDoorAvB
namespace Go.Av
set_option linter.unusedSimpArgs false
set_option linter.unusedVariables false
variable {base:Nat→Prop} {w0 w:World} {S0 S:qa} {fr:Fr} {gv:Nat→Value} {a:Act} {F:Nat→Nat→Prop} {P:Program} {E:EnvP}
section
open Go.RowKit Go.Lib
variable {d t s n:Nat} {r:List PStep} {v:AV} {val:Value} {x:Operand} {ad:Bool} {p:PSh} {hh:Option (List PStep)}
section
theorem qcW (gv:Nat→Value) (a:Act) (d:Nat) (v:Value) (t:Nat) (hd:d < a.tmps.size):tv gv (a.put (some d) v) t=if t=d then v else tv gv a t:=by
 simp only[tv,Act.put]
 by_cases h:t=d
 ·subst h;simp[hd]
 ·rw[if_neg h];simp[Array.getElem?_setIfInBounds_ne (Ne.symm h)]
theorem qE (gv:Nat→Value) (a:Act) (t:Nat) (ht:t < a.tmps.size):tv gv a t=a.eval (.tmp t):=by
 simp only[tv,Act.eval,Array.getD,ht,dif_pos]
theorem qaW (fr:Fr) (d t:Nat):fr.sweep d t=fr t∨((fr t).vague=true∧(fr.sweep d t).vague=true):=by
 unfold Fr.sweep;split
 ·rename_i s r e;split
  ·right;rw[e];exact⟨rfl,rfl⟩
  ·left;exact e.symm
 ·rename_i s r e;split
  ·right;rw[e];exact⟨rfl,rfl⟩
  ·left;exact e.symm
 ·exact .inl rfl
theorem qaM (fr:Fr) (d t:Nat):(fr.sweep d t).isRoot=(fr t).isRoot∧((fr t).isRoot=true→fr.sweep d t=fr t):=by
 unfold Fr.sweep;split
 ·rename_i s r e;rw[e];split <;> exact⟨rfl,fun h=>by cases h⟩
 ·rename_i s r e;rw[e];split <;> exact⟨rfl,fun h=>by cases h⟩
 ·exact⟨rfl,fun _=>rfl⟩
theorem qcB {fr:Fr} (h:fr.sweep d t=.padr s r):fr t=.padr s r∧s≠d:=by
 unfold Fr.sweep at h;split at h
 ·rename_i s' r' e;split at h
  ·cases h
  ·rename_i hne;cases h;exact⟨e,hne⟩
 ·split at h <;> cases h
 ·rename_i h1 h2;exact absurd h (h1 s r)
theorem qcC {fr:Fr} (h:fr.sweep d t=.pval s r):fr t=.pval s r∧s≠d:=by
 unfold Fr.sweep at h;split at h
 ·split at h <;> cases h
 ·rename_i s' r' e;split at h
  ·cases h
  ·rename_i hne;cases h;exact⟨e,hne⟩
 ·rename_i h1 h2;exact absurd h (h2 s r)
theorem qqS (fr:Fr) (d t:Nat):fr.sweepK d t=fr t∨((fr t).vague=true∧(fr.sweepK d t).vague=true):=by
 unfold Fr.sweepK;split
 ·rename_i s r e;split
  ·split
   ·left;exact e.symm
   ·right;rw[e];exact⟨rfl,rfl⟩
  ·left;exact e.symm
 ·rename_i s r e;split
  ·right;rw[e];exact⟨rfl,rfl⟩
  ·left;exact e.symm
 ·exact .inl rfl
theorem qdB (fr:Fr) (d t:Nat):(fr.sweepK d t).isRoot=(fr t).isRoot∧((fr t).isRoot=true→fr.sweepK d t=fr t):=by
 unfold Fr.sweepK;split
 ·rename_i s r e;rw[e];split
  ·split <;> exact⟨rfl,fun h=>by cases h⟩
  ·exact⟨rfl,fun h=>by cases h⟩
 ·rename_i s r e;rw[e];split <;> exact⟨rfl,fun h=>by cases h⟩
 ·exact⟨rfl,fun _=>rfl⟩
theorem qeN {fr:Fr} (h:fr.sweepK d t=.padr s r):fr t=.padr s r∧(s≠d∨qaS r=true):=by
 unfold Fr.sweepK at h;split at h
 ·rename_i s' r' e;split at h
  ·split at h
   ·rename_i ht;cases h;exact⟨e,.inr ht⟩
   ·cases h
  ·rename_i hne;cases h;exact⟨e,.inl hne⟩
 ·split at h <;> cases h
 ·rename_i h1 h2;exact absurd h (h1 s r)
theorem qeO {fr:Fr} (h:fr.sweepK d t=.pval s r):fr t=.pval s r∧s≠d:=by
 unfold Fr.sweepK at h;split at h
 ·split at h
  ·split at h <;> cases h
  ·cases h
 ·rename_i s' r' e;split at h
  ·cases h
  ·rename_i hne;cases h;exact⟨e,hne⟩
 ·rename_i h1 h2;exact absurd h (h2 s r)
theorem qqT (v:AV) (d:Nat):(v.drop d).isRoot=v.isRoot∧(v.isRoot=true→v.drop d=v):=by
 cases v with
 | dat s x o=>exact⟨rfl,fun h=>by cases h⟩
 | badr s p=>simp only[AV.drop];split <;> exact⟨rfl,fun h=>by cases h⟩
 | clom f ss=>simp only[AV.drop];split <;> exact⟨rfl,fun h=>by cases h⟩
 | _=>exact⟨rfl,fun _=>rfl⟩
theorem qvD (h:v.drop d=.padr s r):v=.padr s r:=by
 cases v with
 | dat s x o=>cases h
 | badr s p=>simp only[AV.drop] at h;split at h <;> cases h
 | clom f ss=>simp only[AV.drop] at h;split at h <;> cases h
 | _=>exact h
theorem qvE (h:v.drop d=.pval s r):v=.pval s r:=by
 cases v with
 | dat s x o=>cases h
 | badr s p=>simp only[AV.drop] at h;split at h <;> cases h
 | clom f ss=>simp only[AV.drop] at h;split at h <;> cases h
 | _=>exact h
theorem qo (fr:Fr) (d:Nat) (v:AV):fr.putP d v d=v:=by simp[Fr.putP,Fr.put]
theorem qaz (fr:Fr) (d:Nat) (v:AV) (ht:t≠d):(fr.putP d v t).isRoot=(fr t).isRoot∧((fr t).isRoot=true→fr.putP d v t=fr t):=by
 unfold Fr.putP Fr.put;rw[if_neg ht];obtain⟨h1,h2⟩:=qaM fr d t;obtain⟨h3,h4⟩:=qqT (fr.sweep d t) d;exact⟨h3.trans h1,fun h=>(h4 (h1.trans h)).trans (h2 h)⟩
theorem qeo {fr:Fr} (h:fr.putP d v t=.padr s r) (ht:t≠d):fr t=.padr s r∧s≠d:=by
 unfold Fr.putP Fr.put at h;rw[if_neg ht] at h;exact qcB (qvD h)
theorem qep {fr:Fr} (h:fr.putP d v t=.pval s r) (ht:t≠d):fr t=.pval s r∧s≠d:=by
 unfold Fr.putP Fr.put at h;rw[if_neg ht] at h;exact qcC (qvE h)
theorem RP.rsweep (h:RP P base w0 S0 S fr gv a w F) (d:Nat):R (fun k=>base k∨∃ t,F t k) w S S (fr.sweep d) a w:=h.r.repriv (fun t=>qaW fr d t)
theorem RP.putV (h:RP P base w0 S0 S fr gv a w F) (hd:d < a.tmps.size) {S':qa} {w':World}
 (hr:R (fun k=>base k∨∃ t,F t k) w S S' ((fr.sweep d).put d v) (a.put (some d) val) w') (hroot:v.isRoot=false)
 (hadr:∀ s r,v=.padr s r→s≠d∧RefAt w' S' (fr s) (tv gv a s) r val (F s))
 (hval:∀ s r,v=.pval s r→s≠d∧∃ p x h c,IsRoot (fr s) (tv gv a s) p x h c∧ValAt w p c x r val (F s)) :
 RP P base w0 S0 S' (fr.putP d v) gv (a.put (some d) val) w' (fun t b=>t≠d∧F t b):=by
 have hb:∀ t b,F t b→w'.heap[b]? = w.heap[b]? := fun t b hF=>hr.below.block b (.inr ⟨t,hF⟩);have htv:∀ t,t≠d→tv gv (a.put (some d) val) t=tv gv a t:=fun t ht=>by rw[qcW gv a d val t hd,if_neg ht]
 have htd:tv gv (a.put (some d) val) d=val:=by rw[qcW gv a d val d hd,if_pos rfl]
 have hFs:∀ s,s≠d→(fun b=>s≠d∧F s b)=F s:=fun s hs=>funext fun b=>propext ⟨(·.2),fun hh=>⟨hs,hh⟩⟩;refine h.upd (fun t=>t=d) (hr.rebase (fun k hk=>hk.imp id (fun ⟨t,ht⟩=>⟨t,ht.2⟩))) ⟨hr.below.os,hr.below.tape,hr.below.output,hr.below.size,fun k hk=>hr.below.block k (.inl hk)⟩ (fun b o hB=>hr.old b o (.inl hB)) hr.kp
  (fun t ht b=>⟨(·.2),fun hh=>⟨ht,hh⟩⟩) (fun t b _ hF=>hb t b hF) (fun t b o _ hF=>hr.old b o (.inr ⟨t,hF⟩))
  (fun t ht=>?_) (fun t b ht hh=>absurd ht hh.1) (fun t t' b ht _ hh=>absurd ht hh.1) (fun t ht _ b hh=>absurd ht hh.1) (fun t ht hh=>?_) (fun t s r ht=>?_) (fun t s r ht=>?_)
 ·obtain⟨e1,e2⟩:=qaz fr d v ht;exact⟨e1,fun hh=>⟨e2 hh,htv t ht⟩⟩
 ·subst ht;rw[qo,hroot] at hh;cases hh
 ·by_cases htd':t=d
  ·subst htd';rw[qo] at ht;obtain⟨hs,h1⟩:=hadr s r ht;right;rw[(qaz fr t v hs).2 h1.isRoot,htv s hs,hFs s hs,htd];exact h1
  ·obtain⟨e1,e2⟩:=qeo ht htd';exact .inl ⟨e2,e1,htv t htd'⟩
 ·by_cases htd':t=d
  ·subst htd';rw[qo] at ht;obtain⟨hs,p,x,hh,c,h1,h2⟩:=hval s r ht;right;refine⟨p,x,hh,c,?_,?_⟩
   ·rw[(qaz fr t v hs).2 h1.isRoot,htv s hs];exact h1
   ·rw[hFs s hs,htd];exact h2.step (fun b hF=>hb s b hF)
  ·obtain⟨e1,e2⟩:=qep ht htd';exact .inl ⟨e2,e1,htv t htd'⟩
theorem RP.putPlain (h:RP P base w0 S0 S fr gv a w F) (hd:d < a.tmps.size) (hv:Rd w S val v) (hp:v.plain=true) (hroot:v.isRoot=false)
 (hadr:∀ s r,v=.padr s r→s≠d∧RefAt w S (fr s) (tv gv a s) r val (F s))
 (hval:∀ s r,v=.pval s r→s≠d∧∃ p x h c,IsRoot (fr s) (tv gv a s) p x h c∧ValAt w p c x r val (F s)) :
 RP P base w0 S0 S (fr.putP d v) gv (a.put (some d) val) w (fun t b=>t≠d∧F t b) :=
 h.putV hd ((h.rsweep d).put_plain hd hv hp) hroot hadr hval
theorem RP.putDat (h:RP P base w0 S0 S fr gv a w F) (hd:d < a.tmps.size) (hv:Rd w S val v) (hp:v.plain=true) (hpr:v.isPriv=false) :
 RP P base w0 S0 S (fr.putP d v) gv (a.put (some d) val) w (fun t b=>t≠d∧F t b):=by
 refine h.putPlain hd hv hp ?_ ?_ ?_
 ·cases v <;> first | rfl | (simp[AV.isPriv,AV.isRoot] at hpr)
 ·rintro s r rfl;cases hpr
 ·rintro s r rfl;cases hpr
theorem RP.place (h:RP P base w0 S0 S fr gv a w F) (hp:qax n fr x=some (ad,s,r)) :
 ∃ y,x=.tmp y∧y < n∧∃ p z hh c,IsRoot (fr s) (tv gv a s) p z hh c∧Root w S p z hh c (F s)∧(ad=true→AdrAt w S p c z r (tv gv a y) (F s))∧(ad=false→ValAt w p c z r (tv gv a y) (F s)):=by
 have getroot:∀ s,(∃ p z hh c,IsRoot (fr s) (tv gv a s) p z hh c)→∀ p z hh c,IsRoot (fr s) (tv gv a s) p z hh c→Root w S p z hh c (F s):=fun s _ p z hh c hi=>by
  have h1:=h.root s hi.isRoot;generalize hav:fr s=av at h1 hi;generalize hvv:tv gv a s=vv at h1 hi;cases h1 with
  | tree _ _ p' z' hh' c' k1 k2 =>
   obtain⟨e1,e2,e3,e4⟩:=hi.det k1;subst e1 e3 e4;obtain rfl:=eq_of_heq e2;exact k2
  | itr s0 pos b bs k1 k2 k3 k4=>cases hi
  | abs s0 V x0 _ k1 k2=>cases hi
 unfold qax at hp;split at hp
 ·rename_i y;split at hp
  ·cases hp
  rename_i hyn;refine⟨y,rfl,Nat.lt_of_not_le hyn,?_⟩;split at hp
  ·rename_i p z hh e;split at hp
   ·rename_i hsl;simp only[ya,yb] at hp;obtain⟨rfl,rfl,rfl⟩:=hp;have h1:=h.root y (by rw[e];rfl);rw[e] at h1;generalize hvv:tv gv a y=vv at h1;cases h1 with
    | tree _ _ p' z' hh' c' k1 k2 =>
     cases k1 with
     | pv _ _ _ _ hv =>
      refine⟨p,z,hh,.val vv,by rw[e];exact .pv p z hh vv hv,k2,(fun e=>by cases e),fun _=>?_⟩;have hc0:∀ p:PSh,p.isSl=true→∀ z:Den p.sh,getPP p z []=some ⟨p,z⟩∧locP w p (.val vv) []=some (p,.val vv)∧qC w p (.val vv) []=[]∧inPP p z []:=fun p hp z=>by
       cases p <;> first | exact⟨rfl,rfl,rfl,trivial⟩ | cases hp
      obtain⟨c1,c2,c3,c4⟩:=hc0 p hsl z;refine⟨p,z,.val vv,c4,c1,k2.hdr vv rfl hsl,c2,?_,(fun k hk=>by rw[c3] at hk;cases hk),fun g hg=>by cases hg⟩;have hag:p.agg=false:=by cases p <;> first | rfl | cases hsl
      unfold valOk at hv;rw[hag] at hv;simp only[yq,if_false] at hv;show vv.cells[0]? = some vv;cases vv <;> first | rfl | (simp[Value.oneCell'] at hv)
   ·cases hp
  ·rename_i s' r' e;simp only[ya,yb] at hp;obtain⟨rfl,rfl,rfl⟩:=hp;obtain⟨p,z,hh,c,k1,k2⟩:=h.val y s' r' e;exact⟨p,z,hh,c,k1,getroot s' ⟨p,z,hh,c,k1⟩ p z hh c k1,(fun e=>by cases e),fun _=>k2⟩
  ·rename_i p z hh e;simp only[ya,yb] at hp;obtain⟨rfl,rfl,rfl⟩:=hp;have h1:=h.root y (by rw[e];rfl);rw[e] at h1;generalize hvv:tv gv a y=vv at h1;cases h1 with
   | tree _ _ p' z' hh' c' k1 k2 =>
    cases k1 with
    | pbox _ _ _ b =>
     refine⟨p,z,hh,.blk b 0,by rw[e];exact .pbox p z hh b,k2,fun _=>?_,fun e=>by cases e⟩;have hc0:∀ p:PSh,∀ z:Den p.sh,locP w p (.blk b 0) []=some (p,.blk b 0)∧qC w p (.blk b 0) []=[]∧inPP p z []:=fun p z=>by
      cases p <;> exact⟨rfl,rfl,trivial⟩
     obtain⟨c2,c3,c4⟩:=hc0 p z;exact .inl ⟨p,b,0,c4,c2,rfl,(fun k hk=>by rw[c3] at hk;cases hk),(k2.blk b rfl).1⟩
  ·rename_i s' r' e;split at hp
   ·cases hp
   rename_i hna;simp only[ya,yb] at hp;obtain⟨rfl,rfl,rfl⟩:=hp;rcases h.adr y s' r' e with ⟨p,z,hh,c,k1,k2⟩ | ⟨s0,V,x0,e0,_⟩
   ·exact⟨p,z,hh,c,k1,getroot s' ⟨p,z,hh,c,k1⟩ p z hh c k1,fun _=>k2,fun e=>by cases e⟩
   ·exact absurd e0 (hna s0 V x0)
  ·cases hp
 ·cases hp
theorem qma {T:Tree} (ht:treeV fr s=some T) {v:Value} {z:Den p.sh} {c:Spot} (hi:IsRoot (fr s) v p z hh c):T=⟨p,z,hh⟩:=by
 unfold treeV at ht;generalize fr s=av at ht hi;cases hi with
 | pv=>exact(yp ht).symm
 | pbox=>exact(yp ht).symm
theorem RP.placeT (h:RP P base w0 S0 S fr gv a w F) {z:Den p.sh} (hp:qax n fr x=some (ad,s,r)) (ht:treeV fr s=some ⟨p,z,hh⟩) :
 ∃ y,x=.tmp y∧y < n∧∃ c,IsRoot (fr s) (tv gv a s) p z hh c∧Root w S p z hh c (F s)∧(ad=true→AdrAt w S p c z r (tv gv a y) (F s))∧(ad=false→ValAt w p c z r (tv gv a y) (F s)):=by
 obtain⟨y,e1,e2,p',z',hh',c,h1,h2,h3,h4⟩:=h.place hp;have e3:=qma ht h1;simp only[Tree.mk.injEq] at e3;obtain⟨e4,e5,e6⟩:=e3;subst e4;obtain rfl:=eq_of_heq e5;subst e6;exact⟨y,e1,e2,c,h1,h2,h3,h4⟩
end
end
section
open Go.RowKit Go.Lib
variable {d t s y:Nat} {o:Oper} {Wd:World→Prop} {val:Value} {v:AV} {x:Operand} {ad:Bool} {r:List PStep} {p q:PSh} {c:Spot}
def PPost (P:Program) (base:Nat→Prop) (w0:World) (S0:qa) (n:Nat) (gv:Nat→Value) (wi:World) (Si:qa) (Fi:Nat→Nat→Prop) (tame:Prop) (fr':Fr) (a':Act) (w':World):Prop :=
 a'.tmps.size=n∧∃ S' F',RP P base w0 S0 S' fr' gv a' w' F'∧Keeps wi Si w' S'∧(tame→∀ t b,Fi t b→w'.heap[b]? = wi.heap[b]? ∧ ∃ t',F' t' b)
section
theorem qaX (h:RP P base w0 S0 S fr gv a w F) (hd:(fr d).isRoot=false) {b:Nat} (hF:F t b):t≠d:=by
 rintro rfl;exact h.nroot t hd b hF
def qbF (P:Program) (base:Nat→Prop) (w0:World) (S0:qa) (gv:Nat→Value) (a:Act) (w:World) (S:qa) (F:Nat→Nat→Prop) (o:Oper) (d:Nat) (tame:Prop) (Wd:World→Prop) (fr':Fr):Prop :=
 Wd w∧∃ v,(∀ w',Wd w'→(execOp a.eval o).run P w'=.ok (.value v) w')∧∃ F',RP P base w0 S0 S fr' gv (a.put (some d) v) w F'∧(tame→∀ t b,F t b→∃ t',F' t' b)
theorem qbF.does {tame:Prop} {fr':Fr} (hdst:o.dst=some d) (h:qbF P base w0 S0 gv a w S F o d tame Wd fr'):qh P o a w (PPost P base w0 S0 a.tmps.size gv w S F tame fr'):=by
 obtain⟨h0,v,h1,F',h2,h3⟩:=h;exact qh.value (h1 w h0) ⟨by rw[hdst,qg],S,F',by rw[hdst];exact h2,Keeps.refl w S,fun ht t b hF=>⟨rfl,h3 ht t b hF⟩⟩
theorem RP.yields (h:RP P base w0 S0 S fr gv a w F) (hd:d < a.tmps.size) (hw:Wd w) (hrun:∀ w',Wd w'→(execOp a.eval o).run P w'=.ok (.value val) w')
 (hv:Rd w S val v) (hp:v.plain=true) (hroot:v.isRoot=false)
 (hadr:∀ s r,v=.padr s r→s≠d∧RefAt w S (fr s) (tv gv a s) r val (F s))
 (hval:∀ s r,v=.pval s r→s≠d∧∃ p x h c,IsRoot (fr s) (tv gv a s) p x h c∧ValAt w p c x r val (F s)) :
 qbF P base w0 S0 gv a w S F o d ((fr d).isRoot=false) Wd (fr.putP d v) :=
 ⟨hw,val,hrun,_,h.putPlain hd hv hp hroot hadr hval,fun ht t _ hF=>⟨t,qaX h ht hF,hF⟩⟩
theorem RP.yieldsDat (h:RP P base w0 S0 S fr gv a w F) (hd:d < a.tmps.size) (hw:Wd w) (hrun:∀ w',Wd w'→(execOp a.eval o).run P w'=.ok (.value val) w')
 (hv:Rd w S val v) (hp:v.plain=true) (hpr:v.isPriv=false):qbF P base w0 S0 gv a w S F o d ((fr d).isRoot=false) Wd (fr.putP d v):=by
 refine h.yields hd hw hrun hv hp ?_ ?_ ?_
 ·cases v <;> first | rfl | (simp[AV.isPriv,AV.isRoot] at hpr)
 ·rintro s r rfl;cases hpr
 ·rintro s r rfl;cases hpr
theorem RP.copyRef (h:RP P base w0 S0 S fr gv a w F) (hd:d < a.tmps.size) (hp:qax a.tmps.size fr x=some (ad,s,r)) (hne:s≠d)
 (hrun:∀ y,x=.tmp y→y < a.tmps.size→∀ w',(execOp a.eval o).run P w'=.ok (.value (tv gv a y)) w') :
 qbF P base w0 S0 gv a w S F o d ((fr d).isRoot=false) (fun _=>True) (fr.putP d (if ad then .padr s r else .pval s r)):=by
 obtain⟨y,rfl,hy,p,z,hh,c,h1,h2,h3,h4⟩:=h.place hp;cases ad with
 | true =>
  refine h.yields hd trivial (fun w' _=>hrun y rfl hy w') (.padr _ _ _) rfl rfl (fun s' r' e=>?_) (fun s' r' e=>by cases e);cases e;exact⟨hne,.inl ⟨p,z,hh,c,h1,h3 rfl⟩⟩
 | false =>
  refine h.yields hd trivial (fun w' _=>hrun y rfl hy w') (.pval _ _ _) rfl rfl (fun s' r' e=>by cases e) (fun s' r' e=>?_);cases e;exact⟨hne,p,z,hh,c,h1,h4 rfl⟩
theorem qaN (fr:Fr) (d:Nat):fr.kill d d=.bad:=by simp[Fr.kill,Fr.set]
theorem qcj (fr:Fr) (h:t≠d):fr.kill d t=fr.sweep d t:=by simp[Fr.kill,Fr.set,h]
theorem qig (fr:Fr) (d t:Nat) (h:(fr d).vague=true):fr.kill d t=fr t∨((fr t).vague=true∧(fr.kill d t).vague=true):=by
 by_cases ht:t=d
 ·subst ht;rw[qaN];exact .inr ⟨h,rfl⟩
 ·rw[qcj fr ht];exact qaW fr d t
theorem RP.topVal (h:RP P base w0 S0 S fr gv a w F) {n:Nat} (hp:qax n fr x=some (ad,s,r)) (hw:qkP fr ad s r=true) :
 ∃ y,x=.tmp y∧y < n∧(fr s).isRoot=true∧tv gv a y=tv gv a s∧(fr s).vague=true∧∃ p z hh c,IsRoot (fr s) (tv gv a s) p z hh c∧Root w S p z hh c (F s):=by
 obtain⟨y,rfl,hy,p,z,hh,c,h1,h2,h3,h4⟩:=h.place hp;have hv:(fr s).vague=true:=by
  have:=h1.isRoot;generalize fr s=av at this;cases av <;> first | rfl | cases this
 refine⟨y,rfl,hy,h1.isRoot,?_,hv,p,z,hh,c,h1,h2⟩;have hl:∀ (p:PSh) (c:Spot),locP w p c []=some (p,c):=fun p c=>by cases p <;> rfl
 unfold qkP at hw;cases r with
 | cons a r=>cases hw
 | nil =>
  simp only at hw;generalize hav:fr s=av at h1 hw;generalize hvv:tv gv a s=vv at h1;cases h1 with
  | pv _ _ _ _ hv' =>
   cases ad with
   | true=>cases hw
   | false =>
    obtain⟨q,y',c',k1,k2,k3,k4,k5,_⟩:=h4 rfl;rw[hl] at k4;simp only[ya,yb] at k4;obtain⟨k6,k4⟩:=k4;subst k6 k4;have hsl:p.agg=false:=by
     have e1:getPP p z []=some ⟨p,z⟩:=by cases p <;> rfl
     rw[e1] at k2;simp only[ya,yD,true_and] at k2;obtain rfl:=eq_of_heq k2;cases p <;> first | rfl | exact k3.elim
    unfold valOk at hv';rw[hsl] at hv';simp only[yq,if_false] at hv';have:vv.cells[0]? = some (tv gv a y):=k5;cases vv <;> first | (simpa [Value.cells] using this.symm) | (simp[Value.oneCell'] at hv')
  | pbox _ _ _ b =>
   cases ad with
   | false=>cases hw
   | true =>
    obtain⟨q,g,o,k1,k2,k3,_⟩:=(h3 rfl).nil;rw[hl] at k2;simp only[ya,yb] at k2;obtain⟨_,k2⟩:=k2;cases k2;exact k3
theorem qu (h:v.isRoot=true):v.vague=true:=by cases v <;> first | rfl | cases h
theorem qIG (fr:Fr) (hne:y≠d) (hr:(fr y).isRoot=true) (t:Nat):fr.moveR y d t=if t=d then fr y else if t=y then .bad else ((fr.sweep y).sweep d t).drop d:=by
 unfold Fr.moveR
 by_cases h1:t=d
 ·subst h1;rw[qo,if_pos rfl]
 ·rw[if_neg h1];unfold Fr.putP Fr.put;rw[if_neg h1]
  by_cases h2:t=y
  ·subst h2;rw[if_pos rfl];have:(fr.kill t).sweep d t=.bad:=by unfold Fr.sweep;rw[qaN]
   rw[this];rfl
  ·rw[if_neg h2];have:(fr.kill y).sweep d t=(fr.sweep y).sweep d t:=by unfold Fr.sweep;rw[qcj fr h2];rfl
   rw[this]
theorem RP.moved (h:RP P base w0 S0 S fr gv a w F) (hd:d < a.tmps.size) (hy:(fr y).isRoot=true) (hne:y≠d) :
 RP P base w0 S0 S (fr.moveR y d) gv (a.put (some d) (tv gv a y)) w (fun t b=>(t=d∧F y b)∨(t≠d∧t≠y∧F t b)):=by
 have hv:=qu hy;have hat:=qIG fr hne hy;have htv:∀ t,t≠d→tv gv (a.put (some d) (tv gv a y)) t=tv gv a t:=fun t ht=>by rw[qcW gv a d _ t hd,if_neg ht]
 have htd:tv gv (a.put (some d) (tv gv a y)) d=tv gv a y:=by rw[qcW gv a d _ d hd,if_pos rfl]
 have hsw:∀ t,t≠d→t≠y→(fr.moveR y d t).isRoot=(fr t).isRoot∧((fr t).isRoot=true→fr.moveR y d t=fr t):=fun t h1 h2=>by
  rw[hat,if_neg h1,if_neg h2];obtain⟨e1,e2⟩:=qaM fr y t;obtain⟨e3,e4⟩:=qaM (fr.sweep y) d t;obtain⟨e5,e6⟩:=qqT ((fr.sweep y).sweep d t) d;exact⟨e5.trans (e3.trans e1),fun hh=>by rw[e6 (e3.trans (e1.trans hh)),e4 (e1.trans hh),e2 hh]⟩
 have hR:R (fun k=>base k∨∃ t,F t k) w S S (fr.moveR y d) (a.put (some d) (tv gv a y)) w:=by
  have h1:R (fun k=>base k∨∃ t,F t k) w S S ((fr.kill y).sweep d) a w :=
   (h.r.repriv (fun t=>qig fr y t hv)).repriv (fun t=>qaW (fr.kill y) d t)
  exact h1.put_plain hd (qfR hv _ _ _) (by generalize fr y=av at hv;cases av <;> first | rfl | cases hv)
 refine h.upd (fun t=>t=d∨t=y) (hR.rebase (fun k hk=>hk.imp id (fun ⟨t,ht⟩=>ht.elim (fun ht=>⟨y,ht.2⟩) (fun ht=>⟨t,ht.2.2⟩)))) (Kept.refl _ _) (fun _ _ _=>Iff.rfl) (Keeps.refl _ _)
  (fun t ht b=>?_) (fun _ _ _ _=>rfl) (fun _ _ _ _ _=>Iff.rfl) (fun t ht=>?_) (fun t b ht hb=>?_) (fun t t' b ht hne' hb hb'=>?_) (fun t ht hr b hb=>?_) (fun t ht hr=>?_) (fun t s r ht=>?_) (fun t s r ht=>?_)
 ·exact⟨fun hh=>hh.elim (fun hh=>absurd (.inl hh.1) ht) (·.2.2),fun hh=>.inr ⟨fun e=>ht (.inl e),fun e=>ht (.inr e),hh⟩⟩
 ·have h1:t≠d:=fun e=>ht (.inl e);obtain⟨e1,e2⟩:=hsw t h1 (fun e=>ht (.inr e));exact⟨e1,fun hh=>⟨e2 hh,htv t h1⟩⟩
 ·rcases hb with hb | hb
  ·exact h.nb y b hb.2
  ·exact h.nb t b hb.2.2
 ·rcases hb with hb | hb
  ·rcases hb' with hb' | hb'
   ·exact hne' (hb.1.trans hb'.1.symm)
   ·exact h.dj y t' b (Ne.symm hb'.2.1) hb.2 hb'.2.2
  ·rcases hb' with hb' | hb'
   ·exact h.dj t y b hb.2.1 hb.2.2 hb'.2
   ·exact h.dj t t' b hne' hb.2.2 hb'.2.2
 ·rcases ht with rfl | rfl
  ·rw[hat,if_pos rfl,hy] at hr;cases hr
  ·rcases hb with hb | hb
   ·exact hne hb.1
   ·exact hb.2.1 rfl
 ·rcases ht with rfl | rfl
  ·have e3:(fun b=>(t=t∧F y b)∨(t≠t∧t≠y∧F t b))=F y:=funext fun b=>propext ⟨fun hh=>hh.elim (·.2) (fun hh=>absurd rfl hh.1),fun hh=>.inl ⟨rfl,hh⟩⟩;rw[e3,htd,hat,if_pos rfl];exact h.root y hy
  ·rw[hat,if_neg hne,if_pos rfl] at hr;cases hr
 ·by_cases h1:t=d
  ·rw[hat,if_pos h1] at ht;rw[ht] at hy;cases hy
  ·by_cases h2:t=y
   ·rw[hat,if_neg h1,if_pos h2] at ht;cases ht
   ·rw[hat,if_neg h1,if_neg h2] at ht;obtain⟨e1,e2⟩:=qcB (qvD ht);obtain⟨e3,e4⟩:=qcB e1;exact .inl ⟨fun e=>e.elim e2 e4,e3,htv t h1⟩
 ·by_cases h1:t=d
  ·rw[hat,if_pos h1] at ht;rw[ht] at hy;cases hy
  ·by_cases h2:t=y
   ·rw[hat,if_neg h1,if_pos h2] at ht;cases ht
   ·rw[hat,if_neg h1,if_neg h2] at ht;obtain⟨e1,e2⟩:=qcC (qvE ht);obtain⟨e3,e4⟩:=qcC e1;exact .inl ⟨fun e=>e.elim e2 e4,e3,htv t h1⟩
theorem RP.movesRoot (h:RP P base w0 S0 S fr gv a w F) (hd:d < a.tmps.size) (hy:(fr y).isRoot=true) (hne:y≠d) (hrun:∀ w',(execOp a.eval o).run P w'=.ok (.value (tv gv a y)) w') :
 qbF P base w0 S0 gv a w S F o d ((fr d).isRoot=false) (fun _=>True) (fr.moveR y d):=by
 refine⟨trivial,_,fun w' _=>hrun w',_,h.moved hd hy hne,fun ht t b hF=>?_⟩
 by_cases hty:t=y
 ·subst hty;exact⟨d,.inl ⟨rfl,hF⟩⟩
 ·exact⟨t,.inr ⟨qaX h ht hF,hty,hF⟩⟩
theorem PM.plain_cells {w:World} {S:qa}:∀ (q:PSh) (rd:Rdr) (y:Den q.sh) (F:Nat→Prop),q.plain=true→PM w S q rd y F→∃ cs,RdC w S q.sh y cs∧∀ (i:Nat) (v:Value),cs[i]? = some v→rd i=some v
 | .leaf s,rd,y,F,_,h=>by simp only[PM] at h;exact h.2
 | .parr n e,rd,y,F,_,h=>by simp only[PM] at h;exact h.2
 | .osl _ _,_,_,_,hp,_=>by cases hp
 | .psl _ _,_,_,_,hp,_=>by cases hp
 | .ppair a b,rd,y,F,hp,h=>by
  simp only[PSh.plain,yf] at hp;simp only[PM] at h;obtain⟨F1,F2,h1,h2,_⟩:=h;obtain⟨c1,k1,k2⟩:=PM.plain_cells a rd y.1 F1 hp.1 h1;obtain⟨c2,k3,k4⟩:=PM.plain_cells b _ y.2 F2 hp.2 h2;have hl:=RdC.length _ _ _ k1;rw[PSh.size_eq] at hl;refine⟨c1++c2,?_,fun i v hv=>?_⟩
  ·simp only[RdC];exact⟨c1,c2,rfl,k1,k3⟩
  ·rcases Nat.lt_or_ge i c1.length with hlt | hge
   ·rw[yM hlt] at hv;exact k2 i v hv
   ·rw[yN hge] at hv;have:=k4 _ v hv;rw[hl] at this hge;rw[show a.size+(i - a.size)=i by omega] at this;exact this
theorem Root.part {z:Den p.sh} {F:Nat→Prop} (h:Root w S p z none c F) {y:Den q.sh} (hg:getPP p z r=some ⟨q,y⟩) (hin:inPP p z r)
 (hv:∀ v,c=.val v→r=[]∨∃ te e,p=.psl te e):∃ c' Fq,locP w p c r=some (q,c')∧Focus w S p c z (fun b=>F b∧c.block≠some b) r q y c' Fq:=by
 have h1:PM w S p (c.rdr w) z (fun b=>F b∧c.block≠some b):=h.core;exact PM.focus p c z _ r q y h1 hg hin (fun g hg hh=>hh.2 hg) hv
theorem qih {z:Den p.sh} {F:Nat→Prop} (h:Root w S p z none c F) {u:Value} (ha:AdrAt w S p c z r u F) {y:Den q.sh} (hg:getPP p z r=some ⟨q,y⟩) :
 ∃ g o Fq,u=.pointer (some ⟨g,o,none⟩)∧locP w p c r=some (q,.blk g o)∧Focus w S p c z (fun b=>F b∧c.block≠some b) r q y (.blk g o) Fq:=by
 obtain⟨q',g,o,k1,k2,k3,k4,k5⟩:=ha.zero (by rw[hg];simp);have hv:∀ v,c=.val v→r=[]∨∃ te e,p=.psl te e:=fun v e=>by
  subst e;cases p with
  | psl te e=>exact .inr ⟨te,e,rfl⟩
  | leaf s=>left;cases r with
   | nil=>rfl
   | cons a r=>simp[locP] at k2
  | osl te e=>left;cases r with
   | nil=>rfl
   | cons a r=>simp[locP] at k2
  | ppair a b =>
   exfalso;match r,k2 with
   | [],k2=>simp[locP] at k2
   | .idx n :: r,k2=>simp[locP] at k2
   | .fld 0 :: r,k2=>simp[locP] at k2
   | .fld (i+1) :: r,k2=>simp[locP] at k2
  | parr n e =>
   exfalso;match r,k2 with
   | [],k2=>simp[locP] at k2
   | [.idx n],k2=>simp[locP] at k2
   | .fld i :: r,k2=>simp[locP] at k2
   | .idx n :: _ :: _,k2=>simp[locP] at k2
 obtain⟨c',Fq,j1,j2⟩:=h.part hg k1 hv;rw[k2] at j1;simp only[ya,yb] at j1;obtain⟨rfl,rfl⟩:=j1;exact⟨g,o,Fq,k3,k2,j2⟩
end
end
section
open Go.RowKit Go.Lib
variable {u:Value} {q p:PSh} {n d s:Nat} {o:Oper} {x:Operand} {r:List PStep} {t:TypeId} {hh:Option (List PStep)}
section
def qmd (a:Act) (x:Operand) (w:World) (k:Nat) (w':World):Prop:=∀ g o,a.eval x=.pointer (some ⟨g,o,none⟩)→∀ i,i < k→w'.cell? ⟨g,o+i,none⟩=w.cell? ⟨g,o+i,none⟩
theorem qNm {F:Nat→Prop} {y:Den q.sh} (h:HdrOk u F q y) (hn:qeb q y=some n):∃ A cap,u=.slice A n cap∧n≤cap:=by
 cases q with
 | psl te e =>
  simp only[qeb,ya] at hn;subst hn;rcases h with ⟨rfl,h⟩ | ⟨g,cap,rfl,h,_⟩
  ·have h':(List.length y)=0:=by have:y=[]:=h;rw[this];rfl
   exact⟨none,0,by rw[h'],by omega⟩
  ·exact⟨_,cap,rfl,h⟩
 | osl te e =>
  simp only[qeb,ya] at hn;subst hn;rcases h with ⟨rfl,h⟩ | ⟨g,cap,rfl,h⟩
  ·have h':(List.length y)=0:=by have:y=[]:=h;rw[this];rfl
   exact⟨none,0,by rw[h'],by omega⟩
  ·exact⟨_,cap,rfl,h⟩
 | _=>exact h.elim
theorem RP.rLen (h:RP P base w0 S0 S fr gv a w F) (hd:d < a.tmps.size) {T:Tree} {y:Den q.sh} 
 (hop:o.op=.call { callee:=.builtin .len,args := #[x],argTypes := #[t] }) (hp:qax a.tmps.size fr x=some (false,s,r)) (ht:treeV fr s=some T) (hg:getPP T.p T.x r=some ⟨q,y⟩) (hl:qeb q y=some n)
 (hT:TyOk P E.toEnv) (hty:(E.ti t).sh=some q.sh):qbF P base w0 S0 gv a w S F o d ((fr d).isRoot=false) (fun _=>True) (fr.putP d (.int .i64 n)):=by
 obtain⟨z,rfl,hz,p,v,hh,c,h1,h2,_,h4⟩:=h.place hp;obtain rfl:=qma ht h1;obtain⟨q',y',c',k1,k2,k3,_⟩:=h4 rfl;rw[k2] at hg;simp only[ya,yD] at hg;obtain⟨rfl,hg⟩:=hg;obtain rfl:=eq_of_heq hg;obtain⟨A,cap,hu,_⟩:=qNm k3 hl;rw[qE gv a z hz] at hu;have hun:∃ te,P.underlying t=some (.slice te):=by
  have:=(hT t _ hty).desc;cases q' with
  | psl te e=>obtain⟨te',h1,_⟩:=this;exact⟨te',h1⟩
  | osl te e=>obtain⟨te',h1,_⟩:=this;exact⟨te',h1⟩
  | _=>cases hl
 obtain⟨te,hun⟩:=hun;refine h.yieldsDat hd (val:=.int .i64 n) trivial (fun w' _=>?_) (qbP _ _ _ _) rfl rfl;unfold execOp;simp only[hop,resolve,invoke,builtin,yh,yu,ye,List.map_toArray,yI,List.map_nil,hu];simp[Builtin.len_,yr hun,goInt]
theorem RP.rLoad (h:RP P base w0 S0 S fr gv a w F) (hT:TyOk P E.toEnv) (hd:d < a.tmps.size) {z:Den p.sh} {y:Den q.sh}
 (hop:o.op=.load t x) (hp:qax a.tmps.size fr x=some (true,s,r)) (ht:treeV fr s=some ⟨p,z,none⟩) (hg:getPP p z r=some ⟨q,y⟩) (hty:(E.ti t).sh=some q.sh) (hpl:q.plain=true) :
 qbF P base w0 S0 gv a w S F o d ((fr d).isRoot=false) (qmd a x w q.size) (fr.putP d (.dat q.sh y none)):=by
 obtain⟨u,rfl,hu,c,h1,h2,h3,_⟩:=h.placeT hp ht;obtain⟨g,o',Fq,k1,k2,k3⟩:=qih h2 (h3 rfl) hg;obtain⟨cs,j1,j2⟩:=k3.part.plain_cells q _ y Fq hpl;rw[qE gv a u hu] at k1;have hl:=RdC.length _ _ _ j1;rw[PSh.size_eq] at hl;have hld:∀ w',qmd a (.tmp u) w q.size w'→_:=fun w' hw=>qG (hT t q.sh hty) j1 (ad:=⟨g,o',none⟩) (w':=w') rfl (fun i v hv=>by
  have:=(List.getElem?_eq_some_iff.1 hv).1;show w'.cell? ⟨g,o'+i,none⟩=some v;rw[hw g o' k1 i (by omega)];exact j2 i v hv)
 refine h.yieldsDat hd (val:=valOf q.sh cs) (fun _ _ _ _ _=>rfl) (fun w' hw=>?_) (.dat _ _ _ _ (hld w (fun _ _ _ _ _=>rfl)).2) rfl rfl;unfold execOp;simp only[hop];refine run_v ?_;rw[k1];exact(hld w' hw).1
theorem PM.hdr {w:World} {S:qa} {rd:Rdr} {y:Den q.sh} {F:Nat→Prop} (h:PM w S q rd y F) (hn:qeb q y=some n):∃ u,rd 0=some u∧HdrOk u F q y∧u.oneCell'=true:=by
 cases q with
 | psl te e =>
  simp only[PM] at h;obtain⟨v,h1,h2⟩:=h;refine⟨v,h1,?_,?_⟩
  ·rcases h2 with h2 | ⟨g,cap,cur,Fe,k1,k2,k3,_,_,_,_,_,_,_,k11⟩
   ·exact .inl ⟨h2.1,h2.2.1⟩
   ·exact .inr ⟨g,cap,k1,k3,(k11 g).2 (.inl rfl)⟩
  ·rcases h2 with h2 | ⟨g,cap,cur,Fe,k1,_⟩
   ·rw[h2.1];rfl
   ·rw[k1];rfl
 | osl te e =>
  simp only[PM] at h;obtain⟨v,h1,⟨xs,h2,h3⟩,h4,h5⟩:=h;refine⟨v,h1,?_,?_⟩
  ·rcases h2.2 with ⟨e1,e2⟩ | ⟨g,cap,cur,_,e1,_,_,_,e3,_⟩
   ·exact .inl ⟨e1,yF e2⟩
   ·exact .inr ⟨g,cap,e1,e3⟩
  ·rcases h2.2 with ⟨e1,e2⟩ | ⟨g,cap,cur,_,e1,_⟩
   ·rw[e1];rfl
   ·rw[e1];rfl
 | _=>cases hn
theorem qkH {F F':Nat→Prop} {y:Den q.sh} (h:HdrOk u F q y) (hF:∀ b,F b→F' b):HdrOk u F' q y:=by
 cases q with
 | psl te e=>rcases h with h | ⟨g,cap,h1,h2,h3⟩
             ·exact .inl h
             ·exact .inr ⟨g,cap,h1,h2,hF g h3⟩
 | osl te e=>exact h
 | _=>exact h.elim
theorem RP.rHead (h:RP P base w0 S0 S fr gv a w F) (hT:TyOk P E.toEnv) (hd:d < a.tmps.size) {z:Den p.sh} {y:Den q.sh} 
 (hop:o.op=.load t x) (hp:qax a.tmps.size fr x=some (true,s,r)) (hne:s≠d) (ht:treeV fr s=some ⟨p,z,none⟩) (hg:getPP p z r=some ⟨q,y⟩) (hty:(E.ti t).sh=some q.sh) (hl:qeb q y=some n) :
 qbF P base w0 S0 gv a w S F o d ((fr d).isRoot=false) (qmd a x w q.size) (fr.putP d (.pval s r)):=by
 obtain⟨u,rfl,hu,c,h1,h2,h3,_⟩:=h.placeT hp ht;obtain⟨q0,g0,o0,m1,m2,m3,m4,m5⟩:=(h3 rfl).zero (by rw[hg];simp);obtain⟨g,o',Fq,k1,k2,k3⟩:=qih h2 (h3 rfl) hg;rw[k2] at m2;simp only[ya,yb,Spot.blk.injEq] at m2;obtain⟨rfl,rfl,rfl⟩:=m2;obtain⟨v,j1,j2,j3⟩:=k3.part.hdr hl;rw[qE gv a u hu] at k1;have hsz:q.sh.size=1:=by cases q <;> first | rfl | cases hl
 have hag:q.sh.agg=false:=by cases q <;> first | rfl | cases hl
 have hcell:w.cell? ⟨g,o',none⟩=some v:=j1;have hq1:q.size=1:=by rw[← PSh.size_eq];exact hsz
 refine h.yields hd (val:=v) (fun _ _ _ _ _=>rfl) (fun w' hw=>?_) (.pval _ _ _) rfl rfl (fun _ _ e=>by cases e) (fun s' r' e=>?_)
 ·have hcell':w'.cell? ⟨g,o',none⟩=some v:=(hw g o' k1 0 (by omega)).trans hcell;unfold execOp;simp only[hop];refine run_v ?_;rw[k1];unfold Instr.loadAt;show ((pure (⟨g,o',none⟩:Addr):Sem Addr).bind _).run P w'=_;rw[Sem.run_bind',yu,ye];unfold loadVar;simp only[yh,(hT t q.sh hty).isAgg,ye,hag];simp[hcell']
 ·cases e;have hFq:∀ b,Fq b→F s b:=fun b hb=>(k3.sub b hb).1;exact⟨hne,p,z,none,c,h1,q,y,.blk g o',m1,hg,qkH j2 hFq,k2,hcell,m4,fun g' hg'=>by cases hg';exact m5⟩
theorem RP.rHeadH (h:RP P base w0 S0 S fr gv a w F) (hT:TyOk P E.toEnv) (hd:d < a.tmps.size) {z:Den p.sh} {y:Den q.sh} {y2:Nat}
 (hop:o.op=.load t x) (hp:qax a.tmps.size fr x=some (true,s,r)) (hne:s≠d) (ht:treeV fr s=some ⟨p,z,hh⟩) (hg:getPP p z r=some ⟨q,y⟩) (hty:(E.ti t).sh=some q.sh) (hsl:q.isSl=true) (hy2:fr y2=.pval s r) :
 ∃ g o',a.eval x=.pointer (some ⟨g,o',none⟩)∧F s g∧qbF P base w0 S0 gv a w S F o d ((fr d).isRoot=false) (qmd a x w q.size) (fr.putP d (.pval s r)):=by
 obtain⟨u,rfl,hu,c,h1,h2,h3,_⟩:=h.placeT hp ht;obtain⟨q0,g,o',m1,m2,m3,m4,m5⟩:=(h3 rfl).zero (by rw[hg];simp);obtain⟨p',z',hh',c',n1,q1,y1,c1,v1,v2,v3,v4,v5,v6,v7⟩:=h.val y2 s r hy2;obtain⟨rfl,n3,rfl,rfl⟩:=n1.det h1;obtain rfl:=eq_of_heq n3;rw[hg] at v2;simp only[ya,yD] at v2;obtain⟨rfl,hy⟩:=v2;obtain rfl:=eq_of_heq hy;rw[v4] at m2;simp only[ya,yb] at m2;obtain⟨rfl,rfl⟩:=m2;have k1:a.eval (.tmp u)=.pointer (some ⟨g,o',none⟩):=by rw[← qE gv a u hu];exact m3
 have hsz:q.sh.size=1:=by cases q <;> first | rfl | cases hsl
 have hag:q.sh.agg=false:=by cases q <;> first | rfl | cases hsl
 have hcell:w.cell? ⟨g,o',none⟩=some (tv gv a y2):=v5;have hq1:q.size=1:=by rw[← PSh.size_eq];exact hsz
 refine⟨g,o',k1,m5,h.yields hd (val:=tv gv a y2) (fun _ _ _ _ _=>rfl) (fun w' hw=>?_) (.pval _ _ _) rfl rfl (fun _ _ e=>by cases e) (fun s' r' e=>?_)⟩
 ·have hcell':w'.cell? ⟨g,o',none⟩=some (tv gv a y2):=(hw g o' k1 0 (by omega)).trans hcell;unfold execOp;simp only[hop];refine run_v ?_;rw[k1];unfold Instr.loadAt;show ((pure (⟨g,o',none⟩:Addr):Sem Addr).bind _).run P w'=_;rw[Sem.run_bind',yu,ye];unfold loadVar;simp only[yh,(hT t q.sh hty).isAgg,ye,hag];simp[hcell']
 ·cases e;exact⟨hne,p',z',hh',c',h1,q,y,.blk g o',m1,hg,v3,v4,hcell,m4,fun g' hg'=>by cases hg';exact m5⟩
theorem qkI {w:World}:∀ (p:PSh) (c:Spot) (z:Den p.sh) (r:List PStep) (te:TypeId) (e:PSh) (y:Den (PSh.psl te e).sh) (c':Spot) (ad:Addr) (m1 m2 n:Nat),getPP p z r=some ⟨.psl te e,y⟩→inPP p z r→locP w p c r=some (.psl te e,c') →
 c'.rdr w 0=some (.slice (some ad) m1 m2)→n < List.length y →
 locP w p c (r++[.idx n])=some (e,.blk ad.block (n*e.size))∧qC w p c (r++[.idx n])=qC w p c r++c'.block.toList∧inPP p z (r++[.idx n])
 | .leaf s,c,z,r,te,e,y,c',ad,m1,m2,n,hg,_,_,_,_=>by cases r <;> simp[getPP] at hg
 | .osl te' e',c,z,r,te,e,y,c',ad,m1,m2,n,hg,_,_,_,_=>by cases r <;> simp[getPP] at hg
 | .parr k e',c,z,r,te,e,y,c',ad,m1,m2,n,hg,_,_,_,_=>by
  match r,hg with
  | [],hg=>simp[getPP] at hg
  | [.idx _],hg=>simp[getPP] at hg
  | .fld i :: r,hg=>simp[getPP] at hg
  | .idx _ :: _ :: _,hg=>simp[getPP] at hg
 | .psl te' e',c,z,r,te,e,y,c',ad,m1,m2,n,hg,hin,hl,hr,hn=>by
  match r,hg,hin,hl with
  | [],hg,_,hl =>
   simp only[getPP,ya,yD,PSh.psl.injEq] at hg;obtain⟨⟨rfl,rfl⟩,hg⟩:=hg;obtain rfl:=eq_of_heq hg;simp only[locP,ya,yb,true_and] at hl;subst hl;have hloc:∀ (e:PSh) (c:Spot),locP w e c []=some (e,c)∧qC w e c []=[]:=fun e c=>by cases e <;> exact⟨rfl,rfl⟩
   have hin0:∀ (e:PSh) (x:Den e.sh),inPP e x []:=fun e x=>by cases e <;> trivial
   refine⟨?_,?_,hn,hin0 _ _⟩
   ·simp only[List.nil_append,locP,hr,(hloc _ _).1]
   ·simp only[List.nil_append,qC,hr,(hloc _ _).2];simp
  | .fld i :: r,hg,_,_=>simp[getPP] at hg
  | .idx m :: r,hg,hin,hl =>
   simp only[getPP] at hg;simp only[inPP] at hin;simp only[locP] at hl;split at hl
   ·rename_i ad' k1 k2 hr';obtain⟨j1,j2,j3⟩:=qkI e' _ _ r te e y c' ad m1 m2 n hg hin.2 hl hr hn;refine⟨?_,?_,hin.1,j3⟩
    ·simp only[List.cons_append,locP,hr',j1]
    ·simp only[List.cons_append,qC,hr',j2,yl]
   ·cases hl
 | .ppair a b,c,z,r,te,e,y,c',ad,m1,m2,n,hg,hin,hl,hr,hn=>by
  match r,hg,hin,hl with
  | [],hg,_,_=>simp[getPP] at hg
  | .idx i :: r,hg,_,_=>simp[getPP] at hg
  | .fld 0 :: r,hg,hin,hl =>
   simp only[getPP] at hg;simp only[inPP] at hin;cases c with
   | val v=>simp[locP] at hl
   | blk g o =>
    simp only[locP] at hl;obtain⟨j1,j2,j3⟩:=qkI a _ _ r te e y c' ad m1 m2 n hg hin hl hr hn;exact⟨by simp only[List.cons_append,locP,j1],by simp only[List.cons_append,qC,j2],j3⟩
  | .fld (i+1) :: r,hg,hin,hl =>
   simp only[getPP] at hg;simp only[inPP] at hin;cases c with
   | val v=>simp[locP] at hl
   | blk g o =>
    simp only[locP] at hl;obtain⟨j1,j2,j3⟩:=qkI b _ _ (.fld i :: r) te e y c' ad m1 m2 n hg hin hl hr hn;simp only[List.cons_append] at j1 j2 j3;exact⟨by simp only[List.cons_append,locP,j1],by simp only[List.cons_append,qC,j2],j3⟩
theorem RP.rIdx (h:RP P base w0 S0 S fr gv a w F) (hT:TyOk P E.toEnv) (hd:d < a.tmps.size) {i:Operand} {z:Den p.sh} 
 {te:TypeId} {e:PSh} {y:Den (PSh.psl te e).sh} {vi:AV} {n:Int} (hop:o.op=.indexAddr t x i) (hp:qax a.tmps.size fr x=some (false,s,r)) (hne:s≠d) (ht:treeV fr s=some ⟨p,z,hh⟩) (hg:getPP p z r=some ⟨.psl te e,y⟩)
 (hty:(E.ti t).sh=some (PSh.psl te e).sh) (hi:rdo E.toEnv fr true 0 i=(true,vi)) (hn:idxV vi=some n) (h0:0≤n) (hlt:n < List.length y) :
 qbF P base w0 S0 gv a w S F o d ((fr d).isRoot=false) (fun _=>True) (fr.putP d (.padr s (r++[.idx n.toNat]))):=by
 obtain⟨u,rfl,hu,c,h1,h2,_,h4⟩:=h.placeT hp ht;obtain⟨q',y',c',k1,k2,k3,k4,k5,k6,k7⟩:=h4 rfl;rw[hg] at k2;simp only[ya,yD] at k2;obtain⟨rfl,k2⟩:=k2;obtain rfl:=eq_of_heq k2;have hlt':n.toNat < List.length y:=by omega
 rcases k3 with ⟨_,k3⟩ | ⟨g,cap,k3,k8,k9⟩
 ·have:List.length y=0:=by rw[show y=[] from k3];rfl
  omega
 obtain⟨ki,ei⟩:=qdn (qt h.r hi).1 hn;obtain⟨te',hd1,hte,_⟩:=(hT t _ hty).desc;obtain⟨j1,j2,j3⟩:=qkI p c z r te e y c' ⟨g,0,none⟩ _ _ n.toNat hg k1 k4 (by rw[k5,k3]) hlt';refine h.yields hd (val:=.pointer (some ⟨g,n.toNat*e.size,none⟩)) trivial (fun w' _=>?_) (.padr _ _ _) rfl rfl (fun s' r' e'=>?_) (fun _ _ e=>by cases e)
 ·unfold execOp;simp only[hop];refine run_v ?_;unfold Instr.indexAt;rw[ei,← qE gv a u hu,k3];simp only[asIntOf,yh,yu,ye,yr hd1];rw[if_pos ⟨h0,hlt⟩];simp only[yh,(hT te' _ hte).sizeOf,ye,yu];rw[qdm _ _ rfl,PSh.size_eq];simp
 ·cases e';refine⟨hne,.inl ⟨p,z,hh,c,h1,.inl ⟨e,g,n.toNat*e.size,j3,j1,rfl,fun k hk=>?_,k9⟩⟩⟩;rw[j2] at hk;rcases List.mem_append.1 hk with hk | hk
  ·exact k6 k hk
  ·cases hcb:c'.block with
   | none=>rw[hcb] at hk;cases hk
   | some g'=>rw[hcb] at hk;simp at hk;subst hk;exact k7 _ hcb
end
end
section
open Go.RowKit Go.Lib
variable {g s t o:Nat} {w':World} {p q:PSh} {hh hh':Option (List PStep)} {v:Value} {c:Spot} {r:List PStep} {cur:Array Value} {T:TypeId}
section
theorem R.wrote {B:Nat→Prop} (h:R B w S S fr a w) (hg:B g) (hns:∀ o,¬ S g o) (hw:w.grownBy w' (some g)):R B w' S S fr a w':=by
 have hkeep:Keeps w S w' S:=fun b o hs=>⟨hs,qj (hw.block b (h.slt b o hs) (fun e=>by
  have:=yp e;subst this;exact hns o hs)) o⟩
 exact {
  below:=Kept.refl _ _
  base_le:=fun k hk=>yH (h.base_le k hk) hw.size
  old:=fun _ _ _=>Iff.rfl
  kp:=Keeps.refl _ _
  slt:=fun b o hs=>yH (h.slt b o hs) hw.size
  dfr:=h.dfr
  rd:=fun t=>(h.rd t).keeps hkeep
  cp:=h.cp
  sls:=h.sls
  own:=fun t e x te he=>(h.own t e x te he).step hkeep hw (fun b hb e2=>by
   have e':=yp e2;subst e';obtain⟨_,_,_,_,k⟩:=h.own t e x te he;exact k _ hb hg) (fun _ _ _ _=>Iff.rfl)
  dist:=h.dist
  box:=fun t s x he=>by
   obtain⟨b,k1,k2⟩:=h.box t s x he;exact⟨b,k1.step hkeep hw (fun e=>by
    have e':=yp e;subst e';exact k1.1 hg) (fun _ _ _ _=>Iff.rfl),k2⟩
  boxd:=h.boxd
  boxo:=h.boxo
  badr:=h.badr
  clm:=h.clm }
theorem qkJ {z:Den p.sh} :fr.turn s p z hh s=(fr s).reroot p z hh:=by unfold Fr.turn Fr.set;rw[if_pos rfl]
theorem qck {z:Den p.sh} (ht:t≠s):fr.turn s p z hh t=fr.sweepK s t:=by simp[Fr.turn,Fr.set,ht]
theorem qD {z z':Den p.sh} (h:IsRoot (fr s) v p z hh c):IsRoot (fr.turn s p z' hh' s) v p z' hh' c:=by
 rw[qkJ];generalize fr s=av at h;cases h with
 | pv _ _ _ _ hv=>exact .pv p z' hh' _ hv
 | pbox _ _ _ b=>exact .pbox p z' hh' b
theorem qvI {z:Den p.sh} (hr:(fr s).isRoot=true) (t:Nat):fr.turn s p z hh t=fr t∨((fr t).vague=true∧(fr.turn s p z hh t).vague=true):=by
 by_cases ht:t=s
 ·subst ht;rw[qkJ];refine .inr ⟨qu hr,?_⟩;unfold AV.reroot;split <;> rfl
 ·rw[qck ht];exact qqS fr s t
theorem qQ (h:valOk p v) (hs:p.isSl=true):v.cells[0]? = some v:=by
 have hag:p.agg=false:=by cases p <;> first | rfl | cases hs
 unfold valOk at h;rw[hag] at h;simp only[yq,if_false] at h;cases v <;> first | rfl | (simp[Value.oneCell'] at h)
theorem qfJ {z:Den p.sh} {F:Nat→Prop} (hv:valOk p v) (h:PM w S p (valR v) z F) (hs:p.isSl=true):HdrOk v F p z:=by
 have hl:∃ n,qeb p z=some n:=by cases p <;> first | exact⟨_,rfl⟩ | cases hs
 obtain⟨n,hl⟩:=hl;obtain⟨u,h1,h2,_⟩:=h.hdr hl;have h3:v.cells[0]? = some u:=h1;rw[qQ hv hs] at h3;obtain rfl:=yp h3;exact h2
theorem RP.turnRef (h:RP P base w0 S0 S fr gv a w F) {z z':Den p.sh} (hi:IsRoot (fr s) (tv gv a s) p z hh c) {S':qa} (hk:Keeps w S w' S') {F':Nat→Prop} (hR:Root w' S' p z' hh' c F')
 (hF:∀ g,c=.blk g 0→F s g→F' g) (ht:fr t=.padr s r) (htop:qaS r=true) {av:AV} (hav:IsRoot av (tv gv a s) p z' hh' c):RefAt w' S' av (tv gv a s) r (tv gv a t) F':=by
 rcases h.adr t s r ht with ⟨p1,x1,h1,c1,k1,k2⟩ | ⟨s1,V,x1,e1,_⟩
 ·obtain⟨e1,e2,e3,e4⟩:=hi.det k1;subst e1 e3 e4;obtain rfl:=eq_of_heq e2;refine .inl ⟨p,z',hh',c,hav,k2.top hk htop hF (fun g o e=>?_)⟩;subst e;generalize tv gv a s=v at hi;generalize fr s=av' at hi;cases hi with
  | pbox _ _ _ b=>rfl
 ·exfalso;rw[e1] at hi;generalize tv gv a s=v at hi;cases hi
theorem RP.turned (h:RP P base w0 S0 S fr gv a w F) {z z':Den p.sh} (hi:IsRoot (fr s) (tv gv a s) p z hh c) (hg:F s g) (hns:∀ o,¬ S g o) 
 (hw:w.grownBy w' (some g)) (hR:Root w' S p z' hh' c (F s)):RP P base w0 S0 S (fr.turn s p z' hh') gv a w' F:=by
 have hkeep:Keeps w S w' S:=fun b o hs=>⟨hs,qj (hw.block b (h.r.slt b o hs) (fun e=>by
  have:=yp e;subst this;exact hns o hs)) o⟩
 have hbase:¬ base g:=h.nb s g hg;have hother:∀ t b,t≠s→F t b→w'.heap[b]? = w.heap[b]? := fun t b ht hb=>hw.block b (h.lt hb) (fun e=>by
  have:=yp e;subst this;exact h.dj t s b ht hb hg)
 refine h.upd (fun t=>t=s) ((h.r.repriv (qvI hi.isRoot)).wrote (.inr ⟨s,hg⟩) hns hw) ⟨hw.os,hw.tape,hw.output,hw.size,fun k hk=>hw.block k (h.base_le hk) (fun e=>by
  have:=yp e;subst this;exact hbase hk)⟩ (fun _ _ _=>Iff.rfl) hkeep (fun _ _ _=>Iff.rfl) (fun t b ht hb=>hother t b ht hb) (fun _ _ _ _ _=>Iff.rfl)
  (fun t ht=>?_) (fun t b ht hb=>h.nb t b hb) (fun t t' b ht hne hb=>h.dj t t' b hne hb) (fun t ht hr b hb=>?_) (fun t ht hr=>?_) (fun t s' r ht=>?_) (fun t s' r ht=>?_)
 ·have e:=qck (fr:=fr) (p:=p) (z:=z') (hh:=hh') ht;rw[e];obtain⟨e1,e2⟩:=qdB fr s t;exact⟨e1,fun hr=>⟨e2 hr,rfl⟩⟩
 ·subst ht;have:=(qD (z':=z') (hh':=hh') hi).isRoot;rw[hr] at this;cases this
 ·subst ht;exact .tree _ _ p z' hh' c (qD hi) hR
 ·by_cases hts:t=s
  ·subst hts;have:=(qD (z':=z') (hh':=hh') hi).isRoot;rw[ht] at this;cases this
  ·rw[qck hts] at ht;obtain⟨e1,e2⟩:=qeN ht
   by_cases hss:s'=s
   ·subst hss;refine .inr (h.turnRef hi hkeep hR ?_ e1 (e2.resolve_left (fun e=>e rfl)) (qD hi));exact fun g' hg' _=>(hR.blk g' (by rw[hg'];rfl)).1
   ·exact .inl ⟨hss,e1,rfl⟩
 ·by_cases hts:t=s
  ·subst hts;have:=(qD (z':=z') (hh':=hh') hi).isRoot;rw[ht] at this;cases this
  ·rw[qck hts] at ht;obtain⟨e1,e2⟩:=qeO ht;exact .inl ⟨e2,e1,rfl⟩
theorem PM.plain_F {w:World} {S:qa}:∀ (q:PSh) (rd:Rdr) (y:Den q.sh) (F:Nat→Prop),q.plain=true→PM w S q rd y F→∀ b,¬ F b
 | .leaf s,rd,y,F,_,h,b=>by simp only[PM] at h;exact h.1 b
 | .parr n e,rd,y,F,_,h,b=>by simp only[PM] at h;exact h.1 b
 | .osl _ _,_,_,_,hp,_,_=>by cases hp
 | .psl _ _,_,_,_,hp,_,_=>by cases hp
 | .ppair a c,rd,y,F,hp,h,b=>by
  simp only[PSh.plain,yf] at hp;simp only[PM] at h;obtain⟨F1,F2,h1,h2,_,h4⟩:=h;intro hb;rcases (h4 b).1 hb with hb | hb
  ·exact PM.plain_F a rd y.1 F1 hp.1 h1 b hb
  ·exact PM.plain_F c _ y.2 F2 hp.2 h2 b hb
theorem PM.of_cells {w:World} {S:qa}:∀ (q:PSh) (rd:Rdr) (y:Den q.sh) (cs:List Value),q.plain=true→RdC w S q.sh y cs→(∀ (i:Nat) (v:Value),cs[i]? = some v→rd i=some v)→PM w S q rd y (fun _=>False)
 | .leaf s,rd,y,cs,_,h,hr=>by simp only[PM];exact⟨fun _ h=>h,cs,h,hr⟩
 | .parr n e,rd,y,cs,_,h,hr=>by simp only[PM];exact⟨fun _ h=>h,cs,h,hr⟩
 | .osl _ _,_,_,_,hp,_,_=>by cases hp
 | .psl _ _,_,_,_,hp,_,_=>by cases hp
 | .ppair a c,rd,y,cs,hp,h,hr=>by
  simp only[PSh.plain,yf] at hp;simp only[RdC] at h;obtain⟨c1,c2,rfl,h1,h2⟩:=h;have hl:=RdC.length _ _ _ h1;rw[PSh.size_eq] at hl;simp only[PM];refine⟨fun _=>False,fun _=>False,PM.of_cells a rd y.1 c1 hp.1 h1 (fun i v hv=>hr i v ?_),PM.of_cells c _ y.2 c2 hp.2 h2 (fun i v hv=>hr _ v ?_),fun _ h=>h.elim,fun _=>by simp⟩
  ·rw[yM (List.getElem?_eq_some_iff.1 hv).1];exact hv
  ·rw[yN (by omega),hl];rw[show a.size+i - a.size=i by omega];exact hv
theorem PM.room {w:World} {S:qa} {y:Den q.sh} {F:Nat→Prop} {fz:Nat×Nat} (h:PM w S q (blkR w g o) y F) (hg:w.heap[g]? = some (.cells cur T fz)) (hz:q.size≠0):o+q.size≤cur.size:=by
 have key:∀ i v,blkR w g o i=some v→o+i < cur.size:=fun i v hv=>by
  simp only[blkR,World.cell?,hg,Option.isSome_none,yq,if_false] at hv;exact(Array.getElem?_eq_some_iff.1 hv).1
 have last:∀ (q:PSh) (rd:Rdr) (y:Den q.sh) (F:Nat→Prop),PM w S q rd y F→q.size≠0→∃ v,rd (q.size - 1)=some v:=by
  intro q;induction q with
  | leaf s =>
   intro rd y F h hz;simp only[PM] at h;obtain⟨_,cs,h1,h2⟩:=h;have hl:=RdC.length _ _ _ h1;simp only[PSh.size] at hz ⊢;exact⟨_,h2 (s.size - 1) cs[s.size - 1] (yO (by omega))⟩
  | parr n e =>
   intro rd y F h hz;simp only[PM] at h;obtain⟨_,cs,h1,h2⟩:=h;have hl:=RdC.length _ _ _ h1;simp only[PSh.size,Sh.size] at hz hl ⊢;exact⟨_,h2 (n*e.size - 1) cs[n*e.size - 1] (yO (by omega))⟩
  | osl te e=>intro rd y F h hz;simp only[PM] at h;obtain⟨v,h1,_⟩:=h;exact⟨v,h1⟩
  | psl te e=>intro rd y F h hz;simp only[PM] at h;obtain⟨v,h1,_⟩:=h;exact⟨v,h1⟩
  | ppair a b iha ihb =>
   intro rd y F h hz;simp only[PM] at h;obtain⟨F1,F2,h1,h2,_⟩:=h;simp only[PSh.size] at hz ⊢
   by_cases hb:b.size=0
   ·rw[hb] at hz ⊢;obtain⟨v,hv⟩:=iha rd y.1 F1 h1 (by omega);exact⟨v,hv⟩
   ·obtain⟨v,hv⟩:=ihb _ y.2 F2 h2 hb;exact⟨v,by rw[← hv];congr 1;omega⟩
 obtain⟨v,hv⟩:=last q _ y F h hz;have:=key _ v hv;omega
theorem qfK {t:TypeId} {s:Sh} (hT:TyOk1 P E.toEnv t s) {w:World} (hg:w.heap[g]? = some (.cells cur T (0,0))) (hl:v.cells.size=s.size) (hr:o+s.size≤cur.size) (h1:∀ u∈v.cells.toList,u.oneCell'=true) :
 (Instr.storeAt t (.pointer (some ⟨g,o,none⟩)) v).run P w=.ok () (w.setRow g (cur.toList.take o++v.cells.toList++cur.toList.drop (o+s.size)).toArray):=by
 have hst:=run_storeCells_at P g o T v.cells.toList 0 cur w hg (by simp only[Nat.add_zero,Array.length_toList,hl];omega) h1;simp only[Nat.add_zero,Array.length_toList,hl] at hst;unfold Instr.storeAt Instr.sureAddr;simp only;show ((pure (⟨g,o,none⟩:Addr):Sem Addr).bind _).run P w=_;rw[Sem.run_bind',yu,ye];unfold storeVar;rw[yh,hT.sizeOf,ye,if_neg (by omega)];exact hst
theorem qfL {k:Nat} {vs:List Value} (hg:w.heap[g]? = some (.cells cur T (0,0))) (hl:vs.length=k) (hr:o+k≤cur.size) :
 qqJ w (w.setRow g (cur.toList.take o++vs++cur.toList.drop (o+k)).toArray) (.blk g o) k∧∀ i v,vs[i]? = some v→blkR (w.setRow g (cur.toList.take o++vs++cur.toList.drop (o+k)).toArray) g o i=some v:=by
 have hh:=setRow_heap w g cur (cur.toList.take o++vs++cur.toList.drop (o+k)).toArray T (0,0) hg;have hsz:cur.toList.length=cur.size:=Array.length_toList;refine⟨⟨cur,_,T,(0,0),hg,hh,by simp;omega,fun i hi=>?_⟩,fun i v hv=>?_⟩
 ·rw[List.getElem?_toArray,← Array.getElem?_toList];rcases hi with hi | hi
  ·rw[yl,yM (by rw[yz];omega),List.getElem?_take_of_lt hi]
  ·rw[yN (by rw[yn,yz];omega),yn,yz,Nat.min_eq_left (by omega),List.getElem?_drop,hl];congr 1;omega
 ·have hlt:=(List.getElem?_eq_some_iff.1 hv).1;simp only[blkR,World.cell?,hh,Option.isSome_none,yq,if_false];rw[List.getElem?_toArray,yl,yN (by rw[yz];omega),yz,Nat.min_eq_left (by omega),yM (by omega)];rw[show o+i - o=i by omega];exact hv
theorem Focus.at_blk {z:Den p.sh} {F:Nat→Prop} {y:Den q.sh} {Fq:Nat→Prop} (k:Focus w S p c z (fun b=>F b∧c.block≠some b) r q y (.blk g o) Fq) (h:Root w S p z hh c F) :
 F g∧(∀ o,¬ S g o)∧∃ (cur:Array Value) (T:TypeId),w.heap[g]? = some (.cells cur T (0,0)):=by
 rcases k.uns g rfl with hh | ⟨h1,h2⟩
 ·obtain⟨e1,e2,cur,T,e3,_⟩:=h.blk g hh;exact⟨e1,e2,cur,T,e3⟩
 ·rcases k.blk g rfl with hh | hh
  ·exact⟨hh.1,h1,h2⟩
  ·obtain⟨e1,e2,cur,T,e3,_⟩:=h.blk g hh;exact⟨e1,e2,cur,T,e3⟩
theorem RP.val_top (h:RP P base w0 S0 S fr gv a w F) {x:Den p.sh} (ht:fr t=.pval s []) (hs:fr s=.pv p x hh):p.isSl=true∧tv gv a t=tv gv a s:=by
 obtain⟨p',x',h',c,k1,q,y,c',i1,i2,i3,i4,i5,i6,i7⟩:=h.val t s [] ht;rw[hs] at k1;generalize tv gv a s=v at k1;cases k1 with
 | pv _ _ _ _ hv =>
  have hsl:q.isSl=true:=by
   cases q <;> first | rfl | exact i3.elim
  have hq:q=p∧c'=.val v:=by
   cases p <;> (simp only[getPP,ya,yD] at i2;simp only[locP,ya,yb] at i4;exact⟨i2.1.symm,i4.2.symm⟩)
  obtain⟨rfl,rfl⟩:=hq;refine⟨hsl,?_⟩;have h5:v.cells[0]? = some (tv gv a t):=i5;rw[qQ hv hsl] at h5;exact(yp h5).symm
theorem RP.keptTop (h:RP P base w0 S0 S fr gv a w F) {z:Den p.sh} (h':RP P base w0 S0 S (fr.turn s p z hh) gv a w' F) {z0:Den p.sh} {h0:Option (List PStep)} 
 (hi:IsRoot (fr s) v p z0 h0 c):RP P base w0 S0 S (fr.keepTop (fr.turn s p z hh) s) gv a w' F:=by
 have key:∀ t,fr.keepTop (fr.turn s p z hh) s t=fr.turn s p z hh t∨(fr t=.pval s []∧t≠s∧fr.keepTop (fr.turn s p z hh) s t=.pval s []∧fr.turn s p z hh t=.bad∧∃ p x h,fr s=.pv p x h):=fun t=>by
  unfold Fr.keepTop;split
  ·rename_i s' e;split
   ·rename_i hc;obtain⟨rfl,hne⟩:=hc;split
    ·rename_i p x h e2;exact .inr ⟨e,hne,rfl,by rw[qck hne];simp[Fr.sweepK,e],_,_,_,e2⟩
    ·exact .inl rfl
   ·exact .inl rfl
  ·exact .inl rfl
 have hroot:∀ t,(fr.keepTop (fr.turn s p z hh) s t).isRoot=(fr.turn s p z hh t).isRoot∧((fr.turn s p z hh t).isRoot=true→fr.keepTop (fr.turn s p z hh) s t=fr.turn s p z hh t):=fun t=>by
  rcases key t with e | ⟨_,_,e1,e2,_⟩
  ·rw[e];exact⟨rfl,fun _=>rfl⟩
  ·rw[e1,e2];exact⟨rfl,fun e=>by cases e⟩
 refine h'.upd (fun _=>False) ((h'.r.rebase (fun k hk=>hk)).repriv (fun t=>?_)) (Kept.refl _ _) (fun _ _ _=>Iff.rfl) (Keeps.refl _ _) (fun _ _ _=>Iff.rfl) (fun _ _ _ _=>rfl) (fun _ _ _ _ _=>Iff.rfl)
  (fun t _=>⟨(hroot t).1,fun hr=>⟨(hroot t).2 hr,rfl⟩⟩) (fun _ _ hf=>hf.elim) (fun _ _ _ hf=>hf.elim) (fun _ hf=>hf.elim) (fun _ hf=>hf.elim) (fun t s' r ht=>?_) (fun t s' r ht=>?_)
 ·rcases key t with e | ⟨_,_,e1,e2,_⟩
  ·exact .inl e
  ·rw[e1,e2];exact .inr ⟨rfl,rfl⟩
 ·rcases key t with e | ⟨_,_,e1,_,_⟩
  ·rw[e] at ht;exact .inl ⟨fun hf=>hf,ht,rfl⟩
  ·rw[e1] at ht;cases ht
 ·rcases key t with e | ⟨e0,hne,e1,_,p1,x1,h1,e2⟩
  ·rw[e] at ht;exact .inl ⟨fun hf=>hf,ht,rfl⟩
  ·rw[e1] at ht;cases ht;right;obtain⟨hsl,hv⟩:=h.val_top e0 e2;have hp:p1=p:=by
    rw[e2] at hi;generalize hq:v=v' at hi;cases hi;rfl
   subst hp;have hts:fr.turn s p1 z hh s=.pv p1 z hh:=by rw[qkJ,e2];rfl
   have hpl:qax (s+1) (fr.turn s p1 z hh) (.tmp s)=some (false,s,[]):=by
    unfold qax;simp only[hts,hsl,if_true];rw[if_neg (by omega)]
   obtain⟨y,hy,_,p2,z2,hh2,c2,k1,_,_,k2⟩:=h'.place hpl;obtain rfl:s=y:=by simpa using hy
   refine⟨p2,z2,hh2,c2,?_,by rw[hv];exact k2 rfl⟩;rw[(hroot s).2 (by rw[hts];rfl)];exact k1
theorem RP.sData (h:RP P base w0 S0 S fr gv a w F) (hT:TyOk P E.toEnv) {o:Oper} (hdst:o.dst=none) {x y:Operand} {t:TypeId} {z z':Den p.sh} {y0 y1:Den q.sh} {oy:Lab}
 (hop:o.op=.store t x y) (hp:qax a.tmps.size fr x=some (true,s,r)) (ht:treeV fr s=some ⟨p,z,none⟩) (hg:getPP p z r=some ⟨q,y0⟩) (hty:(E.ti t).sh=some q.sh) (hpl:q.plain=true)
 (hy:rdo E.toEnv fr true t y=(true,.dat q.sh y1 oy)) (hset:setPP p z r q y1=some z') (hz:q.size≠0) :
 qh P o a w (PPost P base w0 S0 a.tmps.size gv w S F False (fr.keepTop (fr.turn s p z' none) s)):=by
 obtain⟨u,rfl,hu,c,h1,h2,h3,_⟩:=h.placeT hp ht;obtain⟨g,o',Fq,k1,k2,k3⟩:=qih h2 (h3 rfl) hg;rw[qE gv a u hu] at k1;have hcs:=qdb (qt h.r hy).1;have hcl:=RdC.length _ _ _ hcs;have hq:q.sh.size=q.size:=PSh.size_eq q;have hFg:F s g∧∀ o,¬ S g o:=by
  obtain⟨e1,e2,_⟩:=k3.at_blk h2;exact⟨e1,e2⟩
 obtain⟨cur,T,hcur⟩:=(k3.at_blk h2).2.2;have hroom:=k3.part.room hcur hz;have hrun:(execOp a.eval o).run P w=.ok .skip (w.setRow g (cur.toList.take o'++(a.eval y).cells.toList++cur.toList.drop (o'+q.size)).toArray):=by
  have e1:=qfK (E:=E) (hT t _ hty) hcur (o:=o') (v:=a.eval y) (by simpa using hcl) (by rw[hq];exact hroom) (RdC.oneCell _ _ _ hcs);rw[hq] at e1;unfold execOp;simp only[hop];rw[k1,yh,e1];rfl
 obtain⟨m1,m2⟩:=qfL (w:=w) (o:=o') hcur (vs:=(a.eval y).cells.toList) (k:=q.size) (by rw[hcl,hq]) hroom;generalize hw':w.setRow g (cur.toList.take o'++(a.eval y).cells.toList++cur.toList.drop (o'+q.size)).toArray=w' at hrun m1 m2;have hgr:w.grownBy w' (some g):=by
  rw[← hw'];exact⟨rfl,rfl,rfl,by simp,fun k _ hk=>setRow_other w g k _ (fun e=>hk (by rw[e]))⟩
 have hkeep:Keeps w S w' S:=fun b o2 hs=>⟨hs,qj (hgr.block b (h.r.slt b o2 hs) (fun e=>by
  have:=yp e;subst this;exact hFg.2 o2 hs)) o2⟩
 have hFq:=PM.plain_F q _ _ _ hpl k3.part;obtain⟨z2,n1,n2⟩:=k3.back w' S y1 (fun _=>False) hkeep (fun b hb hne=>hgr.block b (h.lt hb.1.1) hne) m1 (fun g' hg' hne=>hgr.block g' (h.lt (h2.blk g' hg').1) (fun e=>hne e.symm)) (fun _ _ _=>Iff.rfl)
  (PM.of_cells q _ y1 _ hpl (RdC.keeps hkeep _ _ _ hcs) m2) (fun _ hb=>hb.elim) (fun _ _ hb=>hb.elim) (fun _ _ hb=>hb.elim)
 rw[hset] at n1;obtain rfl:=yp n1;have hcore:PM w' S p (c.rdr w') z' (fun b=>F s b∧c.block≠some b):=n2.congrF fun b=>⟨fun hb=>hb.elim False.elim (·.1),fun hb=>.inr ⟨hb,hFq b⟩⟩;have hroot:Root w' S p z' none c (F s):=by
  refine⟨fun g' hg'=>?_,hcore,fun v hv hsl=>?_⟩
  ·obtain⟨e1,e2,cc,T',e3,e4⟩:=h2.blk g' hg';refine⟨e1,e2,?_⟩
   by_cases hgg:g'=g
   ·subst hgg;rw[hcur] at e3;simp only[ya,Obj.cells.injEq,and_true] at e3;obtain⟨rfl,rfl⟩:=e3;obtain⟨cu,cu',te,fz,f1,f2,f3,_⟩:=m1;rw[hcur] at f1;simp only[ya,Obj.cells.injEq] at f1;obtain⟨rfl,rfl,rfl⟩:=f1;exact⟨cu',_,f2,f3.trans e4⟩
   ·exact⟨cc,T',(hgr.block g' (h.lt e1) (fun e=>hgg (yp e))).trans e3,e4⟩
  ·subst hv;have hvk:valOk p v:=by
    generalize fr s=av at h1;generalize tv gv a s=vv at h1;cases h1 with
    | pv _ _ _ _ hv=>exact hv
   exact qkH (qfJ hvk hcore hsl) (fun b hb=>hb.1)
 refine qh.skip hrun ⟨by rw[hdst];rfl,S,F,?_,hkeep,fun hf=>hf.elim⟩;rw[hdst];exact h.keptTop (h.turned h1 hFg.1 hFg.2 hgr hroot) h1
end
end
section
open Go.RowKit Go.Lib
variable {k d:Nat} {te:TypeId} {val:Value} {v:AV} {S':qa} {w':World} {Fd:Nat→Prop} {e:Sh} {o:Oper}
def bareD:(s:Sh)→Den s→Prop
 | .sl _,l=>l=[]
 | .pair a b,x=>bareD a x.1∧bareD b x.2
 | .arr _ e,l=>∀ x∈l,bareD e x
 | _,_=>True
theorem qeP {α:Type} {R R':α→List Value→Prop}:∀ {l:List α} {vs:List Value},(∀ x∈l,∀ vs,R x vs→R' x vs)→qd R l vs→qd R' l vs
 | [],_,_,h=>h
 | x :: _,_,hm,⟨v1,v2,e,h1,h2⟩=>⟨v1,v2,e,hm x (List.mem_cons_self ..) _ h1,qeP (fun y hy=>hm y (List.mem_cons_of_mem _ hy)) h2⟩
theorem RdC.bare {w w':World} {S S':qa}:∀ (s:Sh) (x:Den s) (vs:List Value),bareD s x→RdC w S s x vs→RdC w' S' s x vs
 | .bool,_,_,_,h=>by simpa only[RdC] using h
 | .byte,_,_,_,h=>by simpa only[RdC] using h
 | .int _,_,_,_,h=>by simpa only[RdC] using h
 | .str,_,_,_,h=>by simpa only[RdC] using h
 | .sl e,x,vs,hf,h=>by
  have hf':x=[]:=hf;subst hf';simp only[RdC] at h ⊢;obtain⟨A,cap,cs,h1,h2,h3,h4⟩:=h;have hcs:cs=[]:=h3;subst hcs;exact⟨A,cap,[],h1,h2,rfl,fun hh=>absurd rfl hh⟩
 | .unit,_,_,_,h=>by simpa only[RdC] using h
 | .pair a b,_,_,hf,h=>by
  simp only[RdC] at h ⊢;obtain⟨v1,v2,e,h1,h2⟩:=h;exact⟨v1,v2,e,RdC.bare a _ _ hf.1 h1,RdC.bare b _ _ hf.2 h2⟩
 | .arr n e,l,vs,hf,h=>by
  simp only[RdC] at h ⊢;exact⟨h.1,qeP (fun x hx vs hr=>RdC.bare e x vs (hf x hx) hr) h.2⟩
theorem qeQ:∀ (s:Sh) (x:Den s),s.flat=true→bareD s x
 | .bool,_,_=>trivial
 | .byte,_,_=>trivial
 | .int _,_,_=>trivial
 | .str,_,_=>trivial
 | .sl _,_,h=>by cases h
 | .unit,_,_=>trivial
 | .pair a b,x,h=>by
  simp only[Sh.flat,yf] at h;exact⟨qeQ a _ h.1,qeQ b _ h.2⟩
 | .arr _ e,l,h=>fun x _=>qeQ e x h
theorem qeR:∀ (s:Sh),bareD s (dflt s)
 | .bool=>trivial
 | .byte=>trivial
 | .int _=>trivial
 | .str=>trivial
 | .sl _=>rfl
 | .unit=>trivial
 | .pair a b=>⟨qeR a,qeR b⟩
 | .arr n e=>fun x hx=>by
  have hx':x∈List.replicate n (dflt e):=hx;obtain rfl:=List.eq_of_mem_replicate hx';exact qeR e
theorem qii {α:Type} {R:α→List Value→Prop} (hR:∀ x vs,R x vs→vs.length=k) {l:List α} {xs:List Value} (h:qd R l xs) {w:World} {g:Nat} {cur:Array Value} {fz:Nat×Nat}
 (hg:w.heap[g]? = some (.cells cur te fz)) (hx:cur.toList.take (l.length*k)=xs) {n:Nat} {x:α} (hn:l[n]? = some x):∃ cs,R x cs∧∀ (i:Nat) (v:Value),cs[i]? = some v→blkR w g (n*k) i=some v:=by
 obtain⟨hlt,rfl⟩:=List.getElem?_eq_some_iff.1 hn;refine⟨_,qd.at hR n h hlt,fun i v hv=>?_⟩;have hlen:=qd.length hR h;have hi:=(List.getElem?_eq_some_iff.1 hv).1;simp only[yz,yK] at hi;rw[List.getElem?_take_of_lt (by omega),List.getElem?_drop,← hx] at hv;have hle:(n+1)*k≤l.length*k:=yC _ hlt;rw[Nat.add_mul,Nat.one_mul] at hle;rw[List.getElem?_take_of_lt (by omega),Array.getElem?_toList] at hv;simp only[blkR,World.cell?,hg,Option.isSome_none,yq,if_false];exact hv
section
theorem R.widen {B X:Nat→Prop} (h:R B w S S fr a w) (hX:∀ k,X k→k < w.heap.size) (ho:∀ t l e b,(fr t).lab=some (l,e)→(a.tmps.getD t undef).ownBlock=some b→¬ X b)
 (hb:∀ t s (x:Den s) b,fr t=.box s x→a.tmps.getD t undef=.pointer (some ⟨b,0,none⟩)→¬ X b):R (fun k=>B k∨X k) w S S fr a w where
 below:=Kept.refl _ _
 base_le:=fun k hk=>hk.elim (h.base_le k) (hX k)
 old:=fun _ _ _=>Iff.rfl
 kp:=Keeps.refl _ _
 slt:=h.slt
 dfr:=h.dfr
 rd:=h.rd
 cp:=h.cp
 sls:=h.sls
 own:=fun t e x te he=>by
  obtain⟨xs,h1,h2,h3,h4⟩:=h.own t e x te he;exact⟨xs,h1,h2,h3,fun b hb' hk=>hk.elim (h4 b hb') (ho t t te b (by rw[he];rfl) hb')⟩
 dist:=h.dist
 box:=fun t s x he=>by
  obtain⟨b,⟨h1,h2⟩,h3⟩:=h.box t s x he;exact⟨b,⟨fun hk=>hk.elim h1 (hb t s x b he h3),h2⟩,h3⟩
 boxd:=h.boxd
 boxo:=h.boxo
 badr:=h.badr
 clm:=h.clm
theorem RP.newRoot (h:RP P base w0 S0 S fr gv a w F) (hd:d < a.tmps.size) (g:Grew w S w' S') (hnew:∀ b,Fd b→w.heap.size≤b∧b < w'.heap.size)
 (hv:v.isRoot=true) (hr:RootAny P w' S' Fd v val):RP P base w0 S0 S' (fr.putP d v) gv (a.put (some d) val) w' (fun t b=>(t=d∧Fd b)∨(t≠d∧F t b)):=by
 have hk:=g.keeps h.r.slt;have htv:∀ t,t≠d→tv gv (a.put (some d) val) t=tv gv a t:=fun t ht=>by rw[qcW gv a d val t hd,if_neg ht]
 have htd:tv gv (a.put (some d) val) d=val:=by rw[qcW gv a d val d hd,if_pos rfl]
 have hvague:=qu hv;have hplain:v.plain=true:=by cases v <;> first | rfl | cases hv
 have hR0:R (fun k=>base k∨∃ t,F t k) w S S' ((fr.sweep d).put d v) (a.put (some d) val) w':=((h.rsweep d).grow g).put_plain hd (qfR hvague _ _ _) hplain;have hR1:=hR0.rebase (b2:=fun k=>base k∨∃ t,t≠d∧F t k) (fun k hk=>hk.imp id (fun ⟨t,ht⟩=>⟨t,ht.2⟩));have hlab:∀ t l e b,((fr.sweep d).put d v t).lab=some (l,e)→((a.put (some d) val).tmps.getD t undef).ownBlock=some b→b < w.heap.size:=fun t l e b hl hb=>by
  unfold Fr.put at hl;split at hl
  ·rw[qar hvague] at hl;cases hl
  ·rename_i ht;rw[qL a d val t hd,if_neg ht] at hb;exact(h.rsweep d).own_lt' (qaI hl).1 hb
 have hbox:∀ t s (x:Den s) b,(fr.sweep d).put d v t=.box s x→(a.put (some d) val).tmps.getD t undef=.pointer (some ⟨b,0,none⟩)→b < w.heap.size:=fun t s x b hl hb=>by
  unfold Fr.put at hl;split at hl
  ·rw[hl] at hv;cases hv
  ·rename_i ht;rw[qL a d val t hd,if_neg ht] at hb;exact(h.rsweep d).box_lt (qaU hl) hb
 have hR2:=hR1.widen (X:=Fd) (fun k hk=>(hnew k hk).2) (fun t l e b hl hb hX=>by have:=hlab t l e b hl hb;have:=(hnew b hX).1;omega)
  (fun t s x b hl hb hX=>by have:=hbox t s x b hl hb;have:=(hnew b hX).1;omega)
 refine h.upd (fun t=>t=d) (hR2.rebase (fun k hk=>?_)) ⟨g.below.os,g.below.tape,g.below.output,g.below.size,fun k hk=>g.below.block k (h.base_le hk)⟩ (fun b o hB=>g.old b o (h.base_le hB)) hk
  (fun t ht b=>⟨fun hh=>hh.elim (fun hh=>absurd hh.1 ht) (·.2),fun hh=>.inr ⟨ht,hh⟩⟩) (fun t b _ hb=>g.below.block b (h.lt hb)) (fun t b o _ hb=>g.old b o (h.lt hb))
  (fun t ht=>?_) (fun t b ht hb=>?_) (fun t t' b ht hne hb hb'=>?_) (fun t ht hr' b hb=>?_) (fun t ht hr'=>?_) (fun t s r ht=>?_) (fun t s r ht=>?_)
 ·rcases hk with hk | ⟨t,⟨rfl,ht⟩ | ht⟩
  ·exact .inl (.inl hk)
  ·exact .inr ht
  ·exact .inl (.inr ⟨t,ht⟩)
 ·obtain⟨e1,e2⟩:=qaz fr d v ht;exact⟨e1,fun hh=>⟨e2 hh,htv t ht⟩⟩
 ·subst ht;rcases hb with hb | hb
  ·intro hB;have:=h.base_le hB;have:=(hnew b hb.2).1;omega
  ·exact absurd rfl hb.1
 ·subst ht;rcases hb with hb | hb
  ·rcases hb' with hb' | hb'
   ·exact hne hb'.1.symm
   ·have:=h.lt hb'.2;have:=(hnew b hb.2).1;omega
  ·exact absurd rfl hb.1
 ·subst ht;rw[qo,hv] at hr';cases hr'
 ·subst ht;rw[qo,htd];have e:(fun b=>(t=t∧Fd b)∨(t≠t∧F t b))=Fd:=funext fun b=>propext ⟨fun hh=>hh.elim (·.2) (fun hh=>absurd rfl hh.1),fun hh=>.inl ⟨rfl,hh⟩⟩;rw[e];exact hr
 ·by_cases htd':t=d
  ·subst htd';rw[qo] at ht;rw[ht] at hv;cases hv
  ·obtain⟨e1,e2⟩:=qeo ht htd';exact .inl ⟨e2,e1,htv t htd'⟩
 ·by_cases htd':t=d
  ·subst htd';rw[qo] at ht;rw[ht] at hv;cases hv
  ·obtain⟨e1,e2⟩:=qep ht htd';exact .inl ⟨e2,e1,htv t htd'⟩
theorem RP.newRootO (h:RP P base w0 S0 S fr gv a w F) (hd:d < a.tmps.size) (g:Grew w S w' S') (hnew:∀ b,Fd b→(w.heap.size≤b∧b < w'.heap.size)∨F d b)
 (hv:v.isRoot=true) (hr:RootAny P w' S' Fd v val):RP P base w0 S0 S' (fr.putP d v) gv (a.put (some d) val) w' (fun t b=>(t=d∧Fd b)∨(t≠d∧F t b)):=by
 have hk:=g.keeps h.r.slt;have htv:∀ t,t≠d→tv gv (a.put (some d) val) t=tv gv a t:=fun t ht=>by rw[qcW gv a d val t hd,if_neg ht]
 have htd:tv gv (a.put (some d) val) d=val:=by rw[qcW gv a d val d hd,if_pos rfl]
 have hvague:=qu hv;have hplain:v.plain=true:=by cases v <;> first | rfl | cases hv
 have hR0:R (fun k=>base k∨∃ t,F t k) w S S' ((fr.sweep d).put d v) (a.put (some d) val) w':=((h.rsweep d).grow g).put_plain hd (qfR hvague _ _ _) hplain;have hR1:=hR0.rebase (b2:=fun k=>base k∨∃ t,t≠d∧F t k) (fun k hk=>hk.imp id (fun ⟨t,ht⟩=>⟨t,ht.2⟩));have hlabF:∀ t l e b,((fr.sweep d).put d v t).lab=some (l,e)→((a.put (some d) val).tmps.getD t undef).ownBlock=some b→¬ F d b:=fun t l e b hl hb hF=>by
  have h1:=hR0.cp t l e hl;cases hf:(fr.sweep d).put d v l with
  | dat s x o =>
   have hl2:=hR0.lab_own hl;rw[hf] at hl2;simp only[AV.lab] at hl2;subst hl2;obtain⟨e',rfl⟩:=hR0.sls l s x _ hf;obtain⟨xs,_,_,_,k4⟩:=hR0.own l e' x e hf;exact k4 b (by rw[h1.2];exact hb) (.inr ⟨d,hF⟩)
  | _=>have hl2:=hR0.lab_own hl;rw[hf] at hl2;simp[AV.lab] at hl2
 have hboxF:∀ t s (x:Den s) b,(fr.sweep d).put d v t=.box s x→(a.put (some d) val).tmps.getD t undef=.pointer (some ⟨b,0,none⟩)→¬ F d b:=fun t s x b hl hb hF=>by
  obtain⟨b',⟨k2,_,_⟩,e⟩:=hR0.box t s x hl;rw[hb] at e;obtain rfl:b=b':=by simpa using e
  exact k2 (.inr ⟨d,hF⟩)
 have hltn:∀ b,Fd b→b < w'.heap.size:=fun b hb=>(hnew b hb).elim (·.2) (fun hh=>yH (h.lt hh) g.below.size);have hlab:∀ t l e b,((fr.sweep d).put d v t).lab=some (l,e)→((a.put (some d) val).tmps.getD t undef).ownBlock=some b→b < w.heap.size:=fun t l e b hl hb=>by
  unfold Fr.put at hl;split at hl
  ·rw[qar hvague] at hl;cases hl
  ·rename_i ht;rw[qL a d val t hd,if_neg ht] at hb;exact(h.rsweep d).own_lt' (qaI hl).1 hb
 have hbox:∀ t s (x:Den s) b,(fr.sweep d).put d v t=.box s x→(a.put (some d) val).tmps.getD t undef=.pointer (some ⟨b,0,none⟩)→b < w.heap.size:=fun t s x b hl hb=>by
  unfold Fr.put at hl;split at hl
  ·rw[hl] at hv;cases hv
  ·rename_i ht;rw[qL a d val t hd,if_neg ht] at hb;exact(h.rsweep d).box_lt (qaU hl) hb
 have hR2:=hR1.widen (X:=Fd) hltn (fun t l e b hl hb hX=>(hnew b hX).elim (fun hh=>by have:=hlab t l e b hl hb;omega) (hlabF t l e b hl hb))
  (fun t s x b hl hb hX=>(hnew b hX).elim (fun hh=>by have:=hbox t s x b hl hb;omega) (hboxF t s x b hl hb))
 refine h.upd (fun t=>t=d) (hR2.rebase (fun k hk=>?_)) ⟨g.below.os,g.below.tape,g.below.output,g.below.size,fun k hk=>g.below.block k (h.base_le hk)⟩ (fun b o hB=>g.old b o (h.base_le hB)) hk
  (fun t ht b=>⟨fun hh=>hh.elim (fun hh=>absurd hh.1 ht) (·.2),fun hh=>.inr ⟨ht,hh⟩⟩) (fun t b _ hb=>g.below.block b (h.lt hb)) (fun t b o _ hb=>g.old b o (h.lt hb))
  (fun t ht=>?_) (fun t b ht hb=>?_) (fun t t' b ht hne hb hb'=>?_) (fun t ht hr' b hb=>?_) (fun t ht hr'=>?_) (fun t s r ht=>?_) (fun t s r ht=>?_)
 ·rcases hk with hk | ⟨t,⟨rfl,ht⟩ | ht⟩
  ·exact .inl (.inl hk)
  ·exact .inr ht
  ·exact .inl (.inr ⟨t,ht⟩)
 ·obtain⟨e1,e2⟩:=qaz fr d v ht;exact⟨e1,fun hh=>⟨e2 hh,htv t ht⟩⟩
 ·subst ht;rcases hb with hb | hb
  ·intro hB;rcases hnew b hb.2 with hh | hh
   ·have:=h.base_le hB;omega
   ·exact h.nb _ _ hh hB
  ·exact absurd rfl hb.1
 ·subst ht;rcases hb with hb | hb
  ·rcases hb' with hb' | hb'
   ·exact hne hb'.1.symm
   ·rcases hnew b hb.2 with hh | hh
    ·have:=h.lt hb'.2;omega
    ·exact h.dj _ _ _ (fun e=>hne e) hh hb'.2
  ·exact absurd rfl hb.1
 ·subst ht;rw[qo,hv] at hr';cases hr'
 ·subst ht;rw[qo,htd];have e:(fun b=>(t=t∧Fd b)∨(t≠t∧F t b))=Fd:=funext fun b=>propext ⟨fun hh=>hh.elim (·.2) (fun hh=>absurd rfl hh.1),fun hh=>.inl ⟨rfl,hh⟩⟩;rw[e];exact hr
 ·by_cases htd':t=d
  ·subst htd';rw[qo] at ht;rw[ht] at hv;cases hv
  ·obtain⟨e1,e2⟩:=qeo ht htd';exact .inl ⟨e2,e1,htv t htd'⟩
 ·by_cases htd':t=d
  ·subst htd';rw[qo] at ht;rw[ht] at hv;cases hv
  ·obtain⟨e1,e2⟩:=qep ht htd';exact .inl ⟨e2,e1,htv t htd'⟩
theorem qtG {l:List (Den e)} (hg:Grew w S w' S') (hown:qcb w' S' (· < w.heap.size) te e val l) (hf:∀ x∈l,bareD e x) :
 Grew w S w' (fun b o=>S' b o∧val.ownBlock≠some b)∧RootAny P w' (fun b o=>S' b o∧val.ownBlock≠some b) (fun b=>val.ownBlock=some b) (.pv (.psl te (.leaf e)) l none) val∧∀ b,val.ownBlock=some b→w.heap.size≤b∧b < w'.heap.size:=by
 obtain⟨xs,h1,h2,h3,h4⟩:=hown;have hnew:∀ b,val.ownBlock=some b→w.heap.size≤b∧b < w'.heap.size:=fun b hb=>⟨Nat.le_of_not_lt (h4 b hb),(h1.lt b hb).2⟩;refine⟨⟨hg.below,fun b o hb=>⟨fun hh=>(hg.old b o hb).1 hh.1,fun hh=>⟨(hg.old b o hb).2 hh,fun e=>by have:=(hnew b e).1;omega⟩⟩,fun b o hh=>hg.lt b o hh.1⟩,?_,hnew⟩;have hone:val.oneCell'=true:=by
  rcases h1.2 with ⟨rfl,_⟩ | ⟨g,cap,cur,rfl,_⟩ <;> rfl
 have hpm:PM w' (fun b o=>S' b o∧val.ownBlock≠some b) (.psl te (.leaf e)) (valR val) l (fun b=>val.ownBlock=some b):=by
  simp only[PM];refine⟨val,by show val.cells[0]? = some val;cases val <;> first | rfl | (simp[Value.oneCell'] at hone),?_⟩;rcases h1.2 with ⟨rfl,h0⟩ | ⟨g,cap,cur,rfl,_,k2,k3,k4,k5,k6⟩
  ·exact .inl ⟨rfl,yF h0,fun b hb=>by cases hb⟩
  ·refine .inr ⟨g,cap,cur,fun _ _=>False,rfl,k2,k3,k4,k5,fun o ho=>ho.2 rfl,fun n x hn=>?_,fun _ _ _ h=>h,fun _ _ _ _ h=>h.elim,fun _ _ h=>h.elim,fun b=>?_⟩
   ·obtain⟨cs,m1,m2⟩:=qii (RdC.length e) h2 k2 k6 hn;exact⟨fun _ h=>h,cs,RdC.bare e x cs (hf x (List.mem_of_getElem? hn)) m1,m2⟩
   ·simp[Value.ownBlock,eq_comm]
 have hvk:valOk (.psl te (.leaf e)) val:=by unfold valOk PSh.agg;simpa using hone
 have hcore:PM w' (fun b o=>S' b o∧val.ownBlock≠some b) (.psl te (.leaf e)) ((Spot.val val).rdr w') l (fun b=>val.ownBlock=some b∧(Spot.val val).block≠some b):=hpm.congrF fun b=>⟨fun hb=>⟨hb,fun e=>by cases e⟩,fun hb=>hb.1⟩;exact .tree _ _ (.psl te (.leaf e)) l none (.val val) (.pv _ _ _ _ hvk) ⟨(fun g hg=>by cases hg),hcore,(fun v hv hsl=>by cases hv;exact qkH (qfJ hvk hcore hsl) (fun b hb=>hb.1))⟩
def GlOk (gl:Nat→Option (Sigma Den)) (w:World) (S:qa):Prop:=∀ g s (x:Den s),gl g=some ⟨s,x⟩→Rd w S (.pointer (some ⟨g,0,none⟩)) (.adr s x)
theorem GlOk.keeps {gl:Nat→Option (Sigma Den)} {w:World} {S:qa} (h:GlOk gl w S) (hk:Keeps w S w' S'):GlOk gl w' S':=fun g s x e=>(h g s x e).keeps hk
theorem qBt {E:EnvP} {fr:Fr} {l:List (Den e)} (he:eff E.toEnv fr true o=some (true,.dat (.sl e) l (some (k,te)))) (hf:(e.flat||qkQ o.op)=true):∀ x∈l,bareD e x:=fun x hx=>by
 rw[yR] at hf;rcases hf with hf | hf
 ·exact qeQ e x hf
 ·unfold eff at he;unfold qkQ at hf;split at hf
  ·rename_i t n m hop;rw[hop] at he;simp only at he;split at he
   ·split at he
    ·simp only[ya,yb] at he;obtain⟨_,he⟩:=he;obtain⟨h4,h5,_⟩:=AV.dat.inj he;obtain rfl:_=e:=by simpa using h4
     obtain rfl:=eq_of_heq h5;obtain rfl:=List.eq_of_mem_replicate hx;exact qeR _
    ·cases he
   ·cases he
  ·cases hf
theorem RP.made (h:RP P base w0 S0 S fr gv a w F) (hT:TyOk P E.toEnv) (hF:FnsOk P E.toEnv w S) (hdst:o.dst=some d) (hd:d < a.tmps.size) {l:List (Den e)} 
 (he:eff E.toEnv fr true o=some (true,.dat (.sl e) l (some (k,te)))) (hf:(e.flat||qkQ o.op)=true) :
 qh P o a w (PPost P base w0 S0 a.tmps.size gv w S F ((fr d).isRoot=false) (fr.putP d (.pv (.psl te (.leaf e)) l none))):=by
 refine(qMX h.r hT hF he).mono fun a' w' ⟨S',val,g,hr,ha⟩=>?_;obtain⟨e',x,h1,h2⟩:=hr.own k te rfl;obtain⟨h4,h5,_⟩:=AV.dat.inj h1;obtain rfl:e=e':=by simpa using h4
 obtain rfl:=eq_of_heq h5;obtain⟨k1,k2,k3⟩:=qtG g h2 (qBt he hf);subst ha;rw[hdst];exact⟨qg _ _ _,_,_,h.newRoot hd k1 k3 rfl k2,k1.keeps h.r.slt,fun ht t b hb=>⟨k1.below.block b (h.lt hb),t,.inr ⟨qaX h ht hb,hb⟩⟩⟩
end
end
section
open Go.RowKit Go.Lib
variable {S':qa} {v:Value} {p:PSh}
theorem qbj {α:Type} {R:α→List Value→Prop} {k:Nat} {cur:List Value}:∀ (l:List α) (o:Nat),(∀ n x,l[n]? = some x→∃ cs,R x cs∧cs.length=k∧∀ (i:Nat) (v:Value),cs[i]? = some v→cur[(o+n)*k+i]? = some v) →
 (o+l.length)*k≤cur.length→qd R l ((cur.drop (o*k)).take (l.length*k))
 | [],o,_,_=>by simp[qd]
 | x :: l,o,h,hle=>by
  obtain⟨cs,h1,h2,h3⟩:=h 0 x rfl;have ih:=qbj l (o+1) (fun n y hn=>by
   obtain⟨cs,k1,k2,k3⟩:=h (n+1) y (by simpa using hn);exact⟨cs,k1,k2,fun i v hv=>by rw[show o+1+n=o+(n+1) by omega];exact k3 i v hv⟩) (by rw[show o+1+l.length=o+(x :: l).length by simp;omega];exact hle)
  simp only[yg] at hle ⊢;rw[show (o+(l.length+1))*k=o*k+(l.length*k+k) by rw[Nat.add_mul,Nat.add_mul,Nat.one_mul]] at hle;refine⟨cs,(cur.drop ((o+1)*k)).take (l.length*k),?_,h1,ih⟩;apply List.ext_getElem?
  intro i;rw[show (l.length+1)*k=k+l.length*k by rw[Nat.add_mul,Nat.one_mul];omega];rcases Nat.lt_or_ge i k with hi | hi
  ·rw[yM (by omega),List.getElem?_take_of_lt (by omega),List.getElem?_drop];have hlt:i < cs.length:=by omega
   have:=h3 i cs[i] (yO hlt);rw[Nat.add_zero] at this;rw[this,yO hlt]
  ·rw[yN (by omega),h2];rcases Nat.lt_or_ge i (k+l.length*k) with hj | hj
   ·rw[List.getElem?_take_of_lt hj,List.getElem?_take_of_lt (by omega),List.getElem?_drop,List.getElem?_drop];congr 1;rw[Nat.add_mul,Nat.one_mul];omega
   ·rw[yW (by simp;omega),yW (by simp;omega)]
section
theorem qij {te:TypeId} {e:Sh} {l:List (Den e)} {xs:List Value} (h1:qY w 0 te e.size v l.length xs) (h2:qd (RdC w S' e) l xs) (hS:∀ b,v.ownBlock=some b→∀ o,o < xs.length→S' b o):RdC w S' (.sl e) l [v]:=by
 simp only[RdC];rcases h1.2 with ⟨rfl,h0⟩ | ⟨g,cap,cur,fz,rfl,_,k2,_,k3,k4,k5,k6⟩
 ·have hnil:l=[]:=yF h0;subst hnil;exact⟨none,0,[],rfl,yv _,rfl,fun hh=>absurd rfl hh⟩
 ·refine⟨some ⟨g,0,none⟩,cap,xs,rfl,k3,h2,fun _=>⟨_,rfl,rfl,fun i u hu=>⟨?_,?_⟩⟩⟩
  ·have:=(List.getElem?_eq_some_iff.1 hu).1;simp only[yE];exact hS g rfl i this
  ·have c2:=h1.cells (g:=g) rfl i u hu;rw[qdm _ _ rfl] at c2;exact c2
theorem PM.open {S':qa} (hS:∀ b o,S b o→S' b o):∀ (p:PSh) (rd:Rdr) (x:Den p.sh) (F:Nat→Prop),PM w S p rd x F→(∀ b,F b→∀ o,S' b o)→∃ cs,RdC w S' p.sh x cs∧∀ (i:Nat) (v:Value),cs[i]? = some v→rd i=some v
 | .leaf s,rd,x,F,h,hF=>by
  simp only[PM] at h;obtain⟨_,cs,h1,h2⟩:=h;exact⟨cs,RdC.keeps (fun b o hs=>⟨hS b o hs,rfl⟩) s x cs h1,h2⟩
 | .parr n e,rd,x,F,h,hF=>by
  simp only[PM] at h;obtain⟨_,cs,h1,h2⟩:=h;exact⟨cs,RdC.keeps (fun b o hs=>⟨hS b o hs,rfl⟩) (.arr n e) x cs h1,h2⟩
 | .osl te e,rd,l,F,h,hF=>by
  simp only[PM] at h;obtain⟨v,h1,⟨xs,h2,h3⟩,h4,h5⟩:=h;refine⟨[v],qij h2 (h3.mono (RdC.keeps (fun b o hs=>⟨hS b o hs,rfl⟩) e)) (fun b hb o _=>hF b ((h4 b).2 hb) o),fun i u hu=>?_⟩;cases i with
  | zero=>simp at hu;subst hu;exact h1
  | succ i=>simp at hu
 | .psl te e,rd,l,F,h,hF=>by
  simp only[PM] at h;obtain⟨v,h1,h2⟩:=h;refine⟨[v],?_,fun i u hu=>?_⟩
  ·rcases h2 with ⟨rfl,h3,_⟩ | ⟨g,cap,cur,Fe,rfl,k2,k3,k4,k5,k6,k7,k8,k9,k10,k11⟩
   ·have h3':l=[]:=h3;subst h3';simp only[RdC];exact⟨none,0,[],rfl,yv _,rfl,fun hh=>absurd rfl hh⟩
   ·have hle:List.length l*e.size≤cur.toList.length:=by rw[show cur.toList.length=cur.size from Array.length_toList,k5];exact yC _ k3
    have hch:qd (RdC w S' e.sh) l ((cur.toList.drop (0*e.size)).take (List.length l*e.size)):=qbj l 0 (fun n x hn=>by
     obtain⟨cs,m1,m2⟩:=PM.open hS e _ x (Fe n) (k7 n x hn) (fun b hb o=>hF b ((k11 b).2 (.inr ⟨n,hb⟩)) o);have hl:=RdC.length _ _ _ m1;rw[PSh.size_eq] at hl;refine⟨cs,m1,hl,fun i v hv=>?_⟩;have:=m2 i v hv;simp only[blkR,World.cell?,k2,Option.isSome_none,yq,if_false] at this;rw[yE,Array.getElem?_toList];exact this) (by rw[yE];exact hle)
    rw[Nat.zero_mul,yw] at hch;simp only[RdC];refine⟨some ⟨g,0,none⟩,cap,_,rfl,k3,hch,fun _=>⟨_,rfl,rfl,fun i u hu=>⟨?_,?_⟩⟩⟩
    ·exact hF g ((k11 g).2 (.inl rfl)) _
    ·have hi:=(List.getElem?_eq_some_iff.1 hu).1;rw[yz] at hi;rw[List.getElem?_take_of_lt (by omega),Array.getElem?_toList] at hu;simp only[World.cell?,k2,Option.isSome_none,yq,if_false,yE];exact hu
  ·cases i with
   | zero=>simp at hu;subst hu;exact h1
   | succ i=>simp at hu
 | .ppair a b,rd,x,F,h,hF=>by
  simp only[PM] at h;obtain⟨F1,F2,h1,h2,_,h4⟩:=h;obtain⟨c1,k1,k2⟩:=PM.open hS a rd x.1 F1 h1 (fun k hk=>hF k ((h4 k).2 (.inl hk)));obtain⟨c2,k3,k4⟩:=PM.open hS b _ x.2 F2 h2 (fun k hk=>hF k ((h4 k).2 (.inr hk)));have hl:=RdC.length _ _ _ k1;rw[PSh.size_eq] at hl;refine⟨c1++c2,?_,fun i v hv=>?_⟩
  ·simp only[RdC];exact⟨c1,c2,rfl,k1,k3⟩
  ·rcases Nat.lt_or_ge i c1.length with hlt | hge
   ·rw[yM hlt] at hv;exact k2 i v hv
   ·rw[yN hge] at hv;have:=k4 _ v hv;rw[hl] at this hge;rw[show a.size+(i - a.size)=i by omega] at this;exact this
theorem R.reveal {B X:Nat→Prop} (h:R B w S S fr a w) (hXB:∀ b,X b→B b) (hS:∀ b o,S b o→S' b o) (hS2:∀ b o,¬ X b→(S' b o↔S b o)) (hlt:∀ b o,S' b o→b < w.heap.size) {fr':Fr} {s:Nat}
 (hfr:∀ t,fr' t=fr t∨((fr t).vague=true∧Rd w S' (a.tmps.getD t undef) (fr' t)∧(∀ u (x:Den u),fr' t≠.box u x)∧(∀ u r,fr' t≠.badr u r∧fr' t≠.clom u r)∧(∀ u (x:Den u) l,fr' t=.dat u x (some l)→∃ e,u=.sl e) ∧
  ∀ l te,(fr' t).lab=some (l,te)→l=s∧fr' t=fr' s∧a.tmps.getD t undef=a.tmps.getD s undef))
 (hs:(fr s).vague=true) (hown:∀ te e (x:List (Den e)),fr' s=.dat (.sl e) x (some (s,te))→qcb w S' (fun k=>B k∧¬ X k) te e (a.tmps.getD s undef) x∧∀ b,(a.tmps.getD s undef).ownBlock=some b→X b) :
 R (fun k=>B k∧¬ X k) w S' S' fr' a w:=by
 have hk:Keeps w S w S':=fun b o hs=>⟨hS b o hs,rfl⟩;have hlab:∀ t l te,(fr' t).lab=some (l,te)→(fr' t=fr t∧l≠s)∨(l=s∧fr' t=fr' s∧a.tmps.getD t undef=a.tmps.getD s undef):=fun t l te he=>by
  rcases hfr t with e | ⟨_,_,_,_,_,e⟩
  ·left;refine⟨e,?_⟩;rintro rfl;rw[e] at he;have:=(h.cp t _ te he).1;rw[this] at hs;rw[qar hs] at he;cases he
  ·exact .inr (e l te he)
 have hold:∀ t l te,(fr t).lab=some (l,te)→fr' t=fr t:=fun t l te he=>by
  rcases hfr t with e | ⟨e,_⟩
  ·exact e
  ·rw[qar e] at he;cases he
 have hbx:∀ t u (x:Den u),fr' t=.box u x→fr' t=fr t:=fun t u x he=>by
  rcases hfr t with e | ⟨_,_,e,_⟩
  ·exact e
  ·exact absurd he (e u x)
 have hbx':∀ t u (x:Den u),fr t=.box u x→fr' t=fr t:=fun t u x he=>by
  rcases hfr t with e | ⟨e,_⟩
  ·exact e
  ·rw[he] at e;cases e
 have hxo:∀ t l te b,(fr t).lab=some (l,te)→(a.tmps.getD t undef).ownBlock=some b→¬ X b:=fun t l te b hl hb hX=>by
  have h1:=h.cp t l te hl;have h2:(fr l).lab=some (l,te):=by rw[h1.1];exact hl
  cases hf:fr l with
  | dat u x o =>
   rw[hf] at h2;simp only[AV.lab] at h2;subst h2;obtain⟨e,rfl⟩:=h.sls l u x _ hf;obtain⟨_,_,_,_,k4⟩:=h.own l e x te hf;exact k4 b (by rw[h1.2];exact hb) (hXB b hX)
  | _=>rw[hf] at h2;simp[AV.lab] at h2
 have hxb:∀ t u (x:Den u) b,fr t=.box u x→a.tmps.getD t undef=.pointer (some ⟨b,0,none⟩)→¬ X b:=fun t u x b hf hb hX=>by
  obtain⟨b',⟨k1,_⟩,k2⟩:=h.box t u x hf;rw[hb] at k2;obtain rfl:b=b':=by simpa using k2
  exact k1 (hXB b hX)
 have hxs:∀ te,(fr' s).lab=some (s,te)→∀ b,(a.tmps.getD s undef).ownBlock=some b→X b:=fun te he b hb=>by
  cases hf:fr' s with
  | dat u x o =>
   rw[hf] at he;simp only[AV.lab] at he;subst he;have:∃ e,u=.sl e:=by
    rcases hfr s with e | ⟨_,_,_,_,e,_⟩
    ·rw[e] at hf;rw[hf] at hs;cases hs
    ·exact e u x _ hf
   obtain⟨e,rfl⟩:=this;exact(hown te e x hf).2 b hb
  | _=>rw[hf] at he;simp[AV.lab] at he
 exact {
  below:=Kept.refl _ _
  base_le:=fun k hk=>h.base_le k hk.1
  old:=fun _ _ _=>Iff.rfl
  kp:=Keeps.refl _ _
  slt:=hlt
  dfr:=h.dfr
  rd:=fun t=>by
   rcases hfr t with e | ⟨_,e,_⟩
   ·rw[e];exact(h.rd t).keeps hk
   ·exact e
  cp:=fun t l te he=>by
   rcases hlab t l te he with ⟨e,hne⟩ | ⟨rfl,e2,e3⟩
   ·rw[e] at he;obtain⟨k1,k2⟩:=h.cp t l te he;exact⟨by rw[e,hold l l te (by rw[k1];exact he),k1],k2⟩
   ·exact⟨e2.symm,e3.symm⟩
  sls:=fun t u x l he=>by
   rcases hfr t with e | ⟨_,_,_,_,e,_⟩
   ·exact h.sls t u x l (by rw[← e];exact he)
   ·exact e u x l he
  own:=fun t e x te he=>by
   rcases hlab t t te (by rw[he];rfl) with ⟨e1,hne⟩ | ⟨rfl,_,_⟩
   ·rw[e1] at he;obtain⟨xs,k1,k2,k3,k4⟩:=h.own t e x te he;exact⟨xs,k1,k2.mono (RdC.keeps hk e),fun b hb o=>(hS2 b o (hxo t t te b (by rw[he];rfl) hb)).trans (k3 b hb o),fun b hb hB=>k4 b hb hB.1⟩
   ·exact(hown te e x he).1
  dist:=fun l l' te te' b h1 h2 hne hb hc=>by
   rcases hlab l l te h1 with ⟨e1,n1⟩ | ⟨rfl,_,_⟩
   ·rcases hlab l' l' te' h2 with ⟨e2,n2⟩ | ⟨rfl,_,_⟩
    ·rw[e1] at h1;rw[e2] at h2;exact h.dist l l' te te' b h1 h2 hne hb hc
    ·rw[e1] at h1;exact hxo l l te b h1 hb (hxs te' h2 b hc)
   ·rcases hlab l' l' te' h2 with ⟨e2,n2⟩ | ⟨rfl,_,_⟩
    ·rw[e2] at h2;exact hxo l' l' te' b h2 hc (hxs te h1 b hb)
    ·exact hne rfl
  box:=fun t u x he=>by
   have e1:=hbx t u x he;obtain⟨b,⟨k1,k2,c,T,k3,k4⟩,k5⟩:=h.box t u x (by rw[← e1];exact he);exact⟨b,⟨fun hB=>k1 hB.1,fun o ho=>k2 o ((hS2 b o (hxb t u x b (by rw[← e1];exact he) k5)).1 ho),c,T,k3,RdC.keeps hk _ _ _ k4⟩,k5⟩
  boxd:=fun t t' u u' x x' b h1 h2=>by
   have e1:=hbx t u x h1;have e2:=hbx t' u' x' h2;exact h.boxd t t' u u' x x' b (by rw[← e1];exact h1) (by rw[← e2];exact h2)
  boxo:=fun t u x b l te h1 hb h2 hc=>by
   have e1:=hbx t u x h1;rcases hlab l l te h2 with ⟨e2,_⟩ | ⟨rfl,_,_⟩
   ·exact h.boxo t u x b l te (by rw[← e1];exact h1) hb (by rw[← e2];exact h2) hc
   ·exact hxb t u x b (by rw[← e1];exact h1) hb (hxs te h2 b hc)
  badr:=fun t u r he=>by
   rcases hfr t with e | ⟨_,_,_,e,_⟩
   ·obtain⟨u1,y,z,g,k1,k2⟩:=h.badr t u r (by rw[← e];exact he);exact⟨u1,y,z,g,by rw[hbx' u u1 y k1];exact k1,k2⟩
   ·exact absurd he (e u r).1
  clm:=fun t u r he=>by
   rcases hfr t with e | ⟨_,_,_,e,_⟩
   ·exact h.clm t u r (by rw[← e];exact he)
   ·exact absurd he (e u r).2 }
theorem qfM {v:AV} (h:v.isRef=true):v.vague=true:=by cases v <;> first | rfl | cases h
theorem qeS {x:Den p.sh} {cs:List Value} (hv:valOk p v) (h1:RdC w S' p.sh x cs) (h2:∀ (i:Nat) (u:Value),cs[i]? = some u→v.cells[i]? = some u):RdV w S' p.sh x v:=by
 have hl:=RdC.length _ _ _ h1;rw[PSh.size_eq] at hl;have hag:p.sh.agg=p.agg:=by cases p <;> rfl
 unfold RdV;unfold valOk at hv;rw[hag];split
 ·rename_i ha;rw[if_pos ha] at hv;obtain⟨cc,rfl,hs⟩:=hv;refine⟨cc,rfl,?_⟩;have:cc.toList=cs:=by
   apply List.ext_getElem?
   intro i;rcases Nat.lt_or_ge i cs.length with hlt | hge
   ·have:=h2 i cs[i] (yO hlt);rw[yO hlt,Array.getElem?_toList];exact this
   ·rw[yW hge,yW (by simp;omega)]
  rw[this];exact h1
 ·rename_i ha;rw[if_neg ha] at hv;have hc:v.cells.toList=[v]:=by cases v <;> first | rfl | (simp[Value.oneCell'] at hv)
  have h1s:p.size=1:=by
   rw[← PSh.size_eq];exact qkV (by rw[hag];simpa using ha)
  match cs,hl.trans h1s with
  | [u],_ =>
   have:=h2 0 u rfl;have h3:v.cells[0]? = some v:=by cases v <;> first | rfl | (simp[Value.oneCell'] at hv)
   rw[h3] at this;obtain rfl:=yp this;exact h1
def qcT:(p:PSh)→Den p.sh→Nat→Prop
 | .osl _ e,l,o=>o < List.length l*e.size
 | .psl _ e,l,o=>match e,l with
  | .leaf u,l=>o < List.length l*u.size
  | _,_=>True
 | _,_,_=>True
theorem qvJ {x:Den p.sh} {F:Nat→Prop} (hv:valOk p v) (hp:PM w S p (valR v) x F) (s:Nat) :
 Rd w (fun b o=>S b o∨(F b∧qcT p x o)) v (openV s p x)∧(∀ u (y:Den u),openV s p x≠.box u y)∧(∀ u r,openV s p x≠.badr u r∧openV s p x≠.clom u r)∧(∀ u (y:Den u) l,openV s p x=.dat u y (some l)→∃ e,u=.sl e) ∧
  (∀ l te,(openV s p x).lab=some (l,te)→l=s) ∧
  ∀ te e (y:List (Den e)) (B:Nat→Prop),openV s p x=.dat (.sl e) y (some (s,te))→(∀ b,F b→¬ B b)→qcb w (fun b o=>S b o∨(F b∧qcT p x o)) B te e v y∧∀ b,v.ownBlock=some b→F b:=by
 have gen:(∀ o,qcT p x o)→∃ cs,RdC w (fun b o=>S b o∨(F b∧qcT p x o)) p.sh x cs∧∀ (i:Nat) (u:Value),cs[i]? = some u→v.cells[i]? = some u:=fun hl =>
  PM.open (fun b o hs=>.inl hs) p _ x F hp (fun b hb o=>.inr ⟨hb,hl o⟩)
 have row:∀ (te:TypeId) (e:Sh) (l:List (Den e)) (S':qa) (xs:List Value),(∀ b o,S b o→S' b o)→w.ownsRow 0 te e.size v l.length xs→qd (RdC w S' e) l xs→(∀ b,v.ownBlock=some b→F b∧∀ o,(S' b o↔o < l.length*e.size)) →
  Rd w S' v (.dat (.sl e) l (some (s,te)))∧∀ B:Nat→Prop,(∀ b,F b→¬ B b)→qcb w S' B te e v l∧∀ b,v.ownBlock=some b→F b:=fun te e l S' xs hS h1 h2 h3=>by
  have hl:=qd.length (RdC.length e) h2;refine⟨.dat _ _ _ _ ?_,fun B hB=>⟨⟨xs,h1,h2,fun b hb o=>(h3 b hb).2 o,fun b hb=>hB b (h3 b hb).1⟩,fun b hb=>(h3 b hb).1⟩⟩;unfold RdV;exact qij (qaV h1) h2 (fun b hb o ho=>((h3 b hb).2 o).2 (by omega))
 cases p with
 | leaf u =>
  obtain⟨cs,h1,h2⟩:=gen (fun _=>trivial);exact⟨.dat _ _ _ _ (qeS hv h1 h2),(fun _ _ e=>by cases e),(fun _ _=>⟨(fun e=>by cases e),(fun e=>by cases e)⟩),(fun _ _ _ e=>by cases e),(fun _ _ e=>by cases e),(fun _ _ _ _ e=>by cases e)⟩
 | parr n u =>
  obtain⟨cs,h1,h2⟩:=gen (fun _=>trivial);exact⟨.dat _ _ _ _ (qeS hv h1 h2),(fun _ _ e=>by cases e),(fun _ _=>⟨(fun e=>by cases e),(fun e=>by cases e)⟩),(fun _ _ _ e=>by cases e),(fun _ _ e=>by cases e),(fun _ _ _ _ e=>by cases e)⟩
 | ppair b c =>
  obtain⟨cs,h1,h2⟩:=gen (fun _=>trivial);exact⟨.dat _ _ _ _ (qeS hv h1 h2),(fun _ _ e=>by cases e),(fun _ _=>⟨(fun e=>by cases e),(fun e=>by cases e)⟩),(fun _ _ _ e=>by cases e),(fun _ _ e=>by cases e),(fun _ _ _ _ e=>by cases e)⟩
 | osl te e =>
  simp only[PM] at hp;obtain⟨v',h1,⟨xs,h2,h3⟩,h4,h5⟩:=hp;have hvv:v'=v:=by
   have h3':v.cells[0]? = some v:=qQ hv rfl;have h1':v.cells[0]? = some v':=h1;rw[h3'] at h1';exact(yp h1').symm
  subst hvv;have hl:=qd.length (RdC.length e) h3;refine⟨.dat _ _ _ _ ?_,(fun _ _ e=>by cases e),(fun _ _=>⟨(fun e=>by cases e),(fun e=>by cases e)⟩),(fun _ _ _ e=>by cases e),(fun _ _ e=>by cases e),(fun _ _ _ _ e=>by cases e)⟩;show RdC w (fun b o=>S b o∨(F b∧qcT (.osl te e) x o)) (.sl e) x [v'];exact qij h2 (h3.mono (RdC.keeps (fun b o hs=>⟨.inl hs,rfl⟩) e)) (fun b hb o ho=>.inl ((h5 b ((h4 b).2 hb) o).2 (by omega)))
 | psl te e =>
  by_cases hleaf:∃ u,e=.leaf u
  ·obtain⟨u,rfl⟩:=hleaf;simp only[PM] at hp;obtain⟨v',h1,h2⟩:=hp;have hvv:v'=v:=by
    have h3':v.cells[0]? = some v:=qQ hv rfl;have h1':v.cells[0]? = some v':=h1;rw[h3'] at h1';exact(yp h1').symm
   subst hvv;have hrow:∃ xs,w.ownsRow 0 te u.size v' (List.length x) xs∧qd (RdC w S u) x xs∧∀ b,v'.ownBlock=some b→F b∧∀ o,¬ S b o:=by
    rcases h2 with ⟨rfl,h3,_⟩ | ⟨g,cap,cur,Fe,rfl,k2,k3,k4,k5,k6,k7,k8,k9,k10,k11⟩
    ·have h3':x=[]:=h3;subst h3';exact⟨[],World.ownsRow_nil w _ _ _,rfl,fun b hb=>by cases hb⟩
    ·have hsz:(PSh.leaf u).size=u.size:=rfl;have hle:List.length x*u.size≤cur.toList.length:=by rw[show cur.toList.length=cur.size from Array.length_toList,k5];exact yC _ k3
     have hch:qd (RdC w S u) x ((cur.toList.drop (0*u.size)).take (List.length x*u.size)):=qbj x 0 (fun n y hn=>by
      have:=k7 n y hn;simp only at this;obtain⟨_,cs,m1,m2⟩:=this;refine⟨cs,m1,RdC.length _ _ _ m1,fun i z hz=>?_⟩;have:=m2 i z hz;simp only[blkR,World.cell?,k2,Option.isSome_none,yq,if_false] at this;rw[yE,Array.getElem?_toList];exact this) (by rw[yE];exact hle)
     rw[Nat.zero_mul,yw] at hch;refine⟨_,⟨by rw[yz];omega,.inr ⟨g,cap,cur,rfl,Nat.zero_le _,k2,k3,k4,k5,rfl⟩⟩,hch,fun b hb=>?_⟩;simp only[Value.ownBlock,ya] at hb;subst hb;exact⟨(k11 _).2 (.inl rfl),k6⟩
   obtain⟨xs,h3,h4,h5⟩:=hrow;obtain⟨k1,k2⟩:=row te u x (fun b o=>S b o∨(F b∧qcT (.psl te (.leaf u)) x o)) xs (fun b o hs=>.inl hs) h3 (h4.mono (RdC.keeps (fun b o hs=>⟨.inl hs,rfl⟩) u))
    (fun b hb=>⟨(h5 b hb).1,fun o=>⟨fun hh=>hh.elim (fun hh=>absurd hh ((h5 b hb).2 o)) (·.2),fun hh=>.inr ⟨(h5 b hb).1,hh⟩⟩⟩)
   refine⟨k1,(fun _ _ e=>by cases e),(fun _ _=>⟨(fun e=>by cases e),(fun e=>by cases e)⟩),fun _ _ _ e=>⟨_,(AV.dat.inj e).1.symm⟩,fun l te' e=>(by simp only[openV,AV.lab,ya,yb] at e;exact e.1.symm),fun te' e' y B he hB=>?_⟩;simp only[openV,AV.dat.injEq,Sh.sl.injEq] at he;obtain⟨rfl,e2,e3⟩:=he;obtain rfl:=eq_of_heq e2;simp only[ya,yb,true_and] at e3;subst e3;exact k2 B hB
  ·have ho:openV s (.psl te e) x=.dat (.sl e.sh) x none:=by cases e <;> first | rfl | exact absurd ⟨_,rfl⟩ hleaf
   have hlim:∀ o,qcT (.psl te e) x o:=fun o=>by cases e <;> first | trivial | exact absurd ⟨_,rfl⟩ hleaf
   obtain⟨cs,h1,h2⟩:=gen hlim;rw[ho];exact⟨.dat _ _ _ _ (qeS hv h1 h2),(fun _ _ e=>by cases e),(fun _ _=>⟨(fun e=>by cases e),(fun e=>by cases e)⟩),(fun _ _ _ e=>by cases e),(fun _ _ e=>by cases e),(fun _ _ _ _ e=>by cases e)⟩
end
end
section
open Go.RowKit Go.Lib
variable {S':qa} {p:PSh} {c:Spot} {Fs:Nat→Prop} {r:List PStep} {u:Value}
theorem qik (s:Nat) (p:PSh) (x:Den p.sh):(openV s p x).isRoot=false∧(openV s p x).isRef=false:=by
 cases p with
 | psl te e=>cases e <;> exact⟨rfl,rfl⟩
 | _=>exact⟨rfl,rfl⟩
section
theorem qqV {x:Den p.sh} (hR:Root w S p x none c Fs) (hv:ValAt w p c x r u Fs) (hS:∀ b o,S b o→S' b o)
 (hF:∀ b,Fs b→∀ o,S' b o) (hc:∀ v,c=.val v→r=[]∨∃ te e,p=.psl te e):∃ q y,getPP p x r=some ⟨q,y⟩∧Rd w S' u (.dat q.sh y none):=by
 obtain⟨q,y,c',k1,k2,k3,k4,k5,k6,k7⟩:=hv;obtain⟨c2,Fq,j1,j2⟩:=hR.part k2 k1 hc;rw[k4] at j1;simp only[ya,yb,true_and] at j1;subst j1;obtain⟨cs,m1,m2⟩:=PM.open hS q _ y Fq j2.part (fun b hb o=>hF b (j2.sub b hb).1 o);refine⟨q,y,k2,.dat _ _ _ _ ?_⟩;have hag:q.sh.agg=false:=by cases q <;> first | rfl | exact k3.elim
 have hsz:q.size=1:=by cases q <;> first | rfl | exact k3.elim
 have hl:=RdC.length _ _ _ m1;rw[PSh.size_eq,hsz] at hl;match cs,hl with
 | [v],_ =>
  have h0:=m2 0 v rfl;rw[k5] at h0;obtain rfl:=yp h0;unfold RdV;rw[hag];exact m1
theorem qvK {x:Den p.sh} (hR:Root w S p x none c Fs) (ha:AdrAt w S p c x r u Fs) (hS:∀ b o,S b o→S' b o)
 (hF:∀ b,Fs b→c.block≠some b→∀ o,S' b o) {q:PSh} {y:Den q.sh} (hg:getPP p x r=some ⟨q,y⟩) (hcell:∀ g o,u=.pointer (some ⟨g,o,none⟩)→∀ i,i < q.size→S' g (o+i)):Rd w S' u (.adr q.sh y):=by
 obtain⟨g,o,Fq,k1,k2,k3⟩:=qih hR ha hg;obtain⟨cs,m1,m2⟩:=PM.open hS q _ y Fq k3.part (fun b hb o=>hF b (k3.sub b hb).1 (k3.sub b hb).2 o);subst k1;have hl:=RdC.length _ _ _ m1;rw[PSh.size_eq] at hl;refine .adr _ _ _ cs m1 ⟨rfl,fun _=>⟨rfl,fun i v hv=>⟨hcell g o rfl i (by have:=(List.getElem?_eq_some_iff.1 hv).1;omega),m2 i v hv⟩⟩⟩
theorem RP.frozen (h:RP P base w0 S0 S fr gv a w F) {s n:Nat} (hn:a.tmps.size=n) {fr':Fr} (hf:fr.freeze n s=some fr') :
 ∃ S',RP P base w0 S0 S' fr' gv a w (fun t b=>t≠s∧F t b)∧Keeps w S w S':=by
 unfold Fr.freeze at hf;split at hf
 ·cases hf
 rename_i hsn;have hs:s < a.tmps.size:=by omega
 have htv:∀ t,t < a.tmps.size→tv gv a t=a.tmps.getD t undef:=fun t ht=>qE gv a t ht;have fin:∀ (S':qa) (fr':Fr),(∀ b o,S b o→S' b o)→(∀ b o,¬ F s b→(S' b o↔S b o))→(fr s).vague=true→(fr' s).isRoot=false→(fr' s).isRef=false →
  (∀ t,t≠s→(fr' t=fr t∧∀ r,fr t≠.padr s r∧fr t≠.pval s r)∨((fr t).isRef=true∧(fr' t).isRoot=false∧(fr' t).isRef=false)) →
  R (fun k=>(base k∨∃ t,F t k)∧¬ F s k) w S' S' fr' a w→∃ S',RP P base w0 S0 S' fr' gv a w (fun t b=>t≠s∧F t b)∧Keeps w S w S':=fun S' fr' hS hS2 hvg hr1 hr2 hoth hR=>by
  have hk:Keeps w S w S':=fun b o hs=>⟨hS b o hs,rfl⟩;refine⟨S',?_,hk⟩;refine h.upd (fun t=>t=s) (hR.rebase (fun k hk=>?_)) (Kept.refl _ _) (fun b o hB=>hS2 b o (fun hb=>h.nb s b hb hB)) hk (fun t ht b=>⟨(·.2),fun hh=>⟨ht,hh⟩⟩) (fun _ _ _ _=>rfl)
   (fun t b o ht hb=>hS2 b o (fun hh=>h.dj t s b ht hb hh)) (fun t ht=>?_) (fun t b ht hb=>absurd ht hb.1) (fun t t' b ht _ hb=>absurd ht hb.1) (fun t ht _ b hb=>absurd ht hb.1) (fun t ht hr=>?_) (fun t s' r ht=>?_) (fun t s' r ht=>?_)
  ·rcases hk with hk | ⟨t,ht,hk⟩
   ·exact⟨.inl hk,fun hh=>h.nb s k hh hk⟩
   ·exact⟨.inr ⟨t,hk⟩,fun hh=>h.dj t s k ht hk hh⟩
  ·rcases hoth t ht with ⟨e,_⟩ | ⟨e1,e2,_⟩
   ·rw[e];exact⟨rfl,fun _=>⟨rfl,rfl⟩⟩
   ·have:(fr t).isRoot=false:=by generalize fr t=av at e1;cases av <;> first | rfl | cases e1
    rw[e2,this];exact⟨rfl,fun hh=>by cases hh⟩
  ·subst ht;rw[hr1] at hr;cases hr
  ·by_cases hts:t=s
   ·subst hts;rw[ht] at hr2;cases hr2
   ·rcases hoth t hts with ⟨e,e2⟩ | ⟨_,_,e2⟩
    ·rw[e] at ht;exact .inl ⟨fun hss=>(e2 r).1 (by rw[ht,hss]),ht,rfl⟩
    ·rw[ht] at e2;cases e2
  ·by_cases hts:t=s
   ·subst hts;rw[ht] at hr2;cases hr2
   ·rcases hoth t hts with ⟨e,e2⟩ | ⟨_,_,e2⟩
    ·rw[e] at ht;exact .inl ⟨fun hss=>(e2 r).2 (by rw[ht,hss]),ht,rfl⟩
    ·rw[ht] at e2;cases e2
 have hlt:∀ (lim:Nat→Prop),∀ b o,(S b o∨(F s b∧lim o))→b < w.heap.size:=fun lim b o hh=>hh.elim (h.r.slt b o) (fun hh=>h.lt hh.1);have hXB:∀ b,F s b→base b∨∃ t,F t b:=fun b hb=>.inr ⟨s,hb⟩;split at hf
 ·
  rename_i p x hfs;simp only[ya] at hf;have hroot:=h.root s (by rw[hfs];rfl);rw[hfs] at hroot;generalize hvv:tv gv a s=vv at hroot;cases hroot with
  | tree _ _ p' z' hh' c' k1 k2 =>
   cases k1 with
   | pv _ _ _ _ hv =>
    have hpm:PM w S p (valR vv) x (F s):=by
     have:PM w S p ((Spot.val vv).rdr w) x (fun b=>F s b∧(Spot.val vv).block≠some b):=k2.core;exact this.congrF fun b=>⟨(·.1),fun hh=>⟨hh,fun e=>by cases e⟩⟩
    have hvs:vv=a.tmps.getD s undef:=by rw[← hvv];exact htv s hs
    obtain⟨o1,o2,o3,o4,o5,o6⟩:=qvJ hv hpm s;have hvg:(fr s).vague=true:=by rw[hfs];rfl
    have hIs:∀ p' z' hh' c',IsRoot (fr s) (tv gv a s) p' z' hh' c'→p'=p∧HEq z' x∧hh'=none∧c'=.val vv:=fun p' z' hh' c' hi=>by
     rw[hfs,hvv] at hi;cases hi with
     | pv=>exact⟨rfl,HEq.rfl,rfl,rfl⟩
    have hlim:∀ r q (y:Den q.sh),r≠[]→getPP p x r=some ⟨q,y⟩→(∀ o,qcT p x o)∨∃ te u n,p=.psl te (.leaf u)∧r=[.idx n]:=fun r q y hr hg=>by
     cases p with
     | osl te e=>cases r <;> first | exact absurd rfl hr | simp[getPP] at hg
     | psl te e =>
      cases e with
      | leaf u =>
       right;match r,hg with
       | [],_=>exact absurd rfl hr
       | [.idx n],_=>exact⟨te,u,n,rfl,rfl⟩
       | .fld i :: r,hg=>simp[getPP] at hg
       | .idx n :: _ :: _,hg=>simp[getPP] at hg
      | _=>exact .inl fun _=>trivial
     | _=>exact .inl fun _=>trivial
    have hS:∀ b o,S b o→(S b o∨(F s b∧qcT p x o)):=fun b o hh=>.inl hh;have hcv:∀ r q (y:Den q.sh),getPP p x r=some ⟨q,y⟩→r≠[]→(∃ u,locP w p (.val vv) r=some (q,u))→∀ v,Spot.val vv=.val v→r=[]∨∃ te e,p=.psl te e:=fun r q y hg hr hl v _=>by
     right;obtain⟨u,hl⟩:=hl;cases p with
     | psl te e=>exact⟨te,e,rfl⟩
     | leaf _=>cases r <;> first | exact absurd rfl hr | simp[getPP] at hg
     | osl _ _=>cases r <;> first | exact absurd rfl hr | simp[getPP] at hg
     | ppair b c =>
      match r,hl with
      | [],_=>exact absurd rfl hr
      | .idx n :: r,hl=>simp[locP] at hl
      | .fld 0 :: r,hl=>simp[locP] at hl
      | .fld (i+1) :: r,hl=>simp[locP] at hl
     | parr m e =>
      match r,hl with
      | [],_=>exact absurd rfl hr
      | [.idx n],hl=>simp[locP] at hl
      | .fld i :: r,hl=>simp[locP] at hl
      | .idx n :: _ :: _,hl=>simp[locP] at hl
    subst hf;refine fin (fun b o=>S b o∨(F s b∧qcT p x o)) _ hS (fun b o hb=>⟨fun hh=>hh.elim id (fun hh=>absurd hh.1 hb),.inl⟩) hvg (by simp only[if_true];exact(qik s p x).1) (by simp only[if_true];exact(qik s p x).2) (fun t ht=>?_) ?_
    ·simp only[if_neg ht];split
     ·rename_i s' r e
      by_cases hss:s'=s
      ·simp only[if_pos hss];right;refine⟨by rw[e];rfl,?_⟩;split
       ·exact⟨rfl,rfl⟩
       ·split
        ·exact qik s p x
        ·split <;> exact⟨rfl,rfl⟩
      ·simp only[if_neg hss];exact .inl ⟨e.symm,fun r'=>⟨(fun e'=>by rw[e] at e';cases e'),fun e'=>by rw[e] at e';cases e';exact hss rfl⟩⟩
     ·rename_i s' r e
      by_cases hss:s'=s
      ·simp only[if_pos hss];right;refine⟨by rw[e];rfl,?_⟩;split
       ·exact⟨rfl,rfl⟩
       ·split <;> exact⟨rfl,rfl⟩
      ·simp only[if_neg hss];exact .inl ⟨e.symm,fun r'=>⟨(fun e'=>by rw[e] at e';cases e';exact hss rfl),fun e'=>by rw[e] at e';cases e'⟩⟩
     ·rename_i v h1 h2;exact .inl ⟨rfl,fun r'=>⟨fun e'=>h2 s r' e',fun e'=>h1 s r' e'⟩⟩
    ·refine h.r.reveal hXB hS (fun b o hb=>⟨fun hh=>hh.elim id (fun hh=>absurd hh.1 hb),.inl⟩) (hlt _) (s:=s) (fun t=>?_) hvg (fun te e y he=>?_)
     ·by_cases hts:t=s
      ·subst hts;simp only[if_true];exact .inr ⟨hvg,by rw[← hvs];exact o1,o2,o3,o4,fun l te hl=>⟨o5 l te hl,trivial,trivial⟩⟩
      ·simp only[if_neg hts];split
       ·rename_i s' r e
        by_cases hss:s'=s
        ·subst hss;simp only[if_true];right;refine⟨by rw[e];rfl,?_⟩;obtain⟨p',z',hh',c',k3,k4⟩:=h.val t s' r e;obtain⟨e1,e2,e3,e4⟩:=hIs _ _ _ _ k3;subst e1 e3 e4;obtain rfl:=eq_of_heq e2
         by_cases htn:n≤t
         ·simp only[if_pos htn];exact⟨.bad _,(fun _ _ e=>by cases e),(fun _ _=>⟨(fun e=>by cases e),(fun e=>by cases e)⟩),(fun _ _ _ e=>by cases e),(fun _ _ e=>by cases e)⟩
         ·simp only[if_neg htn];have htt:=htv t (by omega);cases r with
          | nil =>
           simp only;obtain⟨q,y,c2,m1,m2,m3,m4,m5,_⟩:=k4;have e1:locP w p' (.val vv) []=some (p',.val vv):=by cases p' <;> rfl
           have e2:getPP p' z' []=some ⟨p',z'⟩:=by cases p' <;> rfl
           rw[e1] at m4;rw[e2] at m2;simp only[ya,yb,yD] at m2 m4;obtain⟨rfl,rfl⟩:=m4;obtain rfl:=eq_of_heq m2.2;have hsl:p'.isSl=true:=by cases p' <;> first | rfl | exact m3.elim
           have m5':vv.cells[0]? = some (tv gv a t):=m5;rw[qQ hv hsl] at m5';have htmp:a.tmps.getD t undef=a.tmps.getD s' undef:=by
            rw[← htt,← hvs];exact(yp m5').symm
           exact⟨by rw[htmp,← hvs];exact o1,o2,o3,o4,fun l te hl=>⟨o5 l te hl,trivial,htmp⟩⟩
          | cons st r =>
           simp only;have hne:st :: r≠[]:=by simp
           obtain⟨q,y,c2,m1,m2,m3,m4,m5,m6,m7⟩:=k4;rw[m2];simp only;have hall:∀ o,qcT p' z' o:=by
            rcases hlim _ q y hne m2 with hh | ⟨te,u,n',hp,hr⟩
            ·exact hh
            ·subst hp;rw[hr] at m2;simp only[getPP,ya,yD] at m2;obtain⟨rfl,_⟩:=m2;exact m3.elim
           obtain⟨q2,y2,n1,n2⟩:=qqV (S':=fun b o=>S b o∨(F s' b∧qcT p' z' o)) k2 ⟨q,y,c2,m1,m2,m3,m4,m5,m6,m7⟩ hS (fun b hb o=>.inr ⟨hb,hall o⟩) (hcv _ q y m2 hne ⟨_,m4⟩);rw[m2] at n1;simp only[ya,yD] at n1;obtain⟨rfl,n1⟩:=n1;obtain rfl:=eq_of_heq n1;exact⟨by rw[← htt];exact n2,(fun _ _ e=>by cases e),(fun _ _=>⟨(fun e=>by cases e),(fun e=>by cases e)⟩),(fun _ _ _ e=>by cases e),(fun _ _ e=>by cases e)⟩
        ·simp only[if_neg hss];exact .inl e.symm
       ·rename_i s' r e
        by_cases hss:s'=s
        ·subst hss;simp only[if_true];right;refine⟨by rw[e];rfl,?_⟩;obtain⟨p',z',hh',c',k3,k4⟩:=(h.adr t s' r e).tree (fun _ _ _ e=>by rw[hfs] at e;cases e);obtain⟨e1,e2,e3,e4⟩:=hIs _ _ _ _ k3;subst e1 e3 e4;obtain rfl:=eq_of_heq e2
         by_cases htn:n≤t
         ·simp only[if_pos htn];exact⟨.bad _,(fun _ _ e=>by cases e),(fun _ _=>⟨(fun e=>by cases e),(fun e=>by cases e)⟩),(fun _ _ _ e=>by cases e),(fun _ _ e=>by cases e)⟩
         ·simp only[if_neg htn];have htt:=htv t (by omega);split
          ·rename_i q y hg;refine⟨?_,(fun _ _ e=>by cases e),(fun _ _=>⟨(fun e=>by cases e),(fun e=>by cases e)⟩),(fun _ _ _ e=>by cases e),(fun _ _ e=>by cases e)⟩;rw[← htt];have hne:r≠[]:=by
            rintro rfl;obtain⟨q',g,o,m1,m2,_⟩:=k4.nil;have e1:locP w p' (.val vv) []=some (p',.val vv):=by cases p' <;> rfl
            rw[e1] at m2;simp at m2
           have hFg:∀ g o,tv gv a t=.pointer (some ⟨g,o,none⟩)→F s' g:=fun g o e=>by
            obtain⟨q',g',o',m1,m2,m3,m4,m5⟩:=k4.zero (by rw[hg];simp);rw[m3] at e;cases e;exact m5
           rcases hlim r q y hne hg with hall | ⟨te,u,n',hp,hr⟩
           ·exact qvK k2 k4 hS (fun b hb _ o=>.inr ⟨hb,hall o⟩) hg (fun g o e i _=>.inr ⟨hFg g o e,hall _⟩)
           ·subst hp hr;simp only[getPP,ya,yD] at hg;obtain⟨rfl,hg⟩:=hg;obtain rfl:=eq_of_heq hg;obtain⟨q',g,o,m1,m2,m3,m4,m5⟩:=k4.zero (by simp[getPP]);have hin:n' < List.length z':=m1.1;obtain⟨g1,o1',Fq,j1,j2,j3⟩:=qih (q:=.leaf u) (y:=List.getD z' n' (dflt u)) k2 k4 rfl;have hpart:=j3.part;simp only[PM] at hpart;obtain⟨_,cs,j4,j5⟩:=hpart;have hl:=RdC.length _ _ _ j4;have hloc:o1'=n'*u.size:=by
             simp only[locP] at j2;split at j2
             ·simp only[ya,yb,Spot.blk.injEq,true_and] at j2;exact j2.2.symm
             ·cases j2
            rw[j1];refine .adr _ _ _ cs (RdC.keeps (fun b o hs=>⟨.inl hs,rfl⟩) u _ cs j4) ⟨rfl,fun _=>⟨rfl,fun i v hv=>⟨.inr ⟨hFg g1 o1' j1,?_⟩,j5 i v hv⟩⟩⟩;have hi:=(List.getElem?_eq_some_iff.1 hv).1;show o1'+i < List.length z'*u.size;have:(n'+1)*u.size≤List.length z'*u.size:=yC _ hin;rw[Nat.add_mul,Nat.one_mul] at this;omega
          ·exact⟨.bad _,(fun _ _ e=>by cases e),(fun _ _=>⟨(fun e=>by cases e),(fun e=>by cases e)⟩),(fun _ _ _ e=>by cases e),(fun _ _ e=>by cases e)⟩
        ·simp only[if_neg hss];exact .inl e.symm
       ·exact .inl rfl
     ·simp only[if_true] at he;have:=o6 te e y (fun k=>(base k∨∃ t,F t k)∧¬ F s k) he (fun b hb hh=>hh.2 hb);rw[hvs] at this;exact this
 ·
  rename_i p x hfs;simp only[ya] at hf;have hroot:=h.root s (by rw[hfs];rfl);rw[hfs] at hroot;generalize hvv:tv gv a s=vv at hroot;cases hroot with
  | tree _ _ p' z' hh' c' k1 k2 =>
   cases k1 with
   | pbox _ _ _ b0 =>
    have hvg:(fr s).vague=true:=by rw[hfs];rfl
    have hvs:(Value.pointer (some ⟨b0,0,none⟩))=a.tmps.getD s undef:=by rw[← hvv];exact htv s hs
    have hIs:∀ p' z' hh' c',IsRoot (fr s) (tv gv a s) p' z' hh' c'→p'=p∧HEq z' x∧hh'=none∧c'=.blk b0 0:=fun p' z' hh' c' hi=>by
     rw[hfs,hvv] at hi;cases hi with
     | pbox=>exact⟨rfl,HEq.rfl,rfl,rfl⟩
    have hS:∀ b o,S b o→(S b o∨(F s b∧True)):=fun b o hh=>.inl hh;have hcore:PM w S p (blkR w b0 0) x (fun b=>F s b∧(Spot.blk b0 0).block≠some b):=k2.core;subst hf;refine fin (fun b o=>S b o∨(F s b∧True)) _ hS (fun b o hb=>⟨fun hh=>hh.elim id (fun hh=>absurd hh.1 hb),.inl⟩) hvg (by simp only[if_true];rfl) (by simp only[if_true];rfl) (fun t ht=>?_) ?_
    ·simp only[if_neg ht];split
     ·rename_i s' r e
      by_cases hss:s'=s
      ·simp only[if_pos hss];right;refine⟨by rw[e];rfl,?_⟩;split
       ·exact⟨rfl,rfl⟩
       ·split <;> exact⟨rfl,rfl⟩
      ·simp only[if_neg hss];exact .inl ⟨e.symm,fun r'=>⟨(fun e'=>by rw[e] at e';cases e'),fun e'=>by rw[e] at e';cases e';exact hss rfl⟩⟩
     ·rename_i s' r e
      by_cases hss:s'=s
      ·simp only[if_pos hss];right;refine⟨by rw[e];rfl,?_⟩;split
       ·exact⟨rfl,rfl⟩
       ·split <;> exact⟨rfl,rfl⟩
      ·simp only[if_neg hss];exact .inl ⟨e.symm,fun r'=>⟨(fun e'=>by rw[e] at e';cases e';exact hss rfl),fun e'=>by rw[e] at e';cases e'⟩⟩
     ·rename_i v h1 h2;exact .inl ⟨rfl,fun r'=>⟨fun e'=>h2 s r' e',fun e'=>h1 s r' e'⟩⟩
    ·refine h.r.reveal hXB hS (fun b o hb=>⟨fun hh=>hh.elim id (fun hh=>absurd hh.1 hb),.inl⟩) (hlt _) (s:=s) (fun t=>?_) hvg (fun te e y he=>?_)
     ·by_cases hts:t=s
      ·subst hts;simp only[if_true];refine .inr ⟨hvg,?_,(fun _ _ e=>by cases e),(fun _ _=>⟨(fun e=>by cases e),(fun e=>by cases e)⟩),(fun _ _ _ e=>by cases e),(fun _ _ e=>by cases e)⟩;obtain⟨cs,m1,m2⟩:=PM.open hS p _ x _ hcore (fun b hb o=>.inr ⟨hb.1,trivial⟩);rw[← hvs];exact .adr _ _ _ cs m1 ⟨rfl,fun _=>⟨rfl,fun i v hv=>⟨.inr ⟨(k2.blk b0 rfl).1,trivial⟩,m2 i v hv⟩⟩⟩
      ·simp only[if_neg hts];split
       ·rename_i s' r e
        by_cases hss:s'=s
        ·subst hss;simp only[if_true];right;refine⟨by rw[e];rfl,?_⟩;obtain⟨p',z',hh',c',k3,k4⟩:=h.val t s' r e;obtain⟨e1,e2,e3,e4⟩:=hIs _ _ _ _ k3;subst e1 e3 e4;obtain rfl:=eq_of_heq e2
         by_cases htn:n≤t
         ·simp only[if_pos htn];exact⟨.bad _,(fun _ _ e=>by cases e),(fun _ _=>⟨(fun e=>by cases e),(fun e=>by cases e)⟩),(fun _ _ _ e=>by cases e),(fun _ _ e=>by cases e)⟩
         ·simp only[if_neg htn];have htt:=htv t (by omega);obtain⟨q2,y2,n1,n2⟩:=qqV (S':=fun b o=>S b o∨(F s' b∧True)) k2 k4 hS (fun b hb o=>.inr ⟨hb,trivial⟩) (fun v e=>by cases e);rw[n1];exact⟨by rw[← htt];exact n2,(fun _ _ e=>by cases e),(fun _ _=>⟨(fun e=>by cases e),(fun e=>by cases e)⟩),(fun _ _ _ e=>by cases e),(fun _ _ e=>by cases e)⟩
        ·simp only[if_neg hss];exact .inl e.symm
       ·rename_i s' r e
        by_cases hss:s'=s
        ·subst hss;simp only[if_true];right;refine⟨by rw[e];rfl,?_⟩;obtain⟨p',z',hh',c',k3,k4⟩:=(h.adr t s' r e).tree (fun _ _ _ e=>by rw[hfs] at e;cases e);obtain⟨e1,e2,e3,e4⟩:=hIs _ _ _ _ k3;subst e1 e3 e4;obtain rfl:=eq_of_heq e2
         by_cases htn:n≤t
         ·simp only[if_pos htn];exact⟨.bad _,(fun _ _ e=>by cases e),(fun _ _=>⟨(fun e=>by cases e),(fun e=>by cases e)⟩),(fun _ _ _ e=>by cases e),(fun _ _ e=>by cases e)⟩
         ·simp only[if_neg htn];have htt:=htv t (by omega);split
          ·rename_i q y hg;refine⟨?_,(fun _ _ e=>by cases e),(fun _ _=>⟨(fun e=>by cases e),(fun e=>by cases e)⟩),(fun _ _ _ e=>by cases e),(fun _ _ e=>by cases e)⟩;rw[← htt];refine qvK k2 k4 hS (fun b hb _ o=>.inr ⟨hb,trivial⟩) hg (fun g o e i _=>.inr ⟨?_,trivial⟩);obtain⟨q',g',o',m1,m2,m3,m4,m5⟩:=k4.zero (by rw[hg];simp);rw[m3] at e;cases e;exact m5
          ·exact⟨.bad _,(fun _ _ e=>by cases e),(fun _ _=>⟨(fun e=>by cases e),(fun e=>by cases e)⟩),(fun _ _ _ e=>by cases e),(fun _ _ e=>by cases e)⟩
        ·simp only[if_neg hss];exact .inl e.symm
       ·exact .inl rfl
     ·simp only[if_true] at he;cases he
 ·cases hf
end
end
section
open Go.RowKit Go.Lib
variable {q p:PSh} {Fq G:Nat→Prop} {u:Value} {c:Spot} {r r':List PStep} {s t s' g o:Nat}
theorem qhk {w:World}:∀ (p:PSh) (g o:Nat) (r:List PStep) (q:PSh) (c':Spot),locP w p (.blk g o) r=some (q,c')→c'.block=some g∨g∈qC w p (.blk g o) r
 | .leaf s,g,o,r,q,c',h=>by
  cases r with
  | nil=>simp only[locP,ya,yb] at h;obtain⟨_,rfl⟩:=h;exact .inl rfl
  | cons a r=>simp[locP] at h
 | .osl te e,g,o,r,q,c',h=>by
  cases r with
  | nil=>simp only[locP,ya,yb] at h;obtain⟨_,rfl⟩:=h;exact .inl rfl
  | cons a r=>simp[locP] at h
 | .psl te e,g,o,r,q,c',h=>by
  match r,h with
  | [],h=>simp only[locP,ya,yb] at h;obtain⟨_,rfl⟩:=h;exact .inl rfl
  | .fld i :: r,h=>simp[locP] at h
  | .idx n :: r,h =>
   simp only[locP] at h;split at h
   ·rename_i ad x1 x2 hr;right;simp only[qC,hr];simp[Spot.block]
   ·cases h
 | .ppair a b,g,o,r,q,c',h=>by
  match r,h with
  | [],h=>simp only[locP,ya,yb] at h;obtain⟨_,rfl⟩:=h;exact .inl rfl
  | .idx n :: r,h=>simp[locP] at h
  | .fld 0 :: r,h =>
   simp only[locP] at h;simp only[qC];exact qhk a g o r q c' h
  | .fld (i+1) :: r,h =>
   simp only[locP] at h;simp only[qC];exact qhk b g _ _ q c' h
 | .parr n e,g,o,r,q,c',h=>by
  match r,h with
  | [],h=>simp only[locP,ya,yb] at h;obtain⟨_,rfl⟩:=h;exact .inl rfl
  | [.idx k],h=>simp only[locP,ya,yb] at h;obtain⟨_,rfl⟩:=h;exact .inl rfl
  | .fld i :: r,h=>simp[locP] at h
  | .idx k :: _ :: _,h=>simp[locP] at h
theorem qhl:∀ {r r':List PStep},qha r r'=true→r=r'
 | [],[],_=>rfl
 | .fld i :: r,.fld j :: r',h=>by
  simp only[qha,yf,beq_iff_eq] at h;rw[h.1,qhl h.2]
 | .idx n :: r,.idx m :: r',h=>by
  simp only[qha,yf,beq_iff_eq] at h;rw[h.1,qhl h.2]
 | [],_ :: _,h=>by simp[qha] at h
 | .fld _ :: _,[],h=>by simp[qha] at h
 | .idx _ :: _,[],h=>by simp[qha] at h
 | .fld _ :: _,.idx _ :: _,h=>by simp[qha] at h
 | .idx _ :: _,.fld _ :: _,h=>by simp[qha] at h
section
variable {P:Program} {base:Nat→Prop} {w0 w:World} {S0 S:qa} {fr:Fr} {gv:Nat→Value} {a:Act} {F:Nat→Nat→Prop}
theorem qbp {rd:Rdr} {y:Den q.sh} (hsl:q.isSl=true) (hpm:PM w S q rd y Fq) (hu:rd 0=some u):valOk q u∧Root w S q y none (.val u) Fq:=by
 have hl:∃ n,qeb q y=some n:=by cases q <;> first | exact⟨_,rfl⟩ | cases hsl
 obtain⟨n,hl⟩:=hl;obtain⟨u',h1,h2,h3⟩:=hpm.hdr hl;rw[hu] at h1;obtain rfl:=yp h1;have hag:q.agg=false:=by cases q <;> first | rfl | cases hsl
 have hv:valOk q u:=by unfold valOk;rw[hag];simpa using h3
 have hsz:q.size=1:=by cases q <;> first | rfl | cases hsl
 refine⟨hv,(fun g hg=>by cases hg),?_,fun v hv' _=>by cases hv';exact h2⟩;have:=PM.step (Keeps.refl w S) q rd (valR u) y Fq hpm (fun i hi=>by
  obtain rfl:i=0:=by omega
  rw[hu];exact qQ hv hsl) (fun _ _=>rfl) (fun _ _ _=>Iff.rfl)
 exact this.congrF fun b=>⟨fun hb=>⟨hb,fun e=>by cases e⟩,fun hb=>hb.1⟩
theorem qIH {z:Den p.sh} (h:Root w S p z none c G) (ha:ValAt w p c z r u G) {y:Den q.sh} (hg:getPP p z r=some ⟨q,y⟩)
 (hi:∀ v,c=.val v→r=[]∨p.agg=false) :
 ∃ c' Fq,locP w p c r=some (q,c')∧c'.rdr w 0=some u∧Focus w S p c z (fun b=>G b∧c.block≠some b) r q y c' Fq∧q.isSl=true∧inPP p z r:=by
 obtain⟨q',y',c',k1,k2,k3,k4,k5,k6,k7⟩:=ha;rw[hg] at k2;simp only[ya,yD] at k2;obtain⟨rfl,k2⟩:=k2;obtain rfl:=eq_of_heq k2;have hsl:q.isSl=true:=by cases q <;> first | rfl | exact k3.elim
 have hv:∀ v,c=.val v→r=[]∨∃ te e,p=.psl te e:=fun v e=>by
  subst e;rcases hi v rfl with hr | hp
  ·exact .inl hr
  ·cases p with
   | psl te e=>exact .inr ⟨te,e,rfl⟩
   | leaf s=>left;cases r with
    | nil=>rfl
    | cons a r=>simp[locP] at k4
   | osl te e=>left;cases r with
    | nil=>rfl
    | cons a r=>simp[locP] at k4
   | ppair a b=>cases hp
   | parr n e=>cases hp
 obtain⟨c2,Fq,j1,j2⟩:=h.part hg k1 hv;rw[k4] at j1;simp only[ya,yb] at j1;obtain⟨_,rfl⟩:=j1;exact⟨c',Fq,k4,k5,j2,hsl,k1⟩
theorem qme {w:World}:∀ (p:PSh) (g o:Nat) (r:List PStep) (q:PSh) (v:Value),locP w p (.blk g o) r≠some (q,.val v)
 | .leaf s,g,o,r,q,v=>by cases r <;> simp[locP]
 | .osl te e,g,o,r,q,v=>by cases r <;> simp[locP]
 | .psl te e,g,o,r,q,v=>by
  match r with
  | []=>simp[locP]
  | .fld i :: r=>simp[locP]
  | .clo _ _ :: r=>simp[locP]
  | .cel :: r=>simp[locP]
  | .idx n :: r =>
   simp only[locP];split
   ·exact qme e _ _ _ _ _
   ·simp
 | .ppair a b,g,o,r,q,v=>by
  match r with
  | []=>simp[locP]
  | .idx n :: r=>simp[locP]
  | .clo _ _ :: r=>simp[locP]
  | .cel :: r=>simp[locP]
  | .fld 0 :: r=>simp only[locP];exact qme a _ _ _ _ _
  | .fld (i+1) :: r=>simp only[locP];exact qme b _ _ _ _ _
 | .parr n e,g,o,r,q,v=>by
  match r with
  | []=>simp[locP]
  | [.idx k]=>simp[locP]
  | .fld i :: r=>simp[locP]
  | .clo _ _ :: r=>simp[locP]
  | .cel :: r=>simp[locP]
  | .idx k :: _ :: _=>simp[locP]
theorem qqW:fr.hole s r s=match fr s with
 | .pv p x _=>.pv p x (some r)
 | .pbox p x _=>.pbox p x (some r)
 | v=>v:=by unfold Fr.hole;rw[if_pos rfl];generalize fr s=av;cases av <;> rfl
theorem qaq {z:Den p.sh} {hh:Option (List PStep)} {v:Value} (h:IsRoot (fr s) v p z hh c):IsRoot (fr.hole s r s) v p z (some r) c:=by
 rw[qqW];generalize fr s=av at h;cases h with
 | pv _ _ _ _ hv=>exact .pv p z _ _ hv
 | pbox _ _ _ b=>exact .pbox p z _ b
theorem qGL (ht:t≠s):fr.hole s r t=fr t∨(fr.hole s r t=.bad∧(fr t).isRef=true):=by
 unfold Fr.hole;rw[if_neg ht];split
 ·rename_i e;split
  ·split
   ·exact .inl e.symm
   ·exact .inr ⟨rfl,by rw[e];rfl⟩
  ·exact .inl e.symm
 ·rename_i e;split
  ·split
   ·exact .inl e.symm
   ·exact .inr ⟨rfl,by rw[e];rfl⟩
  ·exact .inl e.symm
 ·exact .inl rfl
theorem qNn (hr:(fr s).isRoot=true) (t:Nat):fr.hole s r t=fr t∨((fr t).vague=true∧(fr.hole s r t).vague=true):=by
 by_cases ht:t=s
 ·subst ht;rw[qqW];refine .inr ⟨qu hr,?_⟩;generalize fr t=av at hr;cases av <;> first | rfl | cases hr
 ·rcases qGL (fr:=fr) (r:=r) ht with e | ⟨e1,e2⟩
  ·exact .inl e
  ·exact .inr ⟨qfM e2,by rw[e1];rfl⟩
theorem qII (ht:t≠s) (h:fr.hole s r t=.padr s' r'):fr t=.padr s' r'∧(s'=s→r'=r∨qaS r'=true∨ahead r' r=true):=by
 unfold Fr.hole at h;rw[if_neg ht] at h;split at h
 ·split at h
  ·split at h <;> cases h
  ·cases h
 ·rename_i e;split at h
  ·rename_i hs;split at h
   ·rename_i hp;cases h;simp only[yR] at hp;exact⟨e,fun _=>hp.imp qhl id⟩
   ·cases h
  ·rename_i hs;cases h;exact⟨e,fun e=>absurd e hs⟩
 ·rename_i h1 h2;exact absurd h (h2 s' r')
theorem qIJ (ht:t≠s) (h:fr.hole s r t=.pval s' r'):fr t=.pval s' r'∧(s'=s→ahead r' r=true):=by
 unfold Fr.hole at h;rw[if_neg ht] at h;split at h
 ·rename_i e;split at h
  ·split at h
   ·rename_i ha;cases h;exact⟨e,fun _=>ha⟩
   ·cases h
  ·rename_i hs;cases h;exact⟨e,fun e=>absurd e hs⟩
 ·split at h
  ·split at h <;> cases h
  ·cases h
 ·rename_i h1 h2;exact absurd h (h1 s' r')
theorem qfN:∀ {r' r:List PStep},ahead r' r=true→∃ n r2,r=r'++.idx n :: r2
 | [],.idx n :: r2,_=>⟨n,r2,rfl⟩
 | .fld i :: r',.fld j :: r,h=>by
  simp only[ahead,yf,beq_iff_eq] at h;obtain⟨rfl,h⟩:=h;obtain⟨n,r2,rfl⟩:=qfN h;exact⟨n,r2,rfl⟩
 | [],[],h=>by simp[ahead] at h
 | [],.fld _ :: _,h=>by simp[ahead] at h
 | .fld _ :: _,[],h=>by simp[ahead] at h
 | .fld _ :: _,.idx _ :: _,h=>by simp[ahead] at h
 | .idx _ :: _,_,h=>by simp[ahead] at h
theorem qbx {w:World}:∀ (p:PSh) (c:Spot) (r r2:List PStep) (q:PSh) (c':Spot),locP w p c r=some (q,c')→locP w p c (r++r2)=locP w q c' r2∧qC w p c (r++r2)=qC w p c r++qC w q c' r2
 | .leaf s,c,r,r2,q,c',h=>by
  cases r with
  | nil=>simp only[locP,ya,yb] at h;obtain⟨rfl,rfl⟩:=h;exact⟨rfl,rfl⟩
  | cons a r=>simp[locP] at h
 | .osl te e,c,r,r2,q,c',h=>by
  cases r with
  | nil=>simp only[locP,ya,yb] at h;obtain⟨rfl,rfl⟩:=h;exact⟨rfl,rfl⟩
  | cons a r=>simp[locP] at h
 | .psl te e,c,r,r2,q,c',h=>by
  match r,h with
  | [],h=>simp only[locP,ya,yb] at h;obtain⟨rfl,rfl⟩:=h;exact⟨rfl,rfl⟩
  | .fld i :: r,h=>simp[locP] at h
  | .idx n :: r,h =>
   simp only[locP] at h;split at h
   ·rename_i ad x1 x2 hr;obtain⟨k1,k2⟩:=qbx e _ r r2 q c' h;exact⟨by simp only[List.cons_append,locP,hr,k1],by simp only[List.cons_append,qC,hr,k2,yl]⟩
   ·cases h
 | .ppair a b,c,r,r2,q,c',h=>by
  match r,h with
  | [],h=>simp only[locP,ya,yb] at h;obtain⟨rfl,rfl⟩:=h;exact⟨rfl,rfl⟩
  | .idx n :: r,h=>simp[locP] at h
  | .fld 0 :: r,h =>
   cases c with
   | val v=>simp[locP] at h
   | blk g o =>
    simp only[locP] at h;obtain⟨k1,k2⟩:=qbx a _ r r2 q c' h;exact⟨by simp only[List.cons_append,locP,k1],by simp only[List.cons_append,qC,k2]⟩
  | .fld (i+1) :: r,h =>
   cases c with
   | val v=>simp[locP] at h
   | blk g o =>
    simp only[locP] at h;obtain⟨k1,k2⟩:=qbx b _ (.fld i :: r) r2 q c' h;simp only[List.cons_append] at k1 k2;exact⟨by simp only[List.cons_append,locP,k1],by simp only[List.cons_append,qC,k2]⟩
 | .parr n e,c,r,r2,q,c',h=>by
  match r,h with
  | [],h=>simp only[locP,ya,yb] at h;obtain⟨rfl,rfl⟩:=h;exact⟨rfl,rfl⟩
  | [.idx k],h =>
   cases c with
   | val v=>simp[locP] at h
   | blk g o =>
    simp only[locP,ya,yb] at h;obtain⟨rfl,rfl⟩:=h;cases r2 with
    | nil=>exact⟨rfl,rfl⟩
    | cons a r2=>exact⟨by simp[locP],by simp[qC]⟩
  | .fld i :: r,h=>simp[locP] at h
  | .idx k :: _ :: _,h=>simp[locP] at h
theorem qBu {z:Den p.sh} (ha:ahead r' r=true) (hv:ValAt w p c z r' u G) {y:Den q.sh} (hl:locP w p c r=some (q,.blk g o))
 (k:Focus w S p c z (fun b=>G b∧c.block≠some b) r q y (.blk g o) Fq):ValAt w p c z r' u (fun b=>G b∧¬ Fq b):=by
 obtain⟨n,r2,rfl⟩:=qfN ha;obtain⟨q0,y0,c0,i1,i2,i3,i4,i5,i6,i7⟩:=hv;obtain⟨j1,j2⟩:=qbx p c r' (.idx n :: r2) q0 c0 i4;rw[j1] at hl;have hsp:∀ b,b∈qC w p c (r'++.idx n :: r2)→¬ Fq b:=fun b hb hq=>by
  rcases k.spine b hb with h1 | h1
  ·exact h1.2 hq
  ·exact(k.sub b hq).2 h1
 have hpsl:∃ te e,q0=.psl te e:=by
  cases q0 with
  | psl te e=>exact⟨te,e,rfl⟩
  | osl te e=>simp[locP] at hl
  | _=>exact i3.elim
 obtain⟨te,e,rfl⟩:=hpsl;simp only[locP] at hl;split at hl
 ·rename_i ad x1 x2 hr;have hs2:qC w (.psl te e) c0 (.idx n :: r2)=c0.block.toList++qC w e (.blk ad.block (n*e.size)) r2:=by simp only[qC,hr]
  have hc0:∀ b,c0.block=some b→¬ Fq b:=fun b hb=>hsp b (by rw[j2,hs2,hb];simp);refine⟨_,y0,c0,i1,i2,?_,i4,i5,fun b hb=>⟨i6 b hb,hsp b (by rw[j2];exact List.mem_append_left _ hb)⟩,fun b hb=>⟨i7 b hb,hc0 b hb⟩⟩;rcases i3 with i3 | ⟨g1,cap,e1,e2,e3⟩
  ·exact .inl i3
  ·refine .inr ⟨g1,cap,e1,e2,e3,fun hq=>?_⟩;rw[i5,e1] at hr;simp only[ya,Value.slice.injEq] at hr;obtain⟨hr,_⟩:=hr;subst hr;rcases qhk e _ _ r2 q _ hl with h2 | h2
   ·exact k.out g1 h2 hq
   ·exact hsp g1 (by rw[j2,hs2];simp[h2]) hq
 ·cases hl
theorem qBv {z:Den p.sh} (ha:ahead r' r=true) (hv:qtL w p c z r' u G) {y:Den q.sh} (hl:locP w p c r=some (q,.blk g o))
 (k:Focus w S p c z (fun b=>G b∧c.block≠some b) r q y (.blk g o) Fq):qtL w p c z r' u (fun b=>G b∧¬ Fq b):=by
 obtain⟨n,r2,rfl⟩:=qfN ha;obtain⟨q0,g0,o0,i1,i2,i3,i4,i5⟩:=hv;obtain⟨j1,j2⟩:=qbx p c r' (.idx n :: r2) q0 (.blk g0 o0) i2;rw[j1] at hl;have hsp:∀ b,b∈qC w p c (r'++.idx n :: r2)→¬ Fq b:=fun b hb hq=>by
  rcases k.spine b hb with h1 | h1
  ·exact h1.2 hq
  ·exact(k.sub b hq).2 h1
 have hg:¬ Fq g0:=by
  cases q0 with
  | psl te e =>
   simp only[locP] at hl;split at hl
   ·rename_i ad x1 x2 hr;have hs2:qC w (.psl te e) (.blk g0 o0) (.idx n :: r2)=(Spot.blk g0 o0).block.toList++qC w e (.blk ad.block (n*e.size)) r2:=by simp only[qC,hr]
    exact hsp g0 (by rw[j2,hs2];simp[Spot.block])
   ·cases hl
  | parr m e =>
   cases r2 with
   | nil =>
    simp only[locP,ya,yb,Spot.blk.injEq] at hl;obtain⟨_,rfl,_⟩:=hl;exact k.out g0 rfl
   | cons x r2=>simp[locP] at hl
  | osl te e=>simp[locP] at hl
  | leaf s=>simp[locP] at hl
  | ppair a b=>simp[locP] at hl
 exact⟨q0,g0,o0,i1,i2,i3,fun b hb=>⟨i4 b hb,hsp b (by rw[j2];exact List.mem_append_left _ hb)⟩,⟨i5,hg⟩⟩
theorem Root.holed {z:Den p.sh} (h:Root w S p z none c G) {y:Den q.sh} (hl:locP w p c r=some (q,.blk g o))
 (k:Focus w S p c z (fun b=>G b∧c.block≠some b) r q y (.blk g o) Fq) (hsz:q.size≠0):Root w S p z (some r) c (fun b=>G b∧¬ Fq b):=by
 refine⟨fun g' hg'=>?_,⟨q,g,o,⟨hl,fun g' hg'=>?_,?_,?_,?_,(k.uns g rfl).imp id (·.1)⟩⟩,fun v hv hs=>?_⟩
 ·obtain⟨h1,h2,h3⟩:=h.blk g' hg';exact⟨⟨h1,fun hq=>(k.sub g' hq).2 hg'⟩,h2,h3⟩
 ·rcases k.spine g' hg' with ⟨h1,h2⟩ | h1
  ·exact .inl ⟨⟨h1.1,h2⟩,h1.2⟩
  ·exact .inr h1
 ·rcases k.blk g rfl with h1 | h1
  ·exact .inl ⟨⟨h1.1,k.out g rfl⟩,h1.2⟩
  ·exact .inr h1
 ·obtain⟨_,_,cur,T,hcur⟩:=k.at_blk h;exact⟨cur,T,hcur,k.part.room hcur hsz⟩
 ·intro w' S' y' Fq' k1 k2 k3 k4 k5 k6 k7 k8 k9;obtain⟨x',e1,e2⟩:=k.back w' S' y' Fq' k1 (fun b hb hne=>k2 b ⟨⟨hb.1.1,hb.2⟩,hb.1.2⟩ hne) k3 k4 (fun b o hb=>k5 b o ⟨⟨hb.1.1,hb.2⟩,hb.1.2⟩) k6 (fun b hb hh=>k7 b hb ⟨⟨hh.1.1,hh.2⟩,hh.1.2⟩) k8 k9;exact⟨x',e1,e2.congrF fun b=>⟨fun hb=>hb.imp id (fun hh=>⟨⟨hh.1.1,hh.2⟩,hh.1.2⟩),fun hb=>hb.imp id (fun hh=>⟨⟨hh.1.1,hh.2⟩,hh.1.2⟩)⟩⟩
 ·subst hv;have h1:=h.hdr v rfl hs;cases p with
  | psl te e =>
   rcases h1 with h1 | ⟨g1,cap,e1,e2,e3⟩
   ·exact .inl h1
   ·refine .inr ⟨g1,cap,e1,e2,e3,fun hq=>?_⟩;match r,hl with
    | [],hl=>simp[locP] at hl
    | .fld i :: r,hl=>simp[locP] at hl
    | .idx n :: r,hl =>
     simp only[locP] at hl;split at hl
     ·rename_i ad x1 x2 hr;have had:ad=⟨g1,0,none⟩:=by
       subst e1;have hr':(Value.slice (some ⟨g1,0,none⟩) (List.length z) cap).cells[0]? = some (.slice (some ad) x1 x2):=hr;simp[Value.cells] at hr';exact hr'.1.symm
      subst had;rcases qhk e _ _ r q _ hl with h2 | h2
      ·exact k.out g1 h2 hq
      ·rcases k.spine g1 (by simp only[qC,hr];exact List.mem_append_right _ h2) with h3 | h3
       ·exact h3.2 hq
       ·cases h3
     ·cases hl
  | osl te e=>exact h1
  | _=>cases hs
theorem RP.takenOut (h:RP P base w0 S0 S fr gv a w F) {d:Nat} (hd:d < a.tmps.size) (hne:s≠d) {z:Den p.sh} (hi:IsRoot (fr s) (tv gv a s) p z none c) (hR:Root w S p z none c (F s)) {y:Den q.sh}
 (hl:locP w p c r=some (q,.blk g o)) (hin:inPP p z r) (hu:blkR w g o 0=some u) (k:Focus w S p c z (fun b=>F s b∧c.block≠some b) r q y (.blk g o) Fq) (hsl:q.isSl=true) :
 RP P base w0 S0 S ((fr.hole s r).putP d (.pv q y none)) gv (a.put (some d) u) w (fun t b=>(t=d∧Fq b)∨(t≠d∧t=s∧F s b∧¬ Fq b)∨(t≠d∧t≠s∧F t b)):=by
 have hsz:q.size≠0:=by cases q <;> first | (intro e;cases e) | cases hsl
 have htv:∀ t,t≠d→tv gv (a.put (some d) u) t=tv gv a t:=fun t ht=>by rw[qcW gv a d u t hd,if_neg ht]
 have htd:tv gv (a.put (some d) u) d=u:=by rw[qcW gv a d u d hd,if_pos rfl]
 obtain⟨hv,hroot⟩:=qbp (w:=w) (S:=S) hsl k.part hu;have hsubF:∀ b,Fq b→F s b:=fun b hb=>(k.sub b hb).1;have hholed:=hR.holed hl k hsz;have hFsub:∀ b,(∃ t,(t=d∧Fq b)∨(t≠d∧t=s∧F s b∧¬ Fq b)∨(t≠d∧t≠s∧F t b))→∃ t,F t b:=fun b ⟨t,ht⟩=>by
  rcases ht with ht | ht | ht
  ·exact⟨s,hsubF b ht.2⟩
  ·exact⟨s,ht.2.2.1⟩
  ·exact⟨t,ht.2.2⟩
 have hR1:R (fun k=>base k∨∃ t,F t k) w S S ((fr.hole s r).sweep d) a w:=(h.r.repriv (qNn hi.isRoot)).repriv (fun t=>qaW _ d t);have hR2:=hR1.put_plain hd (val:=u) (v:=.pv q y none) (.pv _ _ _ _) rfl;have hrootH:∀ t,t≠d→t≠s→((fr.hole s r).putP d (.pv q y none) t).isRoot=(fr t).isRoot∧((fr t).isRoot=true→(fr.hole s r).putP d (.pv q y none) t=fr t):=fun t ht hts=>by
  obtain⟨e1,e2⟩:=qaz (fr.hole s r) d (.pv q y none) ht;rcases qGL (fr:=fr) (r:=r) hts with e | ⟨e3,e4⟩
  ·rw[e] at e1 e2;exact⟨e1,e2⟩
  ·have:(fr t).isRoot=false:=by generalize fr t=av at e4;cases av <;> first | rfl | cases e4
   rw[e3] at e1;exact⟨by rw[e1,this];rfl,fun hh=>by rw[this] at hh;cases hh⟩
 have hrs:(fr.hole s r).putP d (.pv q y none) s=fr.hole s r s:=(qaz (fr.hole s r) d _ hne).2 (qaq (r:=r) hi).isRoot;have hFs:(fun b=>(s=d∧Fq b)∨(s≠d∧s=s∧F s b∧¬ Fq b)∨(s≠d∧s≠s∧F s b))=fun b=>F s b∧¬ Fq b:=funext fun b=>propext ⟨fun hh=>by
  rcases hh with hh | hh | hh
  ·exact absurd hh.1 hne
  ·exact hh.2.2
  ·exact absurd rfl hh.2.1,fun hh=>.inr (.inl ⟨hne,rfl,hh⟩)⟩
 have hFd:(fun b=>(d=d∧Fq b)∨(d≠d∧d=s∧F s b∧¬ Fq b)∨(d≠d∧d≠s∧F d b))=Fq:=funext fun b=>propext ⟨fun hh=>by
  rcases hh with hh | hh | hh
  ·exact hh.2
  ·exact absurd rfl hh.1
  ·exact absurd rfl hh.1,fun hh=>.inl ⟨rfl,hh⟩⟩
 refine h.upd (fun t=>t=d∨t=s) (hR2.rebase (fun k hk=>hk.imp id (hFsub k))) (Kept.refl _ _) (fun _ _ _=>Iff.rfl) (Keeps.refl _ _) (fun t ht b=>?_) (fun _ _ _ _=>rfl) (fun _ _ _ _ _=>Iff.rfl)
  (fun t ht=>?_) (fun t b ht hb=>?_) (fun t t' b ht hne' hb hb'=>?_) (fun t ht hr b hb=>?_) (fun t ht hr=>?_) (fun t s' r' ht=>?_) (fun t s' r' ht=>?_)
 ·have h1:t≠d:=fun e=>ht (.inl e);have h2:t≠s:=fun e=>ht (.inr e);exact⟨fun hh=>by
   rcases hh with hh | hh | hh
   ·exact absurd hh.1 h1
   ·exact absurd hh.2.1 h2
   ·exact hh.2.2,fun hh=>.inr (.inr ⟨h1,h2,hh⟩)⟩
 ·have h1:t≠d:=fun e=>ht (.inl e);have h2:t≠s:=fun e=>ht (.inr e);obtain⟨e1,e2⟩:=hrootH t h1 h2;exact⟨e1,fun hh=>⟨e2 hh,htv t h1⟩⟩
 ·obtain⟨t',ht'⟩:=hFsub b ⟨t,hb⟩;exact h.nb t' b ht'
 ·
  have key:∀ t t',t≠t'→((t=d∧Fq b)∨(t≠d∧t=s∧F s b∧¬ Fq b)∨(t≠d∧t≠s∧F t b))→((t'=d∧Fq b)∨(t'≠d∧t'=s∧F s b∧¬ Fq b)∨(t'≠d∧t'≠s∧F t' b))→False:=fun t t' hne' hb hb'=>by
   rcases hb with hb | hb | hb <;> rcases hb' with hb' | hb' | hb'
   ·exact hne' (hb.1.trans hb'.1.symm)
   ·exact hb'.2.2.2 hb.2
   ·exact h.dj s t' b (Ne.symm hb'.2.1) (hsubF b hb.2) hb'.2.2
   ·exact hb.2.2.2 hb'.2
   ·exact hne' (hb.2.1.trans hb'.2.1.symm)
   ·exact h.dj s t' b (Ne.symm hb'.2.1) hb.2.2.1 hb'.2.2
   ·exact h.dj t s b hb.2.1 hb.2.2 (hsubF b hb'.2)
   ·exact h.dj t s b hb.2.1 hb.2.2 hb'.2.2.1
   ·exact h.dj t t' b hne' hb.2.2 hb'.2.2
  exact key t t' hne' hb hb'
 ·rcases ht with rfl | rfl
  ·rw[qo] at hr;cases hr
  ·rw[hrs,(qaq (r:=r) hi).isRoot] at hr;cases hr
 ·rcases ht with rfl | rfl
  ·rw[qo,htd,hFd];exact .tree _ _ q y none (.val u) (.pv q y none u hv) hroot
  ·rw[hrs,htv _ hne,hFs];exact .tree _ _ p z (some r) c (qaq hi) hholed
 ·by_cases htd':t=d
  ·subst htd';rw[qo] at ht;cases ht
  ·obtain⟨e1,e2⟩:=qeo ht htd'
   by_cases hts:t=s
   ·subst hts;have:=(qaq (r:=r) hi).isRoot;rw[e1] at this;cases this
   ·obtain⟨e3,e4⟩:=qII hts e1
    by_cases hss:s'=s
    ·subst hss;right;rw[hrs,htv _ hne,hFs,htv t htd'];obtain⟨p',x',hh',c2,m1,m2⟩:=(h.adr t s' r' e3).tree (fun _ _ _ e=>by
      rw[e] at hi;generalize tv gv a s'=vv at hi;cases hi)
     obtain⟨rfl,m3,m4,rfl⟩:=m1.det hi;obtain rfl:=eq_of_heq m3
     replace e4:=e4 rfl
     rcases e4 with rfl | htop | hah
     ·obtain⟨q2,g2,o2,n1,n2,n3,n4,n5⟩:=m2.zeroL (by rw[hl];simp);rw[hl] at n2;simp only[ya,yb,Spot.blk.injEq] at n2;obtain⟨rfl,rfl,rfl⟩:=n2;refine .inl ⟨p',x',some r',c2,qaq hi,?_⟩;refine .inl ⟨q,g,o,n1,hl,n3,fun kk hkk=>⟨n4 kk hkk,fun hq=>?_⟩,n5,k.out g rfl⟩;rcases k.spine kk hkk with h3 | h3
      ·exact h3.2 hq
      ·exact(k.sub kk hq).2 h3
     ·refine .inl ⟨p',x',some r,c2,qaq hi,m2.top (Keeps.refl _ _) htop (fun g0 hg0 hF0=>⟨hF0,fun hq=>(k.sub g0 hq).2 (by rw[hg0];rfl)⟩) (fun g0 o0 e0=>?_)⟩;subst e0;generalize tv gv a s'=vv at hi;generalize fr s'=av at hi;cases hi;rfl
     ·refine .inl ⟨p',x',some r,c2,qaq hi,?_⟩;rcases m2 with m2 | ⟨htop,hne0,g0,e0,m2,m3⟩
      ·exact .inl (qBv hah m2 hl k)
      ·exact .inr ⟨htop,hne0,g0,e0,m2,m3,fun hq=>(k.sub g0 hq).2 (by rw[e0];rfl)⟩
    ·exact .inl ⟨fun hx=>hx.elim e2 hss,e3,htv t htd'⟩
 ·by_cases htd':t=d
  ·subst htd';rw[qo] at ht;cases ht
  ·obtain⟨e1,e2⟩:=qep ht htd'
   by_cases hts:t=s
   ·subst hts;have:=(qaq (r:=r) hi).isRoot;rw[e1] at this;cases this
   ·obtain⟨e3,e4⟩:=qIJ hts e1
    by_cases hss:s'=s
    ·subst hss;right;obtain⟨p',x',hh',c2,m1,m2⟩:=h.val t s' r' e3;obtain⟨rfl,m3,m4,rfl⟩:=m1.det hi;obtain rfl:=eq_of_heq m3;refine⟨p',x',some r,c2,by rw[hrs,htv _ hne];exact qaq hi,?_⟩;rw[hFs,htv t htd'];exact qBu (e4 rfl) m2 hl k
    ·exact .inl ⟨fun hx=>hx.elim e2 hss,e3,htv t htd'⟩
end
end
section
open Go.RowKit Go.Lib
theorem qBw (fr:Fr) (d:Nat) (v1 v2:AV):(fr.putP d v1).putP d v2=fr.putP d v2:=by
 funext t;unfold Fr.putP Fr.put Fr.sweep
 by_cases ht:t=d
 ·simp[ht]
 ·simp only[if_neg ht];generalize fr t=av;cases av with
  | padr s r =>
   by_cases hs:s=d
   ·simp[hs,AV.drop]
   ·simp[hs,AV.drop]
  | pval s r =>
   by_cases hs:s=d
   ·simp[hs,AV.drop]
   ·simp[hs,AV.drop]
  | dat s x o =>
   simp only[AV.drop];cases o with
   | none=>rfl
   | some p =>
    obtain⟨l,e⟩:=p
    by_cases hl:l=d
    ·simp[hl]
    ·simp[hl]
  | badr s p =>
   simp only[AV.drop]
   by_cases hs:s=d
   ·simp[hs]
   ·simp[hs]
  | clom f ss =>
   by_cases hs:d∈ss
   ·simp[AV.drop,hs]
   ·simp[AV.drop,hs]
  | _=>rfl
theorem qqX (a:Act) (d:Nat) (u v:Value):(a.put (some d) u).put (some d) v=a.put (some d) v:=by
 unfold Act.put;simp
section
variable {P:Program} {base:Nat→Prop} {w0 w:World} {S0 S:qa} {fr:Fr} {gv:Nat→Value} {a:Act} {F:Nat→Nat→Prop}
theorem R.lab_base {B:Nat→Prop} (h:R B w0 S0 S fr a w) {l:Nat} {e:TypeId} {b:Nat} (hl:(fr l).lab=some (l,e)) (hb:(a.tmps.getD l undef).ownBlock=some b):¬ B b:=by
 cases hf:fr l with
 | dat s x o =>
  rw[hf] at hl;simp only[AV.lab] at hl;subst hl;obtain⟨e',rfl⟩:=h.sls l s x _ hf;obtain⟨xs,h1,h2,h3,h4⟩:=h.own l e' x e hf;exact h4 b hb
 | _=>rw[hf] at hl;simp[AV.lab] at hl
theorem RP.regrow (h:RP P base w0 S0 S fr gv a w F) {d:Nat} (hd:d < a.tmps.size) (hroot:(fr d).isRoot=true) {w':World} {S':qa} {row:Option Nat} (hg:w.grownBy w' row) (hrow:∀ g,row=some g→F d g)
 (hk:Keeps w S w' S') (hS:∀ b o,b < w.heap.size→¬ F d b→(S' b o↔S b o)) (hlt:∀ b o,S' b o→b < w'.heap.size)
 {v':Value} {v:AV} {Fd:Nat→Prop} (hv:v.isRoot=true) (hFd:∀ b,Fd b→F d b∨(w.heap.size≤b∧b < w'.heap.size)) (hr:RootAny P w' S' Fd v v') (hrowS:∀ b o,b < w.heap.size→row≠some b→(S' b o↔S b o)) :
 RP P base w0 S0 S' (fr.putP d v) gv (a.put (some d) v') w' (fun t b=>(t=d∧Fd b)∨(t≠d∧F t b)):=by
 have htv:∀ t,t≠d→tv gv (a.put (some d) v') t=tv gv a t:=fun t ht=>by rw[qcW gv a d v' t hd,if_neg ht]
 have htd:tv gv (a.put (some d) v') d=v':=by rw[qcW gv a d v' d hd,if_pos rfl]
 have hvague:=qu hv;have hplain:v.plain=true:=by cases v <;> first | rfl | cases hv
 have hbase:∀ b,base b→some b≠row:=fun b hb e=>h.nb d b (hrow b e.symm) hb;have hother:∀ t b,t≠d→F t b→some b≠row:=fun t b ht hb e=>h.dj t d b ht hb (hrow b e.symm);have hsize:=hg.size;have hlab:∀ l e g,(fr l).lab=some (l,e)→F d g→(a.tmps.getD l undef).ownBlock≠some g:=fun l e g hl hF hb=>h.r.lab_base hl hb (.inr ⟨d,hF⟩);have hboxF:∀ t s (x:Den s) g,fr t=.box s x→F d g→a.tmps.getD t undef≠.pointer (some ⟨g,0,none⟩):=fun t s x g hf hF hb=>by
  obtain⟨b,h1,h2⟩:=h.r.box t s x hf;rw[hb] at h2;simp only[Value.pointer.injEq,ya,Addr.mk.injEq,and_true] at h2;subst h2;exact h1.1 (.inr ⟨d,hF⟩)
 have hR1:R (fun k=>base k∨∃ t,t≠d∧F t k) w S S (fr.sweep d) a w:=((h.r.repriv (fun t=>qaW fr d t)).rebase (fun k hk=>hk.imp id (fun ⟨t,ht⟩=>⟨t,ht.2⟩)));have hnv:∀ l e,((fr.sweep d) l).lab=some (l,e)→(fr l).lab=some (l,e):=fun l e hl=>by
  rcases qaW fr d l with e1 | ⟨_,e1⟩
  ·rwa[e1] at hl
  ·rw[qar e1] at hl;cases hl
 have hnb:∀ t s (x:Den s),(fr.sweep d) t=.box s x→fr t=.box s x:=fun t s x hb=>by
  rcases qaW fr d t with e1 | ⟨_,e1⟩
  ·rwa[e1] at hb
  ·rw[hb] at e1;cases e1
 have hR2:R (fun k=>base k∨∃ t,t≠d∧F t k) w S S' (fr.sweep d) a w':=hR1.step hg hk hrowS hlt (fun g hg'=>by
  refine⟨fun hB=>?_,fun l e hl=>hlab l e g (hnv l e hl) (hrow g hg'),fun t s x hf=>hboxF t s x g (hnb t s x hf) (hrow g hg')⟩;rcases hB with hB | ⟨t,ht,hF⟩
  ·exact hbase g hB hg'.symm
  ·exact hother t g ht hF hg'.symm)
 have hR3:R (fun k=>base k∨∃ t,t≠d∧F t k) w S S' (fr.putP d v) (a.put (some d) v') w':=hR2.put_plain hd (qfR hvague _ _ _) hplain;have hR4:=(hR3.rebase (fun k hk=>hk)).widen (X:=Fd) (fun k hk=>(hFd k hk).elim (fun hh=>yH (h.lt hh) hsize) (·.2))
  (fun t l e b hl hb hX=>by
   unfold Fr.putP Fr.put at hl;split at hl
   ·rw[qar hvague] at hl;cases hl
   ·rename_i ht;rw[qL a d v' t hd,if_neg ht] at hb;have hl1:=(qaI hl).1;have hl2:(fr t).lab=some (l,e):=by
     rcases qaW fr d t with e1 | ⟨_,e1⟩
     ·rwa[e1] at hl1
     ·rw[qar e1] at hl1;cases hl1
    have hl3:=h.r.cp t l e hl2;have hl4:(fr l).lab=some (l,e):=by rw[hl3.1];exact hl2
    rw[← hl3.2] at hb;rcases hFd b hX with hF | hF
    ·exact hlab l e b hl4 hF hb
    ·have:=h.r.own_lt hl4 hb;omega)
  (fun t s x b hl hb hX=>by
   unfold Fr.putP Fr.put at hl;split at hl
   ·rw[hl] at hv;cases hv
   ·rename_i ht;rw[qL a d v' t hd,if_neg ht] at hb;have hl1:=hnb t s x (qaU hl);rcases hFd b hX with hF | hF
    ·exact hboxF t s x b hl1 hF hb
    ·have:=h.r.box_lt hl1 hb;omega)
 refine h.upd (fun t=>t=d) (hR4.rebase (fun k hk=>?_)) ⟨hg.os,hg.tape,hg.output,hg.size,fun k hk=>hg.block k (h.base_le hk) (hbase k hk)⟩ (fun b o hB=>hS b o (h.base_le hB) (fun hF=>h.nb d b hF hB)) hk
  (fun t ht b=>⟨fun hh=>hh.elim (fun hh=>absurd hh.1 ht) (·.2),fun hh=>.inr ⟨ht,hh⟩⟩) (fun t b ht hb=>hg.block b (h.lt hb) (hother t b ht hb)) (fun t b o ht hb=>hS b o (h.lt hb) (fun hF=>h.dj t d b ht hb hF))
  (fun t ht=>?_) (fun t b ht hb=>?_) (fun t t' b ht hne hb hb'=>?_) (fun t ht hr' b hb=>?_) (fun t ht hr'=>?_) (fun t s r ht=>?_) (fun t s r ht=>?_)
 ·rcases hk with hk | ⟨t,⟨rfl,ht⟩ | ht⟩
  ·exact .inl (.inl hk)
  ·exact .inr ht
  ·exact .inl (.inr ⟨t,ht⟩)
 ·obtain⟨e1,e2⟩:=qaz fr d v ht;exact⟨e1,fun hh=>⟨e2 hh,htv t ht⟩⟩
 ·subst ht;rcases hb with hb | hb
  ·rcases hFd b hb.2 with hF | hF
   ·exact h.nb t b hF
   ·intro hB;have:=h.base_le hB;omega
  ·exact absurd rfl hb.1
 ·subst ht;rcases hb with hb | hb
  ·rcases hb' with hb' | hb'
   ·exact hne hb'.1.symm
   ·rcases hFd b hb.2 with hF | hF
    ·exact h.dj t t' b hne hF hb'.2
    ·have:=h.lt hb'.2;omega
  ·exact absurd rfl hb.1
 ·subst ht;rw[qo,hv] at hr';cases hr'
 ·subst ht;rw[qo,htd];have e:(fun b=>(t=t∧Fd b)∨(t≠t∧F t b))=Fd:=funext fun b=>propext ⟨fun hh=>hh.elim (·.2) (fun hh=>absurd rfl hh.1),fun hh=>.inl ⟨rfl,hh⟩⟩;rw[e];exact hr
 ·by_cases htd':t=d
  ·subst htd';rw[qo] at ht;rw[ht] at hv;cases hv
  ·obtain⟨e1,e2⟩:=qeo ht htd';exact .inl ⟨e2,e1,htv t htd'⟩
 ·by_cases htd':t=d
  ·subst htd';rw[qo] at ht;rw[ht] at hv;cases hv
  ·obtain⟨e1,e2⟩:=qep ht htd';exact .inl ⟨e2,e1,htv t htd'⟩
end
end
section
open Go.RowKit Go.Lib
variable {u v':Value} {e:Sh} {n bs size m:Nat} {xs news:List Value} {te:TypeId} {w':World} {Fq:Nat→Prop}
section
variable {base:Nat→Prop} {w0 w:World} {S0 S:qa} {fr:Fr} {gv:Nat→Value} {a:Act} {F:Nat→Nat→Prop} {P:Program} {E:Env}
theorem qvF (hT:TyOk P E) {o:Oper} {x y:Operand} {t u:TypeId} {m:List (Den e)} {vy:AV} (hop:o.op=.call { callee:=.builtin .append,args := #[x,y],argTypes := #[t,u] })
 (hry:Rd w S (a.eval y) vy) (hs:(E.ti t).sh=some (.sl e)) (hby:(E.ti (E.ti t).el).bytes≤1024) (hu:(E.ti u).sh=shOf vy) (hm:newsV E t u e vy=some m) (hroom:n+m.length≤room)
 {v:Value} (hbs:bs≤w.heap.size) (hxs:qY w bs (E.ti t).el e.size v n xs) (hev:a.eval x=v) :
 ∃ v' w' news,(execOp a.eval o).run P w=.ok (.value v') w'∧qd (RdC w S e) m news∧AppM w bs (E.ti t).el e.size v n m.length xs news v' w':=by
 obtain⟨te,ht,hte,hpos,rfl⟩:=(hT t _ hs).desc;obtain⟨i,z,hi,hsz,hbys,hz,hrd⟩:=(hT _ _ hte).info;have hzs:z.cells.size=e.size:=by have:=RdC.length _ _ _ (hrd w S).cells;simpa using this
 have hroom':n+m.length≤1073741824:=hroom;have h63:n+m.length≤maxLen:=by unfold maxLen;omega
 have hbytes:(n+m.length)*(E.ti (E.ti t).el).bytes≤140737488355328:=yL (Nat.mul_le_mul hroom' hby) (by decide);have hrun:∀ {v':Value} {w':World},(Builtin.append_ #[t,u] o.type #[a.eval x,a.eval y]).run P w=.ok v' w'→(execOp a.eval o).run P w=.ok (.value v') w':=fun hr=>by
  unfold execOp;simp only[hop,resolve,invoke,builtin,yh,yu,ye,List.map_toArray,yI,List.map_nil,hr]
 unfold newsV at hm;split at hm
 ·rename_i e' m' o';split at hm
  ·rename_i hc;obtain⟨rfl,rfl⟩:=hc;simp only[ya] at hm;subst hm;obtain⟨A,cap,cs,ey,hcap,hch,hmem⟩:=rd_sl hry;have hcl:=qd.length (RdC.length e') hch;cases A with
   | none =>
    have hcs:cs=[]:=by
     rcases cs with _ | ⟨c,cs⟩
     ·rfl
     ·obtain⟨ad,e,_⟩:=hmem (by simp);cases e
    subst hcs;have hm0:List.length m'=0:=by
     rcases Nat.eq_zero_or_pos (List.length m') with h0 | h0
     ·exact h0
     ·have:=Nat.mul_pos h0 hpos;simp at hcl;omega
    obtain⟨r1,r2⟩:=qBg (P:=P) w bs u o.type _ i e'.size ht hi v n xs hxs cap;refine⟨v,w,[],hrun (by rw[hev,ey,hm0];exact r1),hch,?_⟩;rw[hm0];exact r2
   | some ad =>
    obtain⟨v',w',r1,r2⟩:=qvn (P:=P) w bs u o.type _ i z e'.size _ ht hi hz hsz hbys hzs hpos v n xs hxs ad (List.length m') cap cs hcl
     (fun j q hq=>by
      have hne:cs≠[]:=by rintro rfl;simp at hq
      obtain⟨ad',e,hmm⟩:=hmem hne;simp only[ya] at e;subst e;rw[qdm _ _ hmm.1];exact(hmm.2 j q hq).2) (qd.oneCell (RdC.oneCell e') hch) h63 hbytes hbs
    exact⟨v',w',cs,hrun (by rw[hev,ey];exact r1),hch,r2⟩
  ·cases hm
 ·rename_i m' o';split at hm
  ·rename_i hc;obtain⟨rfl,hb1⟩:=hc;simp only[ya] at hm;subst hm;obtain⟨b,ey,hb⟩:=qcS hry;have hus:=(hT u .str hu).desc;have hz':i.zero=some (.int .u8 0):=by
    rw[hz];exact congrArg some (qbC (o:=none) (Rd.dat .byte (0:UInt8) none z (hrd w S)))
   have hsize:b.size=List.length m':=by rw[← hb];simp
   obtain⟨v',w',r1,r2⟩:=qIt (P:=P) w bs t u o.type _ i ht hus hi hz' hsz (by rw[hbys];exact hb1) v n xs hxs b (by rw[hsize];exact h63) (by rw[hsize];omega) hbs;refine⟨v',w',strCells b,hrun (by rw[hev,ey];exact r1),by rw[← hb];exact qeW b,?_⟩;rw[← hsize];exact r2
  ·cases hm
 ·cases hm
def PSh.rowOf:PSh→Option (TypeId×Sh)
 | .osl te e=>some (te,e)
 | .psl te e=>if e.plain then some (te,e.sh) else none
 | _=>none
theorem AppM.facts (h:AppM w bs te size u n m xs news v' w') :
 w.grownBy w' u.ownBlock∧(∀ b,v'.ownBlock=some b→(u.ownBlock=some b∨w.heap.size≤b)∧b < w'.heap.size):=by
 refine⟨?_,fun b hb=>⟨?_,(h.own.lt b hb).2⟩⟩
 ·rcases h.loc with ⟨_,g⟩ | ⟨_,g⟩
  ·exact g
  ·exact qbu g _
 ·rcases h.loc with ⟨e1,_⟩ | ⟨e1,_⟩
  ·exact .inl (e1 ▸ hb)
  ·exact .inr (by rw[e1] at hb;exact Nat.le_of_eq (yp hb))
theorem App.facts (h:App w bs te size u n m xs news v' w') :
 w.grownBy w' u.ownBlock∧(∀ b,v'.ownBlock=some b→(u.ownBlock=some b∨w.heap.size≤b)∧b < w'.heap.size):=h.toM.facts
theorem qNk {l:List (Den e)} (hu:valR u 0=some u) (h:PM w S (.osl te e) (valR u) l Fq) :
 ∃ xs,qY w 0 te e.size u l.length xs∧qd (RdC w S e) l xs∧(∀ b,Fq b↔u.ownBlock=some b)∧∀ b,Fq b→∀ o,(S b o↔o < l.length*e.size):=by
 simp only[PM] at h;obtain⟨v,h1,⟨xs,h2,h3⟩,h4,h5⟩:=h;rw[hu] at h1;obtain rfl:=yp h1;exact⟨xs,h2,h3,h4,h5⟩
theorem qNl {e:PSh} (hpl:e.plain=true) {l:List (Den e.sh)} (hu:valR u 0=some u) (h:PM w S (.psl te e) (valR u) l Fq) :
 ∃ xs,w.ownsRow 0 te e.sh.size u l.length xs∧qd (RdC w S e.sh) l xs∧(∀ b,Fq b↔u.ownBlock=some b)∧∀ b,Fq b→∀ o,¬ S b o:=by
 simp only[PM] at h;obtain⟨v,h1,h2⟩:=h;rw[hu] at h1;obtain rfl:=yp h1;rcases h2 with ⟨rfl,rfl,h3⟩ | ⟨g,cap,cur,Fe,rfl,k2,k3,k4,k5,k6,k7,k8,k9,k10,k11⟩
 ·exact⟨[],⟨by simp,.inl ⟨rfl,rfl⟩⟩,rfl,fun b=>⟨fun hb=>absurd hb (h3 b),fun hb=>by cases hb⟩,fun b hb=>absurd hb (h3 b)⟩
 ·have hFe:∀ n b,¬ Fe n b:=fun n b hb=>by
   rcases Nat.lt_or_ge n (List.length l) with hlt | hge
   ·exact PM.plain_F e _ _ _ hpl (k7 n l[n] (yO hlt)) b hb
   ·exact k8 n b hge hb
  have hsz:e.size=e.sh.size:=(PSh.size_eq e).symm;rw[hsz] at k5 k7;have hle:l.length*e.sh.size≤cap*e.sh.size:=yC _ k3;have hch:=qbj (R:=RdC w S e.sh) (k:=e.sh.size) (cur:=cur.toList) l 0 (fun n x hn=>by
   obtain⟨cs,m1,m2⟩:=(k7 n x hn).plain_cells e _ _ _ hpl;refine⟨cs,m1,RdC.length _ _ _ m1,fun i v hv=>?_⟩;have:=m2 i v hv;simp only[blkR,World.cell?,k2,Option.isSome_none,yq,if_false] at this;rw[yE,Array.getElem?_toList];exact this) (by rw[yE];simp;omega)
  rw[Nat.zero_mul,yw] at hch;refine⟨_,⟨by rw[yz];simp;omega,.inr ⟨g,cap,cur,rfl,Nat.zero_le _,k2,k3,k4,k5,rfl⟩⟩,hch,fun b=>?_,fun b hb=>?_⟩
  ·rw[k11 b];constructor
   ·rintro (rfl | ⟨n,hn⟩)
    ·rfl
    ·exact absurd hn (hFe n b)
   ·intro hb;exact .inl (by simpa [Value.ownBlock] using hb.symm)
  ·rcases (k11 b).1 hb with rfl | ⟨n,hn⟩
   ·exact k6
   ·exact absurd hn (hFe n b)
theorem qBp {l m:List (Den e)} (hslt:∀ b o,S b o→b < w.heap.size) (hxs:qY w 0 te e.size u l.length xs) (hch:qd (RdC w S e) l xs)
 (hF:∀ b,Fq b↔u.ownBlock=some b) (hst:∀ b,Fq b→∀ o,(S b o↔o < l.length*e.size)) (hnew:qd (RdC w S e) m news) (happ:AppM w 0 te e.size u l.length m.length xs news v' w') :
 ∃ S',PM w' S' (.osl te e) (valR v') (l++m) (fun b=>v'.ownBlock=some b)∧Keeps w S w' S'∧(∀ b o,b < w.heap.size→¬ Fq b→(S' b o↔S b o))∧(∀ b o,S' b o→b < w'.heap.size):=by
 obtain⟨hgr,hv'⟩:=happ.facts;obtain⟨hown,_,hloc⟩:=happ;have hlen:(l++m).length=l.length+m.length:=by simp
 have hle:l.length*e.size≤(l++m).length*e.size:=yC _ (by rw[hlen];omega);have hxl:xs.length=l.length*e.size:=hxs.1
 let S':qa:=fun b o=>S b o∨(v'.ownBlock=some b∧o < (l++m).length*e.size)
 have hkeep:Keeps w S w' S':=by
  intro b o hs;refine⟨.inl hs,?_⟩;have hb:=hslt b o hs;rcases hloc with ⟨e1,g⟩ | ⟨_,g⟩
  ·by_cases hbv:u.ownBlock=some b
   ·have ho:=(hst b ((hF b).2 hbv) o).1 hs;have hget:xs[o]? = some xs[o]:=yO (by omega);have c1:=hxs.cells hbv o _ hget;have c2:=hown.cells (e1.trans hbv) o xs[o] (by rw[yM (by omega)];exact hget);rw[qdm _ _ rfl,yE] at c1 c2;rw[c1,c2]
   ·exact qj (g.block b hb (fun hc=>hbv hc.symm)) o
  ·exact qj (g.block b hb) o
 have hSS:∀ b o,b < w.heap.size→¬ Fq b→(S' b o↔S b o):=fun b o hb hne=>by
  refine⟨fun hs=>hs.elim id (fun hh=>?_),.inl⟩;rcases (hv' b hh.1).1 with h1 | h1
  ·exact absurd ((hF b).2 h1) hne
  ·omega
 refine⟨S',?_,hkeep,hSS,fun b o hs=>hs.elim (fun hs=>yH (hslt b o hs) hgr.size) (fun hh=>(hv' b hh.1).2)⟩;simp only[PM];refine⟨v',?_,⟨xs++news,by rw[hlen];exact hown,(hch.append hnew).mono (RdC.keeps hkeep e)⟩,fun b=>Iff.rfl,fun b hb o=>?_⟩
 ·rcases hown.2 with ⟨rfl,_⟩ | ⟨g,cap,cur,_,rfl,_⟩ <;> rfl
 ·constructor
  ·rintro (hs | hs)
   ·rcases (hv' b hb).1 with h1 | h1
    ·exact yH ((hst b ((hF b).2 h1) o).1 hs) hle
    ·have:=hslt b o hs;omega
   ·exact hs.2
  ·exact fun hs=>.inr ⟨hb,hs⟩
theorem qBq {e:PSh} (hpl:e.plain=true) {l m:List (Den e.sh)} (hslt:∀ b o,S b o→b < w.heap.size) (hch:qd (RdC w S e.sh) l xs)
 (hF:∀ b,Fq b↔u.ownBlock=some b) (hst:∀ b,Fq b→∀ o,¬ S b o) (hnew:qd (RdC w S e.sh) m news) (hxs:w.ownsRow 0 te e.sh.size u l.length xs) (happ:AppM w 0 te e.sh.size u l.length m.length xs news v' w') :
 PM w' S (.psl te e) (valR v') (l++m) (fun b=>v'.ownBlock=some b)∧Keeps w S w' S∧(∀ b o,S b o→b < w'.heap.size):=by
 obtain⟨hgr,hv'⟩:=happ.facts;obtain⟨_,hstr,hloc⟩:=happ;have hown:=hstr hxs;have hlen:(l++m).length=l.length+m.length:=by simp
 have hkeep:Keeps w S w' S:=fun b o hs=>⟨hs,qj (hgr.block b (hslt b o hs) (fun e=>hst b ((hF b).2 e.symm) o hs)) o⟩;have hch':qd (RdC w' S e.sh) (l++m) (xs++news):=(hch.append hnew).mono (RdC.keeps hkeep e.sh);refine⟨?_,hkeep,fun b o hs=>yH (hslt b o hs) hgr.size⟩;simp only[PM];rw[← hlen] at hown;rcases hown.2 with ⟨rfl,h0⟩ | ⟨g,cap,cur,rfl,_,k2,k3,k4,k5,k6⟩
 ·exact⟨_,rfl,.inl ⟨rfl,yF h0,fun b hb=>by cases hb⟩⟩
 ·refine⟨_,rfl,.inr ⟨g,cap,cur,fun _ _=>False,rfl,k2,k3,k4,by rw[← PSh.size_eq];exact k5,fun o hs=>?_,fun n x hn=>?_,fun _ _ _ h=>h,fun _ _ _ _ h=>h.elim,fun _ _ h=>h.elim,fun b=>?_⟩⟩
  ·rcases (hv' g rfl).1 with h1 | h1
   ·exact hst g ((hF g).2 h1) o hs
   ·have:=hslt g o hs;omega
  ·obtain⟨cs,m1,m2⟩:=qii (RdC.length e.sh) hch' k2 k6 hn;rw[PSh.size_eq] at m2;exact(PM.of_cells e _ x cs hpl m1 m2).congrF fun b=>⟨fun hb=>PM.plain_F e _ _ _ hpl (PM.of_cells e _ x cs hpl m1 m2) b hb,fun hb=>hb.elim⟩
  ·simp[Value.ownBlock,eq_comm]
end
end
end Go.Av
