import Derived.Test.YtmageajchmoomaaGreatDoorAvC
import Derived.Laws.RangeString
import Derived.OrdersHeld
import Derived.OrdersIn
import Derived.TacticsIn
import Derived.LoopNIn
import Derived.RangeFuncLeaves
import Derived.Laws.IdiomCopy
namespace Go.Av
set_option linter.unusedSimpArgs false
set_option linter.unusedVariables false
variable {base:Nat→Prop} {w0 w:World} {S0 S:qa} {fr:Fr} {gv:Nat→Value} {a:Act} {F:Nat→Nat→Prop} {P:Program} {E:EnvP}
section
open Go.RowKit Go.Lib
variable {d:Nat} {q:PSh} {x:Operand}
section
theorem RP.pv_at (h:RP P base w0 S0 S fr gv a w F) {y:Den q.sh} (hd:fr d=.pv q y none):valOk q (tv gv a d)∧PM w S q (valR (tv gv a d)) y (F d):=by
 have h1:=h.root d (by rw[hd];rfl);rw[hd] at h1;generalize tv gv a d=v at h1;cases h1 with
 | tree _ _ p x hh c h1 h2 =>
  cases h1 with
  | pv _ _ _ _ hv =>
   have hc:PM w S q (valR v) y (fun b=>F d b∧(Spot.val v).block≠some b):=h2.core;exact⟨hv,hc.congrF fun b=>⟨fun hb=>hb.1,fun hb=>⟨hb,fun e=>by cases e⟩⟩⟩
theorem RP.pushes {y:Den q.sh} {u:Value} (h:RP P base w0 S0 S (fr.putP d (.pv q y none)) gv (a.put (some d) u) w F) (hd:d < a.tmps.size) (hT:TyOk P E.toEnv) {o:Oper} {yy:Operand} {t u':TypeId} {vy:AV}
 (hop:o.op=.call { callee:=.builtin .append,args := #[x,yy],argTypes := #[t,u'] }) (hry:Rd w S (a.eval yy) vy) (hs:(E.ti t).sh=some q.sh) (hby:(E.ti (E.ti t).el).bytes≤1024) (hu:(E.ti u').sh=shOf vy)
 (hev:a.eval x=u) {m:Den q.sh} {e:Sh} {te:TypeId} (hrow:q.rowOf=some (te,e)) (hte:te=(E.ti t).el) (hm:∃ m0:List (Den e),newsV E.toEnv t u' e vy=some m0∧HEq m0 m) (hroom:lenP q y+lenP q m≤room) :
 ∃ v' w' S' F',(execOp a.eval o).run P w=.ok (.value v') w'∧RP P base w0 S0 S' (fr.putP d (.pv q (appP q y m) none)) gv (a.put (some d) v') w' F'∧Keeps w S w' S':=by
 have hd':d < (a.put (some d) u).tmps.size:=by rw[qg];exact hd
 have htd:tv gv (a.put (some d) u) d=u:=by rw[qcW gv a d u d hd,if_pos rfl]
 obtain⟨hv,hpm⟩:=h.pv_at (d:=d) (qo _ _ _);rw[htd] at hv hpm;obtain⟨m0,hm0,hmm⟩:=hm;have fin:∀ {v':Value} {w':World} {S':qa} {n k:Nat} {xs news:List Value} {size:Nat},AppM w 0 te size u n k xs news v' w'→(∀ b,u.ownBlock=some b→F d b)→q.isSl=true→PM w' S' q (valR v') (appP q y m) (fun b=>v'.ownBlock=some b)→Keeps w S w' S' →
  (∀ b o,b < w.heap.size→¬ F d b→(S' b o↔S b o))→(∀ b o,S' b o→b < w'.heap.size)→(∀ b o,b < w.heap.size→u.ownBlock≠some b→(S' b o↔S b o)) →
  ∃ F',RP P base w0 S0 S' (fr.putP d (.pv q (appP q y m) none)) gv (a.put (some d) v') w' F':=fun {v' w' S' n k xs news size} happ hF hsl hpm' hk hS hlt hrS=>by
  obtain⟨hgr,hv'⟩:=happ.facts;have h0:valR v' 0=some v':=by
   rcases happ.own.2 with ⟨rfl,_⟩ | ⟨g,cap,cur,_,rfl,_⟩ <;> rfl
  obtain⟨hvo,hroot⟩:=qbp hsl hpm' h0;have:=h.regrow (v:=.pv q (appP q y m) none) hd' (by rw[qo];rfl) hgr hF hk hS hlt rfl (fun b hb=>(hv' b hb).1.elim (fun h1=>.inl (hF b h1)) (fun h1=>.inr ⟨h1,(hv' b hb).2⟩)) (.tree _ _ q _ none (.val v') (.pv q _ none v' hvo) hroot) hrS;rw[qBw,qqX] at this;exact⟨_,this⟩
 cases q with
 | osl te' e' =>
  simp only[PSh.rowOf,ya,yb] at hrow;obtain⟨rfl,rfl⟩:=hrow;obtain rfl:=eq_of_heq hmm;have hu0:valR u 0=some u:=qQ hv rfl;obtain⟨xs,k1,k2,k3,k4⟩:=qNk hu0 hpm;rw[hte] at k1;obtain⟨v',w',news,r1,r2,r3⟩:=qvF (P:=P) hT hop hry hs hby hu hm0 hroom (Nat.zero_le _) k1 hev;rw[← hte] at k1 r3;obtain⟨S',m1,m2,m3,m4⟩:=qBp h.r.slt k1 k2 k3 k4 r2 r3;obtain⟨F',hR⟩:=fin r3 (fun b hb=>(k3 b).2 hb) rfl m1 m2 m3 m4 (fun b o hb hne=>m3 b o hb (fun hF=>hne ((k3 b).1 hF)));exact⟨v',w',S',F',r1,hR,m2⟩
 | psl te' e' =>
  simp only[PSh.rowOf] at hrow;split at hrow
  ·rename_i hpl;simp only[ya,yb] at hrow;obtain⟨rfl,rfl⟩:=hrow;obtain rfl:=eq_of_heq hmm;have hu0:valR u 0=some u:=qQ hv rfl;obtain⟨xs,k1,k2,k3,k4⟩:=qNl hpl hu0 hpm;rw[hte] at k1;obtain⟨v',w',news,r1,r2,r3⟩:=qvF (P:=P) hT hop hry hs hby hu hm0 hroom (Nat.zero_le _) (qaV k1) hev;rw[← hte] at k1 r3;obtain⟨m1,m2,m4⟩:=qBq hpl h.r.slt k2 k3 k4 r2 k1 r3;obtain⟨F',hR⟩:=fin r3 (fun b hb=>(k3 b).2 hb) rfl m1 m2 (fun _ _ _ _=>Iff.rfl) m4 (fun _ _ _ _=>Iff.rfl);exact⟨v',w',S,F',r1,hR,m2⟩
  ·cases hrow
 | _=>cases hrow
theorem RP.nilRoot (h:RP P base w0 S0 S fr gv a w F) (hd:d < a.tmps.size) {y:Den q.sh} (hy:nilP q=some y) :
 RP P base w0 S0 S (fr.putP d (.pv q y none)) gv (a.put (some d) (.slice none 0 0)) w (fun t b=>(t=d∧False)∨(t≠d∧F t b)):=by
 have hpm:PM w S q (valR (.slice none 0 0)) y (fun _=>False)∧q.isSl=true:=by
  cases q with
  | osl te e =>
   simp only[nilP,ya] at hy;subst hy;refine⟨?_,rfl⟩;simp only[PM];exact⟨_,rfl,⟨[],⟨by simp,.inl ⟨rfl,rfl⟩⟩,rfl⟩,fun b=>⟨fun hf=>hf.elim,fun e=>by cases e⟩,fun _ hf=>hf.elim⟩
  | psl te e =>
   simp only[nilP,ya] at hy;subst hy;refine⟨?_,rfl⟩;simp only[PM];exact⟨_,rfl,.inl ⟨rfl,rfl,fun _ hf=>hf⟩⟩
  | _=>cases hy
 obtain⟨hv,hroot⟩:=qbp hpm.2 hpm.1 rfl;exact h.newRoot hd ⟨Below.refl _ _,fun _ _ _=>Iff.rfl,h.r.slt⟩ (fun _ hf=>hf.elim) rfl (.tree _ _ q y none (.val _) (.pv q y none _ hv) hroot)
theorem RP.takes (h:RP P base w0 S0 S fr gv a w F) (hd:d < a.tmps.size) {s:Nat} {r:List PStep} {p:PSh} {z:Den p.sh} {y:Den q.sh} (hp:qax a.tmps.size fr x=some (false,s,r)) (hne:s≠d)
 (ht:treeV fr s=some ⟨p,z,none⟩) (hg:getPP p z r=some ⟨q,y⟩):∃ F',RP P base w0 S0 S ((fr.out s r).putP d (.pv q y none)) gv (a.put (some d) (a.eval x)) w F':=by
 obtain⟨u,rfl,hu,c,h1,h2,_,h3⟩:=h.placeT hp ht;have hval:=h3 rfl;rw[← qE gv a u hu];unfold Fr.out;split
 ·rename_i hw;obtain⟨u2,e2,_,hroot,hv,hk⟩:=h.topVal hp hw;obtain rfl:u=u2:=by simpa using e2
  have hr:r=[]:=by unfold qkP at hw;split at hw <;> first | rfl | cases hw
  subst hr;have hs:fr s=.pv p z none:=by
   unfold qkP at hw;simp only at hw;split at hw
   ·rename_i e;unfold treeV at ht;rw[e] at ht;simp only[ya,Tree.mk.injEq] at ht;obtain⟨rfl,ht1,rfl⟩:=ht;rw[e,eq_of_heq ht1]
   ·cases hw
   ·cases hw
  have hpq:q=p∧HEq y z:=by
   cases p <;> (simp only[getPP,ya,yD] at hg;exact⟨hg.1.symm,hg.2.symm⟩)
  obtain⟨rfl,hyz⟩:=hpq;obtain rfl:=eq_of_heq hyz;have hm:=h.moved hd hroot hne;unfold Fr.moveR at hm;rw[hs] at hm;rw[hv];exact⟨_,hm⟩
 ·rename_i hw;have hi:∀ v,c=.val v→r=[]∨p.agg=false:=fun v e=>by
   subst e;obtain⟨q',y',c',k1,k2,k3,k4,_⟩:=hval;cases p with
   | psl te e=>exact .inr rfl
   | osl te e=>exact .inr rfl
   | leaf s=>left;cases r with
    | nil=>rfl
    | cons a r=>simp[locP] at k4
   | ppair a b =>
    match r,k4 with
    | [],_=>exact .inl rfl
    | .idx n :: r,k4=>simp[locP] at k4
    | .fld 0 :: r,k4=>simp[locP] at k4
    | .fld (i+1) :: r,k4=>simp[locP] at k4
   | parr n e =>
    match r,k4 with
    | [],_=>exact .inl rfl
    | [.idx n],k4=>simp[locP] at k4
    | .fld i :: r,k4=>simp[locP] at k4
    | .idx n :: _ :: _,k4=>simp[locP] at k4
  obtain⟨c',Fq,k1,k2,k3,k4,k5⟩:=qIH h2 hval hg hi;have hblk:∃ g o,c'=.blk g o:=by
   cases c' with
   | blk g o=>exact⟨g,o,rfl⟩
   | val v =>
    exfalso;cases c with
    | blk g o=>exact qme p g o r q v k1
    | val v0 =>
     rcases hi v0 rfl with hr | hp'
     ·subst hr;have hs:∃ hh,fr s=.pv p z hh:=by
       generalize fr s=av at h1;generalize tv gv a s=vv at h1;cases h1 with
       | pv=>exact⟨_,rfl⟩
      obtain⟨hh,hs⟩:=hs;unfold qkP at hw;simp[hs] at hw
     ·cases p with
      | psl te e =>
       match r,k1 with
       | [],k1 =>
        have hs:∃ hh,fr s=.pv (.psl te e) z hh:=by
         generalize fr s=av at h1;generalize tv gv a s=vv at h1;cases h1 with
         | pv=>exact⟨_,rfl⟩
        obtain⟨hh,hs⟩:=hs;unfold qkP at hw;simp[hs] at hw
       | .fld i :: r,k1=>simp[locP] at k1
       | .idx n :: r,k1 =>
        simp only[locP] at k1;split at k1
        ·exact qme e _ _ _ _ _ k1
        ·cases k1
      | osl te e =>
       match r,k1 with
       | [],k1 =>
        have hs:∃ hh,fr s=.pv (.osl te e) z hh:=by
         generalize fr s=av at h1;generalize tv gv a s=vv at h1;cases h1 with
         | pv=>exact⟨_,rfl⟩
        obtain⟨hh,hs⟩:=hs;unfold qkP at hw;simp[hs] at hw
       | _ :: _,k1=>simp[locP] at k1
      | leaf s0 =>
       match r,k1 with
       | [],k1=>simp only[locP,ya,yb] at k1;obtain⟨rfl,_⟩:=k1;cases k4
       | _ :: _,k1=>simp[locP] at k1
      | _=>cases hp'
  obtain⟨g,o,rfl⟩:=hblk;exact⟨_,h.takenOut hd hne h1 h2 k1 k5 k2 k3 k4⟩
end
end
section
open Go.RowKit Go.Lib
variable {o:Oper} {x:Operand} {s z0:Nat} {r:List PStep} {t:TypeId} {p q:PSh}
theorem qdC:∀ (p:PSh) (z:Den p.sh) (r r2:List PStep) (q:PSh) (y:Den q.sh),getPP p z r=some ⟨q,y⟩→inPP p z r→inPP q y r2→inPP p z (r++r2)
 | .leaf s,z,r,r2,q,y,hg,h,h2=>by simp[inPP]
 | .osl te e,z,r,r2,q,y,hg,h,h2=>by simp[inPP]
 | .psl te e,z,r,r2,q,y,hg,h,h2=>by
  match r,hg,h with
  | [],hg,_ =>
   simp only[getPP,ya,yD] at hg;obtain⟨rfl,hg⟩:=hg;obtain rfl:=eq_of_heq hg;exact h2
  | .fld i :: r,hg,_=>simp[getPP] at hg
  | .idx n :: r,hg,h =>
   simp only[getPP] at hg;simp only[inPP] at h;simp only[List.cons_append,inPP];exact⟨h.1,qdC e _ r r2 q y hg h.2 h2⟩
 | .ppair a b,z,r,r2,q,y,hg,h,h2=>by
  match r,hg,h with
  | [],hg,_ =>
   simp only[getPP,ya,yD] at hg;obtain⟨rfl,hg⟩:=hg;obtain rfl:=eq_of_heq hg;exact h2
  | .idx n :: r,hg,_=>simp[getPP] at hg
  | .fld 0 :: r,hg,h =>
   simp only[getPP] at hg;simp only[inPP] at h;simp only[List.cons_append,inPP];exact qdC a _ r r2 q y hg h h2
  | .fld (i+1) :: r,hg,h =>
   simp only[getPP] at hg;simp only[inPP] at h;have:=qdC b _ (.fld i :: r) r2 q y hg h h2;simpa only[List.cons_append,inPP] using this
 | .parr n e,z,r,r2,q,y,hg,h,h2=>by
  match r,hg,h with
  | [],hg,_ =>
   simp only[getPP,ya,yD] at hg;obtain⟨rfl,hg⟩:=hg;obtain rfl:=eq_of_heq hg;exact h2
  | [.idx k],hg,h=>exact h
  | .fld i :: r,hg,_=>simp[getPP] at hg
  | .idx k :: _ :: _,hg,_=>simp[getPP] at hg
theorem qvG {w:World}:∀ (q:PSh) (g o f:Nat) (u:PSh),q.fld f=some u→locP w q (.blk g o) [.fld f]=some (u,.blk g (o+qP q.sh f))∧qC w q (.blk g o) [.fld f]=[]∧q.sh.fld f=some u.sh∧∀ y:Den q.sh,inPP q y [.fld f]
 | .ppair a b,g,o,0,u,h=>by
  simp only[PSh.fld,ya] at h;subst h;have hloc:∀ (e:PSh) (c:Spot),locP w e c []=some (e,c)∧qC w e c []=[]:=fun e c=>by cases e <;> exact⟨rfl,rfl⟩
  have hin0:∀ (e:PSh) (x:Den e.sh),inPP e x []:=fun e x=>by cases e <;> trivial
  exact⟨by simp only[locP,(hloc _ _).1];simp[qP],by simp only[qC,(hloc _ _).2],rfl,fun y=>hin0 _ _⟩
 | .ppair a b,g,o,i+1,u,h=>by
  simp only[PSh.fld] at h;obtain⟨k1,k2,k3,k4⟩:=qvG (w:=w) b g (o+a.size) i u h;refine⟨?_,by simp only[qC,k2],k3,fun y=>k4 _⟩;simp only[locP,k1];show some (u,Spot.blk g (o+a.size+qP b.sh i))=some (u,Spot.blk g (o+(a.sh.size+qP b.sh i)));rw[PSh.size_eq,yS]
 | .leaf _,_,_,_,_,h=>by simp[PSh.fld] at h
 | .osl _ _,_,_,_,_,h=>by simp[PSh.fld] at h
 | .psl _ _,_,_,_,_,h=>by simp[PSh.fld] at h
 | .parr _ _,_,_,_,_,h=>by simp[PSh.fld] at h
theorem qmb {w:World}:∀ (p:PSh) (c:Spot) (z:Den p.sh) (r:List PStep) (q1 q2:PSh) (c':Spot) (y:Den q2.sh),locP w p c r=some (q1,c')→getPP p z r=some ⟨q2,y⟩→q1=q2
 | .leaf s,c,z,r,q1,q2,c',y,h,hg=>by
  cases r with
  | nil=>simp only[locP,ya,yb] at h;simp only[getPP,ya,yD] at hg;exact h.1.symm.trans hg.1
  | cons a r=>simp[locP] at h
 | .osl te e,c,z,r,q1,q2,c',y,h,hg=>by
  cases r with
  | nil=>simp only[locP,ya,yb] at h;simp only[getPP,ya,yD] at hg;exact h.1.symm.trans hg.1
  | cons a r=>simp[locP] at h
 | .psl te e,c,z,r,q1,q2,c',y,h,hg=>by
  match r,h,hg with
  | [],h,hg=>simp only[locP,ya,yb] at h;simp only[getPP,ya,yD] at hg;exact h.1.symm.trans hg.1
  | .fld i :: r,h,_=>simp[locP] at h
  | .idx n :: r,h,hg =>
   simp only[locP] at h;simp only[getPP] at hg;split at h
   ·exact qmb e _ _ r q1 q2 c' y h hg
   ·cases h
 | .ppair a b,c,z,r,q1,q2,c',y,h,hg=>by
  match r,h,hg with
  | [],h,hg=>simp only[locP,ya,yb] at h;simp only[getPP,ya,yD] at hg;exact h.1.symm.trans hg.1
  | .idx n :: r,h,_=>simp[locP] at h
  | .fld 0 :: r,h,hg =>
   cases c with
   | val v=>simp[locP] at h
   | blk g o=>simp only[locP] at h;simp only[getPP] at hg;exact qmb a _ _ r q1 q2 c' y h hg
  | .fld (i+1) :: r,h,hg =>
   cases c with
   | val v=>simp[locP] at h
   | blk g o=>simp only[locP] at h;simp only[getPP] at hg;exact qmb b _ _ _ q1 q2 c' y h hg
 | .parr n e,c,z,r,q1,q2,c',y,h,hg=>by
  match r,h,hg with
  | [],h,hg=>simp only[locP,ya,yb] at h;simp only[getPP,ya,yD] at hg;exact h.1.symm.trans hg.1
  | [.idx k],h,hg =>
   cases c with
   | val v=>simp[locP] at h
   | blk g o=>simp only[locP,ya,yb] at h;simp only[getPP,ya,yD] at hg;exact h.1.symm.trans hg.1
  | .fld i :: r,h,_=>simp[locP] at h
  | .idx k :: _ :: _,h,_=>simp[locP] at h
section
theorem RP.rFld (h:RP P base w0 S0 S fr gv a w F) (hT:TyOk P E.toEnv) {d:Nat} (hd:d < a.tmps.size) {z:Den p.sh} {hh:Option (List PStep)}
 {u:PSh} {y:Den q.sh} {f:Nat} (hop:o.op=.fieldAddr t x f) (hp:qax a.tmps.size fr x=some (true,s,r)) (hne:s≠d) (ht:treeV fr s=some ⟨p,z,hh⟩) (hg:getPP p z r=some ⟨q,y⟩)
 (hty:(E.ti t).sh=some q.sh) (hf:q.fld f=some u) (hz:u.size≠0) :
 qbF P base w0 S0 gv a w S F o d ((fr d).isRoot=false) (fun _=>True) (fr.putP d (.padr s (r++[.fld f]))):=by
 obtain⟨v,rfl,hu,c,h1,h2,h3,_⟩:=h.placeT hp ht;obtain⟨q',g,o',k1,k2,k3,k4,k5⟩:=(h3 rfl).zero (by rw[hg];simp);obtain rfl:=qmb p c z r q' q _ y k2 hg;obtain⟨m1,m2,m3,m4⟩:=qvG (w:=w) q' g o' f u hf;obtain⟨j1,j2⟩:=qbx p c r [.fld f] q' _ k2;refine h.yields hd (val:=.pointer (some ((⟨g,o',none⟩:Addr).add (qP q'.sh f)))) trivial (fun w' _=>?_) (.padr _ _ _) rfl rfl (fun s' r' e'=>?_) (fun _ _ e=>by cases e)
 ·unfold execOp;simp only[hop];refine run_v ?_;rw[← qE gv a v hu,k3];exact qfW hT (hT t _ hty) m3 (by rw[PSh.size_eq];exact hz) _ w'
 ·cases e';refine⟨hne,.inl ⟨p,z,hh,c,h1,.inl ⟨u,g,o'+qP q'.sh f,qdC p z r _ q' y hg k1 (m4 y),j1.trans m1,by rw[qdm _ _ rfl],fun k hk=>?_,k5⟩⟩⟩;rw[j2,m2,yG] at hk;exact k4 k hk
theorem RP.filled (h:RP P base w0 S0 S fr gv a w F) (hT:TyOk P E.toEnv) (hdst:o.dst=none) {z z':Den p.sh} {y0 m:Den q.sh}
 (hop:o.op=.store t x (.tmp z0)) (hp:qax a.tmps.size fr x=some (true,s,r)) (ht:treeV fr s=some ⟨p,z,some r⟩) (hg:getPP p z r=some ⟨q,y0⟩) (hty:(E.ti t).sh=some q.sh) (hz0:fr z0=.pv q m none) (hn:z0 < a.tmps.size)
 (hsl:q.isSl=true) (hset:setPP p z r q m=some z') :
 qh P o a w (PPost P base w0 S0 a.tmps.size gv w S F False ((fr.kill z0).turn s p z' none)):=by
 obtain⟨u,rfl,hu,c,h1,h2,h3,_⟩:=h.placeT hp ht;obtain⟨q1,g1,o1,i1,i2,i3,i4,i5⟩:=(h3 rfl).zero (by rw[hg];simp);obtain⟨q2,g,o',hole⟩:=h2.core;rw[hole.loc] at i2;simp only[ya,yb,Spot.blk.injEq] at i2;obtain⟨rfl,rfl,rfl⟩:=i2;obtain rfl:=qmb p c z r q2 q _ y0 hole.loc hg;have hzs:z0≠s:=fun e=>by
  subst e;unfold treeV at ht;rw[hz0] at ht;simp only[ya,Tree.mk.injEq] at ht;exact absurd ht.2.2 (by simp)
 obtain⟨hvo,hpm⟩:=h.pv_at hz0;rw[qE gv a z0 hn] at hvo hpm;have hsz:q2.size=1:=by cases q2 <;> first | rfl | cases hsl
 have hcell0:(a.eval (.tmp z0)).cells[0]? = some (a.eval (.tmp z0)):=qQ hvo hsl;have hone:(a.eval (.tmp z0)).oneCell'=true:=by
  have hag:q2.agg=false:=by cases q2 <;> first | rfl | cases hsl
  unfold valOk at hvo;rw[hag] at hvo;simpa using hvo
 have hcells:(a.eval (.tmp z0)).cells = #[a.eval (.tmp z0)]:=by
  generalize a.eval (.tmp z0)=v at hone;cases v <;> first | rfl | (simp[Value.oneCell'] at hone)
 obtain⟨cur,T,hcur,hroom⟩:=hole.room;have hFg:F s g:=by
  rcases hole.blk with h5 | h5
  ·exact h5.1
  ·exact(h2.blk g h5).1
 have hns:∀ o,¬ S g o:=by
  rcases hole.uns with h5 | h5
  ·exact(h2.blk g h5).2.1
  ·exact h5
 have hrun:(execOp a.eval o).run P w=.ok .skip (w.setRow g (cur.toList.take o'++(a.eval (.tmp z0)).cells.toList++cur.toList.drop (o'+q2.size)).toArray):=by
  have e1:=qfK (E:=E) (hT t _ hty) hcur (o:=o') (v:=a.eval (.tmp z0)) (by rw[hcells,PSh.size_eq,hsz];rfl) (by rw[PSh.size_eq];exact hroom) (fun u hu=>by rw[hcells] at hu;simp at hu;subst hu;exact hone);rw[PSh.size_eq] at e1;unfold execOp;simp only[hop];rw[← qE gv a u hu,i3,yh,e1];rfl
 obtain⟨m1,m2⟩:=qfL (w:=w) (o:=o') hcur (vs:=(a.eval (.tmp z0)).cells.toList) (k:=q2.size) (by rw[hcells,hsz];rfl) hroom;generalize hw':w.setRow g (cur.toList.take o'++(a.eval (.tmp z0)).cells.toList++cur.toList.drop (o'+q2.size)).toArray=w' at hrun m1 m2;have hgr:w.grownBy w' (some g):=by
  rw[← hw'];exact⟨rfl,rfl,rfl,by simp,fun k _ hk=>setRow_other w g k _ (fun e=>hk (by rw[e]))⟩
 have hkeep:Keeps w S w' S:=fun b o2 hs=>⟨hs,qj (hgr.block b (h.r.slt b o2 hs) (fun e=>by
  have:=yp e;subst this;exact hns o2 hs)) o2⟩
 have hz0g:∀ b,F z0 b→b≠g:=fun b hb e=>by subst e;exact h.dj z0 s b hzs hb hFg
 have hpm':PM w' S q2 ((Spot.blk g o').rdr w') m (F z0):=PM.step hkeep q2 _ _ m (F z0) hpm (fun i hi=>by
  obtain rfl:i=0:=by omega
  have e2:blkR w' g o' 0=some (a.eval (.tmp z0)):=m2 0 (a.eval (.tmp z0)) (by rw[hcells];rfl);exact e2.trans hcell0.symm) (fun b hb=>hgr.block b (h.lt hb) (fun e=>hz0g b hb (yp e))) (fun _ _ _=>Iff.rfl)
 obtain⟨z2,n1,n2⟩:=hole.wand w' S m (F z0) hkeep (fun b hb hne=>hgr.block b (h.lt hb.1) hne) m1 (fun g' hg' hne=>hgr.block g' (h.lt (h2.blk g' hg').1) (fun e=>hne e.symm)) (fun _ _ _=>Iff.rfl) hpm'
  (fun b hb hh=>h.dj z0 s b hzs hb hh.1) (fun g' hg' hb=>by
   simp only[Spot.block,ya] at hg';subst hg';exact hz0g g hb rfl) (fun g' hg' hb=>h.dj z0 s g' hzs hb (h2.blk g' hg').1)
 rw[hset] at n1;obtain rfl:=yp n1
 let F':Nat→Nat→Prop:=fun t b=>(t=s∧(F s b∨F z0 b))∨(t≠s∧t≠z0∧F t b)
 have hcore:PM w' S p (c.rdr w') z' (fun b=>(F s b∨F z0 b)∧c.block≠some b):=n2.congrF fun b=>⟨fun hb=>hb.elim (fun hb=>⟨.inr hb,fun e=>h.dj z0 s b hzs hb (h2.blk b e).1⟩) (fun hb=>⟨.inl hb.1,hb.2⟩),fun hb=>hb.1.elim (fun hF=>.inr ⟨hF,hb.2⟩) .inl⟩;have hroot:Root w' S p z' none c (fun b=>F s b∨F z0 b):=by
  refine⟨fun g' hg'=>?_,hcore,fun v hv hs=>?_⟩
  ·obtain⟨e1,e2,cc,T',e3,e4⟩:=h2.blk g' hg';refine⟨.inl e1,e2,?_⟩
   by_cases hgg:g'=g
   ·subst hgg;rw[hcur] at e3;simp only[ya,Obj.cells.injEq,and_true] at e3;obtain⟨rfl,rfl⟩:=e3;obtain⟨cu,cu',te,fz,f1,f2,f3,_⟩:=m1;rw[hcur] at f1;simp only[ya,Obj.cells.injEq] at f1;obtain⟨rfl,rfl,rfl⟩:=f1;exact⟨cu',_,f2,f3.trans e4⟩
   ·exact⟨cc,T',(hgr.block g' (h.lt e1) (fun e=>hgg (yp e))).trans e3,e4⟩
  ·subst hv;have hvk:valOk p v:=by
    generalize fr s=av at h1;generalize tv gv a s=vv at h1;cases h1 with
    | pv _ _ _ _ hv=>exact hv
   exact qkH (qfJ hvk hcore hs) (fun b hb=>hb.1)
 have hrz:(fr z0).vague=true:=by rw[hz0];rfl
 have hks:fr.kill z0 s=fr s:=by
  rw[qcj fr (Ne.symm hzs)];exact(qaM fr z0 s).2 h1.isRoot
 have hi':IsRoot (fr.kill z0 s) (tv gv a s) p z (some r) c:=by rw[hks];exact h1
 have hor:∀ t,(fr.kill z0).turn s p z' none t=fr t∨((fr t).vague=true∧((fr.kill z0).turn s p z' none t).vague=true):=fun t=>by
  rcases qvI (fr:=fr.kill z0) (s:=s) (p:=p) (z:=z') (hh:=none) hi'.isRoot t with e1 | ⟨e1,e2⟩
  ·rcases qig fr z0 t hrz with e3 | ⟨e3,e4⟩
   ·exact .inl (e1.trans e3)
   ·exact .inr ⟨e3,by rw[e1];exact e4⟩
  ·rcases qig fr z0 t hrz with e3 | ⟨e3,e4⟩
   ·rw[e3] at e1;exact .inr ⟨e1,e2⟩
   ·exact .inr ⟨e3,e2⟩
 have hFF:∀ b,(∃ t,F' t b)↔∃ t,F t b:=fun b=>by
  constructor
  ·rintro⟨t,⟨_,hb | hb⟩ | ⟨_,_,hb⟩⟩
   ·exact⟨s,hb⟩
   ·exact⟨z0,hb⟩
   ·exact⟨t,hb⟩
  ·rintro⟨t,hb⟩
   by_cases e1:t=s
   ·subst e1;exact⟨t,.inl ⟨rfl,.inl hb⟩⟩
   ·by_cases e2:t=z0
    ·subst e2;exact⟨s,.inl ⟨rfl,.inr hb⟩⟩
    ·exact⟨t,.inr ⟨e1,e2,hb⟩⟩
 have hbase:¬ base g:=h.nb s g hFg;have hFs':F' s=fun b=>F s b∨F z0 b:=funext fun b=>propext ⟨fun hh=>hh.elim (·.2) (fun hh=>absurd rfl hh.1),fun hh=>.inl ⟨rfl,hh⟩⟩;have hroots:∀ t,t≠s→t≠z0→((fr.kill z0).turn s p z' none t).isRoot=(fr t).isRoot∧((fr t).isRoot=true→(fr.kill z0).turn s p z' none t=fr t):=fun t e1 e2=>by
  rw[qck e1];obtain⟨e3,e4⟩:=qdB (fr.kill z0) s t;have e5:fr.kill z0 t=fr.sweep z0 t:=qcj fr e2;rw[e5] at e3 e4;obtain⟨e6,e7⟩:=qaM fr z0 t;exact⟨e3.trans e6,fun hh=>(e4 (e6.trans hh)).trans (e7 hh)⟩
 refine qh.skip hrun ⟨by rw[hdst];rfl,S,F',?_,hkeep,fun hf=>hf.elim⟩;rw[hdst];show RP P base w0 S0 S ((fr.kill z0).turn s p z' none) gv a w' F';refine h.upd (fun t=>t=s∨t=z0) (((h.r.repriv hor).wrote (.inr ⟨s,hFg⟩) hns hgr).rebase (fun k hk=>hk.imp id (hFF k).1)) ⟨hgr.os,hgr.tape,hgr.output,hgr.size,fun k hk=>hgr.block k (h.base_le hk) (fun e=>by
  have:=yp e;subst this;exact hbase hk)⟩ (fun _ _ _=>Iff.rfl) hkeep (fun t ht b=>⟨fun hh=>hh.elim (fun hh=>absurd (.inl hh.1) ht) (·.2.2),fun hh=>.inr ⟨fun e=>ht (.inl e),fun e=>ht (.inr e),hh⟩⟩)
  (fun t b ht hb=>hgr.block b (h.lt hb) (fun e=>by
   have:=yp e;subst this;exact h.dj t s b (fun e=>ht (.inl e)) hb hFg)) (fun _ _ _ _ _=>Iff.rfl)
  (fun t ht=>?_) (fun t b ht hb=>?_) (fun t t' b ht hne hb hb'=>?_) (fun t ht hr b hb=>?_) (fun t ht hr=>?_) (fun t s' r' ht=>?_) (fun t s' r' ht=>?_)
 ·obtain⟨e1,e2⟩:=hroots t (fun e=>ht (.inl e)) (fun e=>ht (.inr e));exact⟨e1,fun hh=>⟨e2 hh,rfl⟩⟩
 ·obtain⟨t',ht'⟩:=(hFF b).1 ⟨t,hb⟩;exact h.nb t' b ht'
 ·rcases hb with ⟨rfl,hb⟩ | ⟨e1,e2,hb⟩
  ·rcases hb' with ⟨e3,_⟩ | ⟨e3,e4,hb'⟩
   ·exact hne e3.symm
   ·rcases hb with hb | hb
    ·exact h.dj t t' b hne hb hb'
    ·exact h.dj z0 t' b (Ne.symm e4) hb hb'
  ·rcases ht with ht | ht
   ·exact e1 ht
   ·exact e2 ht
 ·rcases ht with rfl | rfl
  ·rw[(qD (z':=z') (hh':=none) hi').isRoot] at hr;cases hr
  ·rcases hb with hb | hb
   ·exact hzs hb.1
   ·exact hb.2.1 rfl
 ·rcases ht with rfl | rfl
  ·rw[hFs'];exact .tree _ _ p z' none c (qD hi') hroot
  ·rw[qck hzs] at hr;have:(fr.kill t).sweepK s t=.bad:=by unfold Fr.sweepK;rw[qaN]
   rw[this] at hr;cases hr
 ·by_cases e1:t=s
  ·subst e1;have:=(qD (z':=z') (hh':=none) hi').isRoot;rw[ht] at this;cases this
  ·rw[qck e1] at ht;obtain⟨e2,e3⟩:=qeN ht
   by_cases e4:t=z0
   ·subst e4;rw[qaN] at e2;cases e2
   ·rw[qcj fr e4] at e2;obtain⟨e5,e6⟩:=qcB e2
    by_cases e7:s'=s
    ·subst e7;refine .inr (h.turnRef h1 hkeep (F':=F' s') (by rw[hFs'];exact hroot) (fun g0 _ hF0=>?_) e5 (e3.resolve_left (fun e=>e rfl)) (qD hi'));rw[hFs'];exact .inl hF0
    ·exact .inl ⟨fun hx=>hx.elim e7 e6,e5,rfl⟩
 ·by_cases e1:t=s
  ·subst e1;have:=(qD (z':=z') (hh':=none) hi').isRoot;rw[ht] at this;cases this
  ·rw[qck e1] at ht;obtain⟨e2,e3⟩:=qeO ht
   by_cases e4:t=z0
   ·subst e4;rw[qaN] at e2;cases e2
   ·rw[qcj fr e4] at e2;obtain⟨e5,e6⟩:=qcC e2;exact .inl ⟨fun hx=>hx.elim e3 e6,e5,rfl⟩
theorem PM.one {w:World} {S:qa}:∀ (p:PSh) (rd:Rdr) (x:Den p.sh) (F:Nat→Prop),PM w S p rd x F→∀ i,i < p.size→∃ v,rd i=some v∧v.oneCell'=true
 | .leaf s,rd,x,F,h,i,hi=>by
  simp only[PM] at h;obtain⟨_,us,h1,h2⟩:=h;have hl:=RdC.length _ _ _ h1;simp only[PSh.size] at hi;have hx:us[i]? = some (us[i]'(by omega)):=yO (by omega);exact⟨_,h2 i _ hx,RdC.oneCell _ _ _ h1 _ (List.getElem_mem _)⟩
 | .parr n e,rd,x,F,h,i,hi=>by
  simp only[PM] at h;obtain⟨_,us,h1,h2⟩:=h;have hl:=RdC.length _ _ _ h1;simp only[PSh.size] at hi;have hx:us[i]? = some (us[i]'(by simp only[Sh.size] at hl;omega)):=yO (by simp only[Sh.size] at hl;omega);exact⟨_,h2 i _ hx,RdC.oneCell _ _ _ h1 _ (List.getElem_mem _)⟩
 | .osl te e,rd,x,F,h,i,hi=>by
  simp only[PM] at h;obtain⟨v,h1,h2⟩:=h;simp only[PSh.size] at hi;obtain rfl:i=0:=by omega
  obtain⟨xs,hr,_⟩:=h2.row;refine⟨v,h1,?_⟩;rcases hr.2 with ⟨rfl,_⟩ | ⟨g,cap,cur,k,rfl,_⟩
  ·rfl
  ·rfl
 | .psl te e,rd,x,F,h,i,hi=>by
  simp only[PM] at h;obtain⟨v,h1,h2⟩:=h;simp only[PSh.size] at hi;obtain rfl:i=0:=by omega
  refine⟨v,h1,?_⟩;rcases h2 with ⟨rfl,_⟩ | ⟨g,cap,cur,Fe,rfl,_⟩
  ·rfl
  ·rfl
 | .ppair a b,rd,x,F,h,i,hi=>by
  simp only[PM] at h;obtain⟨F1,F2,h1,h2,_⟩:=h;simp only[PSh.size] at hi
  by_cases hia:i < a.size
  ·exact PM.one a rd x.1 F1 h1 i hia
  ·obtain⟨v,e1,e2⟩:=PM.one b _ x.2 F2 h2 (i - a.size) (by omega);exact⟨v,by rw[show a.size+(i - a.size)=i by omega] at e1;exact e1,e2⟩
theorem RP.refilled (h:RP P base w0 S0 S fr gv a w F) (hT:TyOk P E.toEnv) (hdst:o.dst=none) {z m:Den p.sh}
 (hop:o.op=.store t x (.tmp z0)) (hp:qax a.tmps.size fr x=some (true,s,[])) (ht:treeV fr s=some ⟨p,z,none⟩) (hty:(E.ti t).sh=some p.sh) (hz0:fr z0=.pv p m none) (hn:z0 < a.tmps.size)
 (hzs:z0≠s) (hag:p.agg=true) :
 qh P o a w (PPost P base w0 S0 a.tmps.size gv w S F False ((fr.kill z0).turn s p m none)):=by
 obtain⟨u,rfl,hu,c,h1,h2,h3,_⟩:=h.placeT hp ht;obtain⟨q1,g1,o1,i1,i2,i3,i4,i5⟩:=(h3 rfl).zero (by cases p <;> simp[getPP]);have i2':some (p,c)=some (q1,Spot.blk g1 o1):=by rw[← i2];cases p <;> rfl
 simp only[ya,yb] at i2';obtain⟨rfl,rfl⟩:=i2';obtain⟨g,hc0,hpt⟩:∃ g,Spot.blk g1 o1=Spot.blk g 0∧tv gv a s=.pointer (some ⟨g,0,none⟩):=by
  generalize hfs:fr s=av at h1;generalize htv:tv gv a s=vv at h1;generalize hcc:Spot.blk g1 o1=cc at h1;cases h1 with
  | pv=>cases hcc
  | pbox _ _ _ b=>exact⟨b,rfl,rfl⟩
 obtain⟨e5,rfl⟩:g=g1∧o1=0:=by simpa [eq_comm] using hc0
 subst e5;obtain⟨hFg,hns,cur,T,hcur,hroom⟩:=h2.blk g rfl;obtain⟨hvo,hpm⟩:=h.pv_at hz0;rw[qE gv a z0 hn] at hvo hpm;unfold valOk at hvo;rw[if_pos hag] at hvo;obtain⟨cs,hcs,hsz⟩:=hvo;have hcells:(a.eval (.tmp z0)).cells=cs:=by rw[hcs];rfl
 have hone:=PM.one p _ m (F z0) hpm;have hrun:(execOp a.eval o).run P w=.ok .skip (w.setRow g (cur.toList.take 0++(a.eval (.tmp z0)).cells.toList++cur.toList.drop (0+p.size)).toArray):=by
  have e1:=qfK (E:=E) (hT t _ hty) hcur (o:=0) (v:=a.eval (.tmp z0)) (by rw[hcells,PSh.size_eq,hsz]) (by rw[PSh.size_eq];omega) (fun u hu=>by
   rw[hcells] at hu;obtain⟨i,hi,rfl⟩:=List.getElem_of_mem hu;obtain⟨v,e2,e3⟩:=hone i (by simp only[Array.length_toList] at hi;omega);have e4:cs[i]? = some v:=by rw[← hcells];exact e2
   rw[← Array.getElem?_toList,yO hi] at e4;rw[yp e4];exact e3)
  rw[PSh.size_eq] at e1;unfold execOp;simp only[hop];rw[← qE gv a u hu,i3,yh,e1];rfl
 obtain⟨m1,m2⟩:=qfL (w:=w) (o:=0) hcur (vs:=(a.eval (.tmp z0)).cells.toList) (k:=p.size) (by rw[hcells];simpa using hsz) (by omega);generalize hw':w.setRow g (cur.toList.take 0++(a.eval (.tmp z0)).cells.toList++cur.toList.drop (0+p.size)).toArray=w' at hrun m1 m2;have hgr:w.grownBy w' (some g):=by
  rw[← hw'];exact⟨rfl,rfl,rfl,by simp,fun k _ hk=>setRow_other w g k _ (fun e=>hk (by rw[e]))⟩
 have hkeep:Keeps w S w' S:=fun b o2 hs=>⟨hs,qj (hgr.block b (h.r.slt b o2 hs) (fun e=>by
  have:=yp e;subst this;exact hns o2 hs)) o2⟩
 have hz0g:∀ b,F z0 b→b≠g:=fun b hb e=>by subst e;exact h.dj z0 s b hzs hb hFg
 have hpm':PM w' S p ((Spot.blk g 0).rdr w') m (F z0):=PM.step hkeep p _ _ m (F z0) hpm (fun i hi=>by
  obtain⟨v,e2,_⟩:=hone i hi;have e3:(a.eval (.tmp z0)).cells.toList[i]? = some v:=by rw[Array.getElem?_toList];exact e2
  have e4:blkR w' g 0 i=some v:=m2 i v e3;exact e4.trans e2.symm) (fun b hb=>hgr.block b (h.lt hb) (fun e=>hz0g b hb (yp e))) (fun _ _ _=>Iff.rfl)
 let F':Nat→Nat→Prop:=fun t b=>(t=s∧(b=g∨F z0 b))∨(t≠s∧t≠z0∧F t b)
 have hroot:Root w' S p m none (.blk g 0) (fun b=>b=g∨F z0 b):=by
  refine⟨fun g' hg'=>?_,hpm'.congrF fun b=>⟨fun hb=>⟨.inr hb,fun e=>hz0g b hb (by simpa [Spot.block] using e.symm)⟩,fun hb=>hb.1.elim (fun e=>absurd (by rw[e];rfl) hb.2) id⟩,fun v hv hs=>by cases hv⟩;obtain rfl:g=g':=by simpa [Spot.block] using hg'
  refine⟨.inl rfl,hns,?_⟩;obtain⟨cu,cu',te,fz,f1,f2,f3,_⟩:=m1;rw[hcur] at f1;simp only[ya,Obj.cells.injEq] at f1;obtain⟨rfl,rfl,rfl⟩:=f1;exact⟨cu',_,f2,f3.trans hroom⟩
 have hrz:(fr z0).vague=true:=by rw[hz0];rfl
 have hks:fr.kill z0 s=fr s:=by
  rw[qcj fr (Ne.symm hzs)];exact(qaM fr z0 s).2 h1.isRoot
 have hi':IsRoot (fr.kill z0 s) (tv gv a s) p z none (.blk g 0):=by rw[hks];exact h1
 have hor:∀ t,(fr.kill z0).turn s p m none t=fr t∨((fr t).vague=true∧((fr.kill z0).turn s p m none t).vague=true):=fun t=>by
  rcases qvI (fr:=fr.kill z0) (s:=s) (p:=p) (z:=m) (hh:=none) hi'.isRoot t with e1 | ⟨e1,e2⟩
  ·rcases qig fr z0 t hrz with e3 | ⟨e3,e4⟩
   ·exact .inl (e1.trans e3)
   ·exact .inr ⟨e3,by rw[e1];exact e4⟩
  ·rcases qig fr z0 t hrz with e3 | ⟨e3,e4⟩
   ·rw[e3] at e1;exact .inr ⟨e1,e2⟩
   ·exact .inr ⟨e3,e2⟩
 have hFF:∀ b,(∃ t,F' t b)→∃ t,F t b:=fun b=>by
  rintro⟨t,⟨_,hb | hb⟩ | ⟨_,_,hb⟩⟩
  ·exact⟨s,by rw[hb];exact hFg⟩
  ·exact⟨z0,hb⟩
  ·exact⟨t,hb⟩
 have hbase:¬ base g:=h.nb s g hFg;have hFs':F' s=fun b=>b=g∨F z0 b:=funext fun b=>propext ⟨fun hh=>hh.elim (·.2) (fun hh=>absurd rfl hh.1),fun hh=>.inl ⟨rfl,hh⟩⟩;have hroots:∀ t,t≠s→t≠z0→((fr.kill z0).turn s p m none t).isRoot=(fr t).isRoot∧((fr t).isRoot=true→(fr.kill z0).turn s p m none t=fr t):=fun t e1 e2=>by
  rw[qck e1];obtain⟨e3,e4⟩:=qdB (fr.kill z0) s t;have e5:fr.kill z0 t=fr.sweep z0 t:=qcj fr e2;rw[e5] at e3 e4;obtain⟨e6,e7⟩:=qaM fr z0 t;exact⟨e3.trans e6,fun hh=>(e4 (e6.trans hh)).trans (e7 hh)⟩
 refine qh.skip hrun ⟨by rw[hdst];rfl,S,F',?_,hkeep,fun hf=>hf.elim⟩;rw[hdst];show RP P base w0 S0 S ((fr.kill z0).turn s p m none) gv a w' F';refine h.upd (fun t=>t=s∨t=z0) (((h.r.repriv hor).wrote (.inr ⟨s,hFg⟩) hns hgr).rebase (fun k hk=>hk.imp id (hFF k))) ⟨hgr.os,hgr.tape,hgr.output,hgr.size,fun k hk=>hgr.block k (h.base_le hk) (fun e=>by
  have:=yp e;subst this;exact hbase hk)⟩ (fun _ _ _=>Iff.rfl) hkeep (fun t ht b=>⟨fun hh=>hh.elim (fun hh=>absurd (.inl hh.1) ht) (·.2.2),fun hh=>.inr ⟨fun e=>ht (.inl e),fun e=>ht (.inr e),hh⟩⟩)
  (fun t b ht hb=>hgr.block b (h.lt hb) (fun e=>by
   have:=yp e;subst this;exact h.dj t s b (fun e=>ht (.inl e)) hb hFg)) (fun _ _ _ _ _=>Iff.rfl)
  (fun t ht=>?_) (fun t b ht hb=>?_) (fun t t' b ht hne hb hb'=>?_) (fun t ht hr b hb=>?_) (fun t ht hr=>?_) (fun t s' r' ht=>?_) (fun t s' r' ht=>?_)
 ·obtain⟨e1,e2⟩:=hroots t (fun e=>ht (.inl e)) (fun e=>ht (.inr e));exact⟨e1,fun hh=>⟨e2 hh,rfl⟩⟩
 ·obtain⟨t',ht'⟩:=hFF b ⟨t,hb⟩;exact h.nb t' b ht'
 ·rcases hb with ⟨rfl,hb⟩ | ⟨e1,e2,hb⟩
  ·rcases hb' with ⟨e3,_⟩ | ⟨e3,e4,hb'⟩
   ·exact hne e3.symm
   ·rcases hb with hb | hb
    ·subst hb;exact h.dj t t' b hne hFg hb'
    ·exact h.dj z0 t' b (Ne.symm e4) hb hb'
  ·rcases ht with ht | ht
   ·exact e1 ht
   ·exact e2 ht
 ·rcases ht with rfl | rfl
  ·rw[(qD (z':=m) (hh':=none) hi').isRoot] at hr;cases hr
  ·rcases hb with hb | hb
   ·exact hzs hb.1
   ·exact hb.2.1 rfl
 ·rcases ht with rfl | rfl
  ·rw[hFs'];exact .tree _ _ p m none (.blk g 0) (qD hi') hroot
  ·rw[qck hzs] at hr;have:(fr.kill t).sweepK s t=.bad:=by unfold Fr.sweepK;rw[qaN]
   rw[this] at hr;cases hr
 ·by_cases e1:t=s
  ·subst e1;have:=(qD (z':=m) (hh':=none) hi').isRoot;rw[ht] at this;cases this
  ·rw[qck e1] at ht;obtain⟨e2,e3⟩:=qeN ht
   by_cases e4:t=z0
   ·subst e4;rw[qaN] at e2;cases e2
   ·rw[qcj fr e4] at e2;obtain⟨e5,e6⟩:=qcB e2
    by_cases e7:s'=s
    ·subst e7;refine .inr (h.turnRef h1 hkeep (F':=F' s') (by rw[hFs'];exact hroot) (fun g0 hg0 _=>?_) e5 (e3.resolve_left (fun e=>e rfl)) (qD hi'));rw[hFs'];exact .inl (by simpa [Spot.block,eq_comm] using hg0)
    ·exact .inl ⟨fun hx=>hx.elim e7 e6,e5,rfl⟩
 ·by_cases e1:t=s
  ·subst e1;have:=(qD (z':=m) (hh':=none) hi').isRoot;rw[ht] at this;cases this
  ·rw[qck e1] at ht;obtain⟨e2,e3⟩:=qeO ht
   by_cases e4:t=z0
   ·subst e4;rw[qaN] at e2;cases e2
   ·rw[qcj fr e4] at e2;obtain⟨e5,e6⟩:=qcC e2;exact .inl ⟨fun hx=>hx.elim e3 e6,e5,rfl⟩
end
end
section
open Go.RowKit Go.Lib
variable {te:TypeId} {e:PSh} {u v':Value} {Fq:Nat→Prop} {xs:List Value} {Fe:Nat→Nat→Prop} {w':World}
theorem PM.cells1 {w:World} {S:qa}:∀ (p:PSh) (rd:Rdr) (x:Den p.sh) (F:Nat→Prop),PM w S p rd x F→∀ i,i < p.size→∃ v,rd i=some v∧v.oneCell'=true
 | .leaf s,rd,x,F,h,i,hi=>by
  simp only[PM] at h;obtain⟨_,cs,h1,h2⟩:=h;have hl:=RdC.length _ _ _ h1;have hlt:i < cs.length:=by simp only[PSh.size] at hi;omega
  exact⟨cs[i],h2 i _ (yO hlt),RdC.oneCell _ _ _ h1 _ (List.getElem_mem hlt)⟩
 | .parr n e,rd,x,F,h,i,hi=>by
  simp only[PM] at h;obtain⟨_,cs,h1,h2⟩:=h;have hl:=RdC.length _ _ _ h1;have hlt:i < cs.length:=by simp only[PSh.size] at hi;simp only[Sh.size] at hl;omega
  exact⟨cs[i],h2 i _ (yO hlt),RdC.oneCell _ _ _ h1 _ (List.getElem_mem hlt)⟩
 | .osl te e,rd,x,F,h,i,hi=>by
  obtain rfl:i=0:=by simp only[PSh.size] at hi;omega
  obtain⟨u,h1,_,h3⟩:=h.hdr (n:=List.length x) rfl;exact⟨u,h1,h3⟩
 | .psl te e,rd,x,F,h,i,hi=>by
  obtain rfl:i=0:=by simp only[PSh.size] at hi;omega
  obtain⟨u,h1,_,h3⟩:=h.hdr (n:=List.length x) rfl;exact⟨u,h1,h3⟩
 | .ppair a b,rd,x,F,h,i,hi=>by
  simp only[PM] at h;obtain⟨F1,F2,h1,h2,_⟩:=h;simp only[PSh.size] at hi;rcases Nat.lt_or_ge i a.size with hlt | hge
  ·exact PM.cells1 a _ _ _ h1 i hlt
  ·obtain⟨v,k1,k2⟩:=PM.cells1 b _ _ _ h2 (i - a.size) (by omega);rw[show a.size+(i - a.size)=i by omega] at k1;exact⟨v,k1,k2⟩
section
structure PslAt (w:World) (S:qa) (te:TypeId) (e:PSh) (u:Value) (l:List (Den e.sh)) (Fq:Nat→Prop) (xs:List Value) (Fe:Nat→Nat→Prop):Prop where
 own:w.ownsRow 0 te e.size u l.length xs
 one:∀ v∈xs,v.oneCell'=true
 els:∀ n x,l[n]? = some x→PM w S e (fun i=>xs[n*e.size+i]?) x (Fe n)
 fe1:∀ n b,l.length≤n→¬ Fe n b
 fe2:∀ n m b,n≠m→Fe n b→¬ Fe m b
 fe3:∀ n b,Fe n b→u.ownBlock≠some b
 fq:∀ b,Fq b↔u.ownBlock=some b∨∃ n,Fe n b
 ns:∀ b,u.ownBlock=some b→∀ o,¬ S b o
theorem qqU {l:List (Den e.sh)} (hu:valR u 0=some u) (h:PM w S (.psl te e) (valR u) l Fq):∃ xs Fe,PslAt w S te e u l Fq xs Fe:=by
 simp only[PM] at h;obtain⟨v,h1,h2⟩:=h;rw[hu] at h1;obtain rfl:=yp h1;rcases h2 with ⟨rfl,rfl,h3⟩ | ⟨g,cap,cur,Fe,rfl,k2,k3,k4,k5,k6,k7,k8,k9,k10,k11⟩
 ·refine⟨[],fun _ _=>False,⟨by simp,.inl ⟨rfl,rfl⟩⟩,fun v hv=>(by cases hv),fun n x hn=>by simp at hn,fun _ _ _ h=>h,fun _ _ _ _ h=>h.elim,fun _ _ h=>h.elim,fun b=>⟨fun hb=>absurd hb (h3 b),fun hb=>?_⟩,fun b hb=>by cases hb⟩;rcases hb with hb | ⟨_,hb⟩
  ·cases hb
  ·exact hb.elim
 ·have hle:l.length*e.size≤cap*e.size:=yC _ k3;have hxs:∀ i,i < l.length*e.size→(cur.toList.take (l.length*e.size))[i]? = blkR w g 0 i:=fun i hi=>by
   rw[List.getElem?_take_of_lt hi,Array.getElem?_toList];simp[blkR,World.cell?,k2]
  refine⟨cur.toList.take (l.length*e.size),Fe,⟨by rw[yz];simp;omega,.inr ⟨g,cap,cur,rfl,Nat.zero_le _,k2,k3,k4,k5,rfl⟩⟩,fun v hv=>?_,fun n x hn=>?_,k8,k9,fun n b hb hc=>?_,fun b=>?_,fun b hb o=>?_⟩
  ·obtain⟨i,hi,rfl⟩:=List.getElem_of_mem hv;rw[yz] at hi;have hi':i < l.length*e.size:=by omega
   have hlt:i / e.size < l.length:=Nat.div_lt_of_lt_mul (by rw[Nat.mul_comm];exact hi');have hpos:0 < e.size:=by
    rcases Nat.eq_zero_or_pos e.size with h0 | h0
    ·rw[h0] at hi';omega
    ·exact h0
   obtain⟨v',m1,m2⟩:=PM.cells1 e _ _ _ (k7 (i / e.size) l[i / e.size] (yO hlt)) (i % e.size) (Nat.mod_lt _ hpos);have h1:=hxs i hi';have h2:blkR w g (i / e.size*e.size) (i % e.size)=blkR w g 0 i:=by
    unfold blkR;rw[show i / e.size*e.size+i % e.size=0+i by rw[Nat.mul_comm,Nat.div_add_mod];omega]
   rw[← h2,m1] at h1;have h3:=List.getElem?_eq_some_iff.1 h1;obtain⟨_,h3⟩:=h3;rw[h3];exact m2
  ·refine PM.step (Keeps.refl w S) e _ _ x (Fe n) (k7 n x hn) (fun i hi=>?_) (fun _ _=>rfl) (fun _ _ _=>Iff.rfl);have hlt:=(List.getElem?_eq_some_iff.1 hn).1;have hle':(n+1)*e.size≤l.length*e.size:=yC _ hlt;rw[Nat.add_mul,Nat.one_mul] at hle';show (cur.toList.take (l.length*e.size))[n*e.size+i]? = _;rw[hxs _ (by omega)];simp[blkR]
  ·simp only[Value.ownBlock,ya] at hc;exact k10 n b hb hc.symm
  ·rw[k11 b];simp only[Value.ownBlock,ya];exact⟨fun hh=>hh.imp (fun e=>e.symm) id,fun hh=>hh.imp (fun e=>e.symm) id⟩
  ·simp only[Value.ownBlock,ya] at hb;subst hb;exact k6 o
theorem qor {l:List (Den e.sh)} {v:Value} (hown:w.ownsRow 0 te e.size v l.length xs) (hels:∀ n x,l[n]? = some x→PM w S e (fun i=>xs[n*e.size+i]?) x (Fe n))
 (h1:∀ n b,l.length≤n→¬ Fe n b) (h2:∀ n m b,n≠m→Fe n b→¬ Fe m b) (h3:∀ n b,Fe n b→v.ownBlock≠some b) (hns:∀ b,v.ownBlock=some b→∀ o,¬ S b o) :
 PM w S (.psl te e) (valR v) l (fun b=>v.ownBlock=some b∨∃ n,Fe n b):=by
 simp only[PM];rcases hown.2 with ⟨rfl,h0⟩ | ⟨g,cap,cur,rfl,_,k2,k3,k4,k5,k6⟩
 ·have hl:l=[]:=yF h0;subst hl;refine⟨_,rfl,.inl ⟨rfl,rfl,fun b hb=>?_⟩⟩;rcases hb with hb | ⟨n,hb⟩
  ·cases hb
  ·exact h1 n b (Nat.zero_le _) hb
 ·refine⟨_,rfl,.inr ⟨g,cap,cur,Fe,rfl,k2,k3,k4,k5,hns g rfl,fun n x hn=>?_,h1,h2,fun n b hb hc=>h3 n b hb (by rw[hc];rfl),fun b=>?_⟩⟩
  ·refine PM.step (Keeps.refl w S) e _ _ x (Fe n) (hels n x hn) (fun i hi=>?_) (fun _ _=>rfl) (fun _ _ _=>Iff.rfl);have hlt:=(List.getElem?_eq_some_iff.1 hn).1;have hle':(n+1)*e.size≤l.length*e.size:=yC _ hlt;rw[Nat.add_mul,Nat.one_mul] at hle';rw[← k6,List.getElem?_take_of_lt (by omega),Array.getElem?_toList];simp[blkR,World.cell?,k2]
  ·simp only[Value.ownBlock,ya];exact⟨fun hh=>hh.imp (fun e=>e.symm) id,fun hh=>hh.imp (fun e=>e.symm) id⟩
theorem qvH {l m:List (Den e.sh)} {z:Value} {Fz:Nat→Prop} {ys:List Value} {Ge:Nat→Nat→Prop} (hslt:∀ b o,S b o→b < w.heap.size) (h:PslAt w S te e u l Fq xs Fe) (k:PslAt w S te e z m Fz ys Ge)
 (hdj:∀ b,Fq b→¬ Fz b) (hlt:∀ b,Fq b∨Fz b→b < w.heap.size) (happ:App w 0 te e.size u l.length m.length xs ys v' w') :
 PM w' S (.psl te e) (valR v') (l++m) (fun b=>v'.ownBlock=some b∨∃ n,(fun n b=>(n < l.length∧Fe n b)∨(l.length≤n∧Ge (n - l.length) b)) n b)∧Keeps w S w' S:=by
 obtain⟨hgr,hv'⟩:=happ.facts;have hlen:(l++m).length=l.length+m.length:=by simp
 have hxl:xs.length=l.length*e.size:=h.own.1;have hkeep:Keeps w S w' S:=fun b o hs=>⟨hs,qj (hgr.block b (hslt b o hs) (fun e=>h.ns b e.symm o hs)) o⟩;have hFe:∀ n b,Fe n b→Fq b:=fun n b hb=>(h.fq b).2 (.inr ⟨n,hb⟩);have hGe:∀ n b,Ge n b→Fz b:=fun n b hb=>(k.fq b).2 (.inr ⟨n,hb⟩);have hown:=happ.own;rw[← hlen] at hown;refine⟨qor hown (fun n x hn=>?_) (fun n b hn hh=>?_) (fun n n' b hne h1 h2=>?_) (fun n b hh hc=>?_) (fun b hb o hs=>?_),hkeep⟩
 ·rcases Nat.lt_or_ge n l.length with hlt' | hge
  ·rw[yM hlt'] at hn;have:=PM.step hkeep e _ (fun i=>(xs++ys)[n*e.size+i]?) x (Fe n) (h.els n x hn) (fun i hi=>by
    have hle':(n+1)*e.size≤l.length*e.size:=yC _ hlt';rw[Nat.add_mul,Nat.one_mul] at hle';rw[yM (by omega)]) (fun b hb=>hgr.block b (hlt b (.inl (hFe n b hb))) (fun e=>h.fe3 n b hb e.symm)) (fun _ _ _=>Iff.rfl)
   exact this.congrF fun b=>⟨fun hb=>.inl ⟨hlt',hb⟩,fun hb=>hb.elim (·.2) (fun hb=>absurd hb.1 (by omega))⟩
  ·rw[yN hge] at hn;have:=PM.step hkeep e _ (fun i=>(xs++ys)[n*e.size+i]?) x (Ge (n - l.length)) (k.els _ x hn) (fun i hi=>by
    have:n*e.size=l.length*e.size+(n - l.length)*e.size:=by rw[← Nat.add_mul];congr 1;omega
    rw[yN (by omega)];congr 1;omega) (fun b hb=>hgr.block b (hlt b (.inr (hGe _ b hb))) (fun e=>hdj b ((h.fq b).2 (.inl e.symm)) (hGe _ b hb))) (fun _ _ _=>Iff.rfl)
   exact this.congrF fun b=>⟨fun hb=>.inr ⟨hge,hb⟩,fun hb=>hb.elim (fun hb=>absurd hb.1 (by omega)) (·.2)⟩
 ·rcases hh with hh | hh
  ·omega
  ·exact k.fe1 _ b (by omega) hh.2
 ·rcases h1 with h1 | h1 <;> rcases h2 with h2 | h2
  ·exact h.fe2 n n' b hne h1.2 h2.2
  ·exact hdj b (hFe _ b h1.2) (hGe _ b h2.2)
  ·exact hdj b (hFe _ b h2.2) (hGe _ b h1.2)
  ·exact k.fe2 _ _ b (by omega) h1.2 h2.2
 ·have hb:b < w.heap.size:=by
   rcases hh with hh | hh
   ·exact hlt b (.inl (hFe _ b hh.2))
   ·exact hlt b (.inr (hGe _ b hh.2))
  rcases (hv' b hc).1 with h1 | h1
  ·rcases hh with hh | hh
   ·exact h.fe3 n b hh.2 h1
   ·exact hdj b ((h.fq b).2 (.inl h1)) (hGe _ b hh.2)
  ·omega
 ·rcases (hv' b hb).1 with h1 | h1
  ·exact h.ns b h1 o hs
  ·have:=hslt b o hs;omega
theorem RP.regrow2 (h:RP P base w0 S0 S fr gv a w F) {d z:Nat} (hd:d < a.tmps.size) (hzd:z≠d) (hroot:(fr d).isRoot=true) (hrz:(fr z).isRoot=true) {row:Option Nat} (hg:w.grownBy w' row) (hrow:∀ g,row=some g→F d g)
 (hk:Keeps w S w' S) (hlt:∀ b o,S b o→b < w'.heap.size)
 {v:AV} {Fd:Nat→Prop} (hv:v.isRoot=true) (hFd:∀ b,Fd b→F d b∨F z b∨(w.heap.size≤b∧b < w'.heap.size)) (hr:RootAny P w' S Fd v v') :
 RP P base w0 S0 S ((fr.kill z).putP d v) gv (a.put (some d) v') w' (fun t b=>(t=d∧Fd b)∨(t≠d∧t≠z∧F t b)):=by
 have hvz:=qu hrz;have htv:∀ t,t≠d→tv gv (a.put (some d) v') t=tv gv a t:=fun t ht=>by rw[qcW gv a d v' t hd,if_neg ht]
 have htd:tv gv (a.put (some d) v') d=v':=by rw[qcW gv a d v' d hd,if_pos rfl]
 have hvague:=qu hv;have hplain:v.plain=true:=by cases v <;> first | rfl | cases hv
 have hbase:∀ b,base b→some b≠row:=fun b hb e=>h.nb d b (hrow b e.symm) hb;have hother:∀ t b,t≠d→F t b→some b≠row:=fun t b ht hb e=>h.dj t d b ht hb (hrow b e.symm);have hsize:=hg.size;have hlabF:∀ l e g t,(fr l).lab=some (l,e)→F t g→(a.tmps.getD l undef).ownBlock≠some g:=fun l e g t hl hF hb=>h.r.lab_base hl hb (.inr ⟨t,hF⟩);have hboxF:∀ t s (x:Den s) g t',fr t=.box s x→F t' g→a.tmps.getD t undef≠.pointer (some ⟨g,0,none⟩):=fun t s x g t' hf hF hb=>by
  obtain⟨b,h1,h2⟩:=h.r.box t s x hf;rw[hb] at h2;simp only[Value.pointer.injEq,ya,Addr.mk.injEq,and_true] at h2;subst h2;exact h1.1 (.inr ⟨t',hF⟩)
 have hor:∀ t,(fr.kill z).sweep d t=fr t∨((fr t).vague=true∧((fr.kill z).sweep d t).vague=true):=fun t=>by
  rcases qaW (fr.kill z) d t with e1 | ⟨e1,e2⟩
  ·rcases qig fr z t hvz with e3 | ⟨e3,e4⟩
   ·exact .inl (e1.trans e3)
   ·exact .inr ⟨e3,by rw[e1];exact e4⟩
  ·rcases qig fr z t hvz with e3 | ⟨e3,e4⟩
   ·rw[e3] at e1;exact .inr ⟨e1,e2⟩
   ·exact .inr ⟨e3,e2⟩
 have hR1:R (fun k=>base k∨∃ t,t≠d∧t≠z∧F t k) w S S ((fr.kill z).sweep d) a w:=(h.r.repriv hor).rebase (fun k hk=>hk.imp id (fun ⟨t,ht⟩=>⟨t,ht.2.2⟩));have hnv:∀ l e l',((fr.kill z).sweep d l).lab=some (l',e)→(fr l).lab=some (l',e):=fun l e l' hl=>by
  rcases hor l with e1 | ⟨_,e1⟩
  ·rwa[e1] at hl
  ·rw[qar e1] at hl;cases hl
 have hnb:∀ t s (x:Den s),((fr.kill z).sweep d) t=.box s x→fr t=.box s x:=fun t s x hb=>by
  rcases hor t with e1 | ⟨_,e1⟩
  ·rwa[e1] at hb
  ·rw[hb] at e1;cases e1
 have hR2:R (fun k=>base k∨∃ t,t≠d∧t≠z∧F t k) w S S ((fr.kill z).sweep d) a w':=hR1.step hg hk (fun _ _ _ _=>Iff.rfl) hlt (fun g hg'=>by
  refine⟨fun hB=>?_,fun l e hl=>hlabF l e g d (hnv l e l hl) (hrow g hg'),fun t s x hf=>hboxF t s x g d (hnb t s x hf) (hrow g hg')⟩;rcases hB with hB | ⟨t,ht,_,hF⟩
  ·exact hbase g hB hg'.symm
  ·exact hother t g ht hF hg'.symm)
 have hR3:R (fun k=>base k∨∃ t,t≠d∧t≠z∧F t k) w S S ((fr.kill z).putP d v) (a.put (some d) v') w':=hR2.put_plain hd (qfR hvague _ _ _) hplain;have hFdt:∀ b,Fd b→(∃ t,F t b)∨(w.heap.size≤b∧b < w'.heap.size):=fun b hb=>(hFd b hb).elim (fun hh=>.inl ⟨d,hh⟩) (fun hh=>hh.elim (fun hh=>.inl ⟨z,hh⟩) .inr);have hR4:=(hR3.rebase (fun k hk=>hk)).widen (X:=Fd) (fun k hk=>(hFdt k hk).elim (fun ⟨_,hh⟩=>yH (h.lt hh) hsize) (·.2))
  (fun t l e b hl hb hX=>by
   unfold Fr.putP Fr.put at hl;split at hl
   ·rw[qar hvague] at hl;cases hl
   ·rename_i ht;rw[qL a d v' t hd,if_neg ht] at hb;have hl2:=hnv t e l (qaI hl).1;have hl3:=h.r.cp t l e hl2;have hl4:(fr l).lab=some (l,e):=by rw[hl3.1];exact hl2
    rw[← hl3.2] at hb;rcases hFdt b hX with ⟨t',hF⟩ | hF
    ·exact hlabF l e b t' hl4 hF hb
    ·have:=h.r.own_lt hl4 hb;omega)
  (fun t s x b hl hb hX=>by
   unfold Fr.putP Fr.put at hl;split at hl
   ·rw[hl] at hv;cases hv
   ·rename_i ht;rw[qL a d v' t hd,if_neg ht] at hb;have hl1:=hnb t s x (qaU hl);rcases hFdt b hX with ⟨t',hF⟩ | hF
    ·exact hboxF t s x b t' hl1 hF hb
    ·have:=h.r.box_lt hl1 hb;omega)
 have hroots:∀ t,t≠d→t≠z→((fr.kill z).putP d v t).isRoot=(fr t).isRoot∧((fr t).isRoot=true→(fr.kill z).putP d v t=fr t):=fun t e1 e2=>by
  obtain⟨e3,e4⟩:=qaz (fr.kill z) d v e1;have e5:fr.kill z t=fr.sweep z t:=qcj fr e2;rw[e5] at e3 e4;obtain⟨e6,e7⟩:=qaM fr z t;exact⟨e3.trans e6,fun hh=>(e4 (e6.trans hh)).trans (e7 hh)⟩
 refine h.upd (fun t=>t=d∨t=z) (hR4.rebase (fun k hk=>?_)) ⟨hg.os,hg.tape,hg.output,hg.size,fun k hk=>hg.block k (h.base_le hk) (hbase k hk)⟩ (fun _ _ _=>Iff.rfl) hk
  (fun t ht b=>⟨fun hh=>hh.elim (fun hh=>absurd (.inl hh.1) ht) (·.2.2),fun hh=>.inr ⟨fun e=>ht (.inl e),fun e=>ht (.inr e),hh⟩⟩) (fun t b ht hb=>hg.block b (h.lt hb) (hother t b (fun e=>ht (.inl e)) hb)) (fun _ _ _ _ _=>Iff.rfl)
  (fun t ht=>?_) (fun t b ht hb=>?_) (fun t t' b ht hne hb hb'=>?_) (fun t ht hr' b hb=>?_) (fun t ht hr'=>?_) (fun t s r ht=>?_) (fun t s r ht=>?_)
 ·rcases hk with hk | ⟨t,⟨rfl,ht⟩ | ht⟩
  ·exact .inl (.inl hk)
  ·exact .inr ht
  ·exact .inl (.inr ⟨t,ht⟩)
 ·obtain⟨e1,e2⟩:=hroots t (fun e=>ht (.inl e)) (fun e=>ht (.inr e));exact⟨e1,fun hh=>⟨e2 hh,htv t (fun e=>ht (.inl e))⟩⟩
 ·rcases hb with hb | hb
  ·rcases hFdt b hb.2 with ⟨t',hF⟩ | hF
   ·exact h.nb t' b hF
   ·intro hB;have:=h.base_le hB;omega
  ·exact h.nb t b hb.2.2
 ·rcases hb with ⟨rfl,hb⟩ | hb
  ·rcases hb' with hb' | hb'
   ·exact hne hb'.1.symm
   ·rcases hFd b hb with hF | hF | hF
    ·exact h.dj t t' b hne hF hb'.2.2
    ·exact h.dj z t' b (Ne.symm hb'.2.1) hF hb'.2.2
    ·have:=h.lt hb'.2.2;omega
  ·rcases ht with ht | ht
   ·exact hb.1 ht
   ·exact hb.2.1 ht
 ·rcases ht with rfl | rfl
  ·rw[qo,hv] at hr';cases hr'
  ·rcases hb with hb | hb
   ·exact hzd hb.1
   ·exact hb.2.1 rfl
 ·rcases ht with rfl | rfl
  ·rw[qo,htd];have e:(fun b=>(t=t∧Fd b)∨(t≠t∧t≠z∧F t b))=Fd:=funext fun b=>propext ⟨fun hh=>hh.elim (·.2) (fun hh=>absurd rfl hh.1),fun hh=>.inl ⟨rfl,hh⟩⟩;rw[e];exact hr
  ·obtain⟨e3,_⟩:=qaz (fr.kill t) d v hzd;rw[qaN] at e3;rw[e3] at hr';cases hr'
 ·by_cases htd':t=d
  ·subst htd';rw[qo] at ht;rw[ht] at hv;cases hv
  ·obtain⟨e1,e2⟩:=qeo ht htd'
   by_cases htz:t=z
   ·subst htz;rw[qaN] at e1;cases e1
   ·rw[qcj fr htz] at e1;obtain⟨e3,e4⟩:=qcB e1;exact .inl ⟨fun hx=>hx.elim e2 e4,e3,htv t htd'⟩
 ·by_cases htd':t=d
  ·subst htd';rw[qo] at ht;rw[ht] at hv;cases hv
  ·obtain⟨e1,e2⟩:=qep ht htd'
   by_cases htz:t=z
   ·subst htz;rw[qaN] at e1;cases e1
   ·rw[qcj fr htz] at e1;obtain⟨e3,e4⟩:=qcC e1;exact .inl ⟨fun hx=>hx.elim e2 e4,e3,htv t htd'⟩
end
end
section
open Go.RowKit Go.Lib
variable {v:Value} {d y:Nat} {te t:TypeId} {e:PSh} {o:Oper} {x:Operand}
section
theorem qBr (h:v.oneCell'=true):v.cells = #[v]:=by
 cases v <;> first | rfl | (simp[Value.oneCell'] at h)
theorem qBs {q:PSh} (h:valOk q v) (hs:q.isSl=true):v.oneCell'=true:=by
 have hag:q.agg=false:=by cases q <;> first | rfl | cases hs
 unfold valOk at h;rw[hag] at h;simpa using h
theorem RP.pushesT {z:Nat} {l m:List (Den e.sh)} {u:Value} (h:RP P base w0 S0 S (fr.putP d (.pv (.psl te e) l none)) gv (a.put (some d) u) w F) (hd:d < a.tmps.size) (hz:z < a.tmps.size) (hzd:z≠d) (hT:TyOk P E.toEnv)
 (hop:o.op=.call { callee:=.builtin .append,args := #[x,.tmp z],argTypes := #[t,t] }) (hs:(E.ti t).sh=some (.sl e.sh)) (hby:(E.ti (E.ti t).el).bytes≤1024) (hte:te=(E.ti t).el)
 (hzv:fr.putP d (.pv (.psl te e) l none) z=.pv (.psl te e) m none) (hev:a.eval x=u) (hroom:List.length l+List.length m≤room) :
 ∃ v' w' F',(execOp a.eval o).run P w=.ok (.value v') w'∧RP P base w0 S0 S (((fr.putP d (.pv (.psl te e) l none)).kill z).putP d (.pv (.psl te e) (List.append l m) none)) gv (a.put (some d) v') w' F'∧Keeps w S w' S:=by
 have hd':d < (a.put (some d) u).tmps.size:=by rw[qg];exact hd
 have htd:tv gv (a.put (some d) u) d=u:=by rw[qcW gv a d u d hd,if_pos rfl]
 have htz:tv gv (a.put (some d) u) z=a.eval (.tmp z):=by rw[qcW gv a d u z hd,if_neg hzd,qE gv a z hz]
 obtain⟨hv,hpm⟩:=h.pv_at (d:=d) (qo _ _ _);obtain⟨hv2,hpm2⟩:=h.pv_at hzv;rw[htd] at hv hpm;rw[htz] at hv2 hpm2;obtain⟨xs,Fe,k1⟩:=qqU (qQ hv rfl) hpm;obtain⟨ys,Ge,k2⟩:=qqU (qQ hv2 rfl) hpm2;obtain⟨te',ht,hte',hpos,rfl⟩:=(hT t _ hs).desc;obtain⟨i,z0,hi,hsz,hbys,hz0,hrd⟩:=(hT _ _ hte').info;have hzs:z0.cells.size=e.sh.size:=by have:=RdC.length _ _ _ (hrd w S).cells;simpa using this
 have hroom':List.length l+List.length m≤1073741824:=hroom;have h63:List.length l+List.length m≤maxLen:=by unfold maxLen;omega
 have hbytes:(List.length l+List.length m)*(E.ti (E.ti t).el).bytes≤140737488355328:=yL (Nat.mul_le_mul hroom' hby) (by decide);have hrun:∀ {v':Value} {w':World},(Builtin.append_ #[t,t] o.type #[a.eval x,a.eval (.tmp z)]).run P w=.ok v' w'→(execOp a.eval o).run P w=.ok (.value v') w':=fun hr=>by
  unfold execOp;simp only[hop,resolve,invoke,builtin,yh,yu,ye,List.map_toArray,yI,List.map_nil,hr]
 have hesz:e.sh.size=e.size:=PSh.size_eq e;have happ:∃ v' w',(execOp a.eval o).run P w=.ok (.value v') w'∧App w 0 te e.size u (List.length l) (List.length m) xs ys v' w':=by
  have hown1:=k1.own;rw[hte,← hesz] at hown1;rcases k2.own.2 with ⟨e1,e2⟩ | ⟨g,cap,cur,e1,_⟩
  ·have hys:ys=[]:=yF (by rw[k2.own.1,e2];simp);obtain⟨r1,r2⟩:=qvb (P:=P) w 0 t o.type _ i e.sh.size ht hi u (List.length l) xs hown1 0;refine⟨u,w,hrun (by rw[hev,e1];exact r1),?_⟩;rw[e2,hys,hte,← hesz];exact r2
  ·obtain⟨v',w',r1,r2⟩:=qks (P:=P) w 0 t o.type _ i z0 e.sh.size _ ht hi hz0 hsz hbys hzs hpos u (List.length l) xs hown1 ⟨g,0,none⟩ (List.length m) cap ys (by rw[k2.own.1,hesz])
    (fun j q hq=>k2.own.cells (g:=g) (by rw[e1];rfl) j q hq) k2.one h63 hbytes (Nat.zero_le _)
   refine⟨v',w',hrun (by rw[hev,e1];exact r1),?_⟩;rw[hte,← hesz];exact r2
 obtain⟨v',w',r1,r2⟩:=happ;have hslt:=h.r.slt;obtain⟨m1,m2⟩:=qvH hslt k1 k2 (fun b h1 h2=>h.dj d z b (Ne.symm hzd) h1 h2) (fun b hb=>hb.elim h.lt h.lt) r2;obtain⟨hgr,hv'⟩:=r2.facts;have h0:valR v' 0=some v':=by
  rcases r2.own.2 with ⟨rfl,_⟩ | ⟨g,cap,cur,rfl,_⟩ <;> rfl
 obtain⟨hvo,hroot⟩:=qbp (q:=.psl te e) rfl m1 h0;have:=h.regrow2 (v:=.pv (.psl te e) (List.append l m) none) hd' hzd (by rw[qo];rfl) (by rw[hzv];rfl) hgr (fun b hb=>(k1.fq b).2 (.inl hb)) m2 (fun b o hs=>yH (hslt b o hs) hgr.size) rfl
  (fun b hb=>by
   rcases hb with hb | ⟨n,hb | hb⟩
   ·rcases (hv' b hb).1 with h1 | h1
    ·exact .inl ((k1.fq b).2 (.inl h1))
    ·exact .inr (.inr ⟨h1,(hv' b hb).2⟩)
   ·exact .inl ((k1.fq b).2 (.inr ⟨n,hb.2⟩))
   ·exact .inr (.inl ((k2.fq b).2 (.inr ⟨_,hb.2⟩)))) (.tree _ _ (.psl te e) _ none (.val v') (.pv (.psl te e) _ none v' hvo) hroot)
 rw[qqX] at this;exact⟨v',w',_,r1,this,m2⟩
theorem qmc (hT:TyOk P E.toEnv) {e:Sh} (hs:(E.ti t).sh=some (.sl e)) (he:e.size=1) (hv:v.oneCell'=true) :
 (Instr.buildSlice t 1 #[(0,v)]).run P w=.ok (.slice (some ⟨w.heap.size,0,none⟩) 1 1) (w.alloc (.cells #[v] (E.ti t).el)):=by
 obtain⟨te,hd,hte,hpos,rfl⟩:=(hT t _ hs).desc;obtain⟨i,z,hi,hsz,_,hz,hrd⟩:=(hT _ _ hte).info;have hzs:z.cells.size=1:=by have:=RdC.length _ _ _ (hrd w (fun _ _=>False)).cells;rw[he] at this;simpa using this
 have hcv:=qBr hv;unfold Instr.buildSlice;rw[yh,yr hd,ye];simp only;rw[yh,(hT _ _ hte).sizeOf,ye];rw[he,if_neg (by omega),if_neg (by omega)];simp only[yh,yu,ye,zeroValue,typeInfo,program,Sem.run,hi,hz];have hfill:Instr.fill (fun i=>some (i*1,1)) (Array.map (fun x=>z.cells[x % z.cells.size]!) (Array.range (1*1))) [(0,v)]=some #[v]:=by
  simp only[Instr.fill,hcv];rw[if_neg (by simp)];have hr:Array.range (1*1) = #[0]:=rfl;rw[hr];simp
 rw[hfill];simp[newRow]
theorem RP.buildsOne (h:RP P base w0 S0 S fr gv a w F) (hT:TyOk P E.toEnv) (hd:d < a.tmps.size) (hy:y < a.tmps.size) (hyd:y≠d) {m:Den e.sh}
 (hop:o.op=.buildSlice t 1 #[(0,x)]) (hs:(E.ti t).sh=some (.sl e.sh)) (hte:te=(E.ti t).el) (hsl:e.isSl=true) (hfy:fr y=.pv e m none) (hev:a.eval x=a.eval (.tmp y)) :
 ∃ v' w' F',(execOp a.eval o).run P w=.ok (.value v') w'∧RP P base w0 S0 S (((fr.putP d (.pv (.psl te e) [] none)).kill y).putP d (.pv (.psl te e) [m] none)) gv (a.put (some d) v') w' F'∧Keeps w S w' S∧Below w.heap.size w w':=by
 have hesz:e.sh.size=1:=by rw[PSh.size_eq];cases e <;> first | rfl | cases hsl
 have hes:e.size=1:=by rw[← PSh.size_eq];exact hesz
 obtain⟨hv,hpm⟩:=h.pv_at hfy;rw[qE gv a y hy] at hv hpm;have hone:=qBs hv hsl;have hrun:(execOp a.eval o).run P w=.ok (.value (.slice (some ⟨w.heap.size,0,none⟩) 1 1)) (w.alloc (.cells #[a.eval x] (E.ti t).el)):=by
  have h1:=qmc (P:=P) (w:=w) hT hs hesz (v:=a.eval x) (by rw[hev];exact hone);unfold execOp;simp only[hop];refine run_v ?_;simpa using h1
 have h0:=h.nilRoot hd (q:=.psl te e) (y:=[]) rfl;have hd':d < (a.put (some d) (.slice none 0 0)).tmps.size:=by rw[qg];exact hd
 have hbel:=qK w (.cells #[a.eval x] (E.ti t).el);have hheap:(w.alloc (.cells #[a.eval x] (E.ti t).el)).heap[w.heap.size]? = some (.cells #[a.eval x] (E.ti t).el (0,0)):=heap_alloc_new w _;have hkeep:Keeps w S (w.alloc (.cells #[a.eval x] (E.ti t).el)) S:=qdD h.r.slt hbel;have hsize:(w.alloc (.cells #[a.eval x] (E.ti t).el)).heap.size=w.heap.size+1:=by simp
 have hfy':fr.putP d (.pv (.psl te e) [] none) y=.pv e m none:=by
  rw[(qaz fr d (.pv (.psl te e) [] none) hyd).2 (by rw[hfy];rfl),hfy]
 have hFy:∀ b,((y=d∧False)∨(y≠d∧F y b))↔F y b:=fun b=>⟨fun hh=>hh.elim (fun hh=>hh.2.elim) (·.2),fun hh=>.inr ⟨hyd,hh⟩⟩;have hpm':PM (w.alloc (.cells #[a.eval x] (E.ti t).el)) S (.psl te e) (valR (.slice (some ⟨w.heap.size,0,none⟩) 1 1)) [m] (fun b=>(Value.slice (some ⟨w.heap.size,0,none⟩) 1 1).ownBlock=some b∨∃ n,(fun n b=>n=0∧F y b) n b):=by
  refine qor (xs:=[a.eval x]) ⟨by simp[hes],.inr ⟨w.heap.size,1,#[a.eval x],rfl,Nat.zero_le _,by rw[hte];exact hheap,yv _,by unfold maxLen;omega,by simp[hes],by simp[hes]⟩⟩ (fun n z hn=>?_) (fun n b hn hh=>?_) (fun n n' b hne h1 h2=>hne (h1.1.trans h2.1.symm)) (fun n b hh hc=>?_) (fun b hb o hs=>?_)
  ·match n,hn with
   | 0,hn =>
    simp only[y3,ya] at hn;subst hn;have:=PM.step hkeep e _ (fun i=>[a.eval x][0*e.size+i]?) m (F y) hpm (fun i hi=>by
     obtain rfl:i=0:=by omega
     simp only[Nat.zero_mul,yE,y3,hev];exact(qQ hv hsl).symm) (fun b hb=>hbel.block b (h.lt hb)) (fun _ _ _=>Iff.rfl)
    exact this.congrF fun b=>⟨fun hb=>⟨rfl,hb⟩,(·.2)⟩
   | n+1,hn=>simp at hn
  ·simp only[yg,List.length_nil] at hn;omega
  ·simp only[Value.ownBlock,ya] at hc;have:=h.lt hh.2;omega
  ·simp only[Value.ownBlock,ya] at hb;have:=h.r.slt b o hs;omega
 obtain⟨hvo,hroot⟩:=qbp (q:=.psl te e) rfl hpm' rfl;have:=h0.regrow2 (z:=y) (row:=none) (v:=.pv (.psl te e) [m] none) hd' hyd (by rw[qo];rfl) (by rw[hfy'];rfl) (qbu hbel _) (fun _ e=>by cases e) hkeep (fun b o hs=>by have:=h.r.slt b o hs;omega) rfl
  (fun b hb=>by
   rcases hb with hb | ⟨n,_,hb⟩
   ·simp only[Value.ownBlock,ya] at hb;exact .inr (.inr (by omega))
   ·exact .inr (.inl ((hFy b).2 hb))) (.tree _ _ (.psl te e) _ none (.val _) (.pv (.psl te e) _ none _ hvo) hroot)
 rw[qqX] at this;exact⟨_,_,_,hrun,this,hkeep,hbel⟩
theorem RP.buildsNil (h:RP P base w0 S0 S fr gv a w F) (hT:TyOk P E.toEnv) (hd:d < a.tmps.size) {m:Den e.sh}
 (hop:o.op=.buildSlice t 1 #[(0,.const (.slice none 0 0))]) (hs:(E.ti t).sh=some (.sl e.sh)) (hte:te=(E.ti t).el) (hsl:e.isSl=true) (hm:nilP e=some m) :
 ∃ v' w' F',(execOp a.eval o).run P w=.ok (.value v') w'∧RP P base w0 S0 S (fr.putP d (.pv (.psl te e) [m] none)) gv (a.put (some d) v') w' F'∧Keeps w S w' S∧Below w.heap.size w w':=by
 have hesz:e.sh.size=1:=by rw[PSh.size_eq];cases e <;> first | rfl | cases hsl
 have hes:e.size=1:=by rw[← PSh.size_eq];exact hesz
 have hpm:PM w S e (valR (.slice none 0 0)) m (fun _=>False):=by
  cases e with
  | osl te e =>
   simp only[nilP,ya] at hm;subst hm;simp only[PM];exact⟨_,rfl,⟨[],⟨by simp,.inl ⟨rfl,rfl⟩⟩,rfl⟩,fun b=>⟨fun hf=>hf.elim,fun e=>by cases e⟩,fun _ hf=>hf.elim⟩
  | psl te e =>
   simp only[nilP,ya] at hm;subst hm;simp only[PM];exact⟨_,rfl,.inl ⟨rfl,rfl,fun _ hf=>hf⟩⟩
  | _=>cases hsl
 have hrun:(execOp a.eval o).run P w=.ok (.value (.slice (some ⟨w.heap.size,0,none⟩) 1 1)) (w.alloc (.cells #[.slice none 0 0] (E.ti t).el)):=by
  have h1:=qmc (P:=P) (w:=w) hT hs hesz (v:=.slice none 0 0) rfl;unfold execOp;simp only[hop];refine run_v ?_;simp only[List.map_toArray,yI,List.map_nil];exact h1
 have hbel:=qK w (.cells #[.slice none 0 0] (E.ti t).el);have hheap:(w.alloc (.cells #[.slice none 0 0] (E.ti t).el)).heap[w.heap.size]? = some (.cells #[.slice none 0 0] (E.ti t).el (0,0)):=heap_alloc_new w _;have hkeep:Keeps w S (w.alloc (.cells #[.slice none 0 0] (E.ti t).el)) S:=qdD h.r.slt hbel;have hsize:(w.alloc (.cells #[.slice none 0 0] (E.ti t).el)).heap.size=w.heap.size+1:=by simp
 have hpm':PM (w.alloc (.cells #[.slice none 0 0] (E.ti t).el)) S (.psl te e) (valR (.slice (some ⟨w.heap.size,0,none⟩) 1 1)) [m] (fun b=>(Value.slice (some ⟨w.heap.size,0,none⟩) 1 1).ownBlock=some b∨∃ n:Nat,(fun _ _=>False:Nat→Nat→Prop) n b):=by
  refine qor (xs:=[.slice none 0 0]) ⟨by simp[hes],.inr ⟨w.heap.size,1,#[.slice none 0 0],rfl,Nat.zero_le _,by rw[hte];exact hheap,yv _,by unfold maxLen;omega,by simp[hes],by simp[hes]⟩⟩ (fun n z hn=>?_) (fun n b hn hh=>hh) (fun n n' b hne h1 h2=>h1) (fun n b hh hc=>hh) (fun b hb o hs=>?_)
  ·match n,hn with
   | 0,hn =>
    simp only[y3,ya] at hn;subst hn;exact PM.step hkeep e _ (fun i=>[Value.slice none 0 0][0*e.size+i]?) m (fun _=>False) hpm (fun i hi=>by
     obtain rfl:i=0:=by omega
     simp only[Nat.zero_mul,yE,y3];rfl) (fun b hb=>hb.elim) (fun _ _ _=>Iff.rfl)
   | n+1,hn=>simp at hn
  ·simp only[Value.ownBlock,ya] at hb;have:=h.r.slt b o hs;omega
 obtain⟨hvo,hroot⟩:=qbp (q:=.psl te e) rfl hpm' rfl;have:=h.newRoot hd (S':=S) (v:=.pv (.psl te e) [m] none) ⟨hbel,fun _ _ _=>Iff.rfl,fun b o hs=>by have:=h.r.slt b o hs;omega⟩ (fun b hb=>by
  rcases hb with hb | ⟨n,hb⟩
  ·simp only[Value.ownBlock,ya] at hb;omega
  ·exact hb.elim) rfl (.tree _ _ (.psl te e) _ none (.val _) (.pv (.psl te e) _ none _ hvo) hroot)
 exact⟨_,_,_,hrun,this,hkeep,hbel⟩
theorem RP.privatize (h:RP P base w0 S0 S fr gv a w F) (hy:y < a.tmps.size) {e:Sh} {x:List (Den e)} (hfy:fr y=.dat (.sl e) x (some (y,te))) :
 ∃ F',RP P base w0 S0 S ((fr.spend y).putP y (.pv (.osl te e) x none)) gv a w F'∧∀ t b,F t b→F' t b:=by
 have hgy:a.tmps.getD y undef=tv gv a y:=by rw[qE gv a y hy];rfl
 obtain⟨xs,k1,k2,k3,k4⟩:=h.r.own y e x te hfy;rw[hgy] at k1 k3 k4;have hlab:(fr y).lab=some (y,te):=by rw[hfy];rfl
 have hpm:PM w S (.osl te e) (valR (tv gv a y)) x (fun b=>(tv gv a y).ownBlock=some b):=by
  simp only[PM];refine⟨tv gv a y,?_,⟨xs,qaV k1,k2⟩,fun b=>Iff.rfl,fun b hb o=>k3 b hb o⟩;rcases k1.2 with ⟨e1,_⟩ | ⟨g,cap,cur,e1,_⟩ <;> (rw[e1];rfl)
 have h0:valR (tv gv a y) 0=some (tv gv a y):=by
  rcases k1.2 with ⟨e1,_⟩ | ⟨g,cap,cur,e1,_⟩ <;> (rw[e1];rfl)
 obtain⟨hv,hroot⟩:=qbp (q:=.osl te e) rfl hpm h0;have hblt:∀ b,(tv gv a y).ownBlock=some b→b < w.heap.size:=fun b hb=>(k1.lt b hb).2;have hnF:∀ t b,(tv gv a y).ownBlock=some b→¬ F t b:=fun t b hb hF=>k4 b hb (.inr ⟨t,hF⟩);have hR1:R (fun k=>base k∨∃ t,F t k) w S S ((fr.spend y).sweep y) a w:=(h.r.spend y).repriv (fun t=>qaW _ y t);have hR2:=hR1.put_plain hy (val:=a.tmps.getD y undef) (v:=.pv (.osl te e) x none) (.pv _ _ _ _) rfl;rw[qwb a y hy] at hR2;have hR3:=(hR2.rebase (fun k hk=>hk)).widen (X:=fun b=>(tv gv a y).ownBlock=some b) hblt
  (fun t l e' b hl hb hX=>by
   unfold Fr.put at hl;split at hl
   ·cases hl
   ·rename_i ht;have hl1:=(qaI hl).1;have hl2:((fr.spend y) t).lab=some (l,e'):=by
     rcases qaW (fr.spend y) y t with e1 | ⟨_,e1⟩
     ·rwa[e1] at hl1
     ·rw[qar e1] at hl1;cases hl1
    have hcp:=(h.r.spend y).cp t l e' hl2;have hl3:((fr.spend y) l).lab=some (l,e'):=by rw[hcp.1];exact hl2
    obtain⟨hl4,hne⟩:=qbv hl3;rw[← hcp.2] at hb;exact h.r.dist l y e' te b hl4 hlab hne hb (by rw[hgy];exact hX))
  (fun t s z b hl hb hX=>by
   unfold Fr.put at hl;split at hl
   ·cases hl
   ·rename_i ht;have hl1:=qaU hl;have hl2:(fr.spend y) t=.box s z:=by
     rcases qaW (fr.spend y) y t with e1 | ⟨_,e1⟩
     ·rwa[e1] at hl1
     ·rw[hl1] at e1;cases e1
    exact h.r.boxo t s z b y te (qbQ hl2) hb hlab (by rw[hgy];exact hX))
 have hsp:∀ t,(fr t).isPriv=true→(fr.spend y) t=fr t:=fun t ht=>by
  unfold Fr.spend;generalize fr t=av at ht;cases av <;> first | rfl | cases ht
 have hsr:∀ t,t≠y→((fr.spend y).putP y (.pv (.osl te e) x none) t).isRoot=(fr t).isRoot∧((fr t).isRoot=true→(fr.spend y).putP y (.pv (.osl te e) x none) t=fr t):=fun t ht=>by
  obtain⟨e1,e2⟩:=qaz (fr.spend y) y (.pv (.osl te e) x none) ht;have e3:((fr.spend y) t).isRoot=(fr t).isRoot:=by
   unfold Fr.spend;generalize fr t=av;cases av <;> rfl
  refine⟨e1.trans e3,fun hh=>(e2 (e3.trans hh)).trans (hsp t ?_)⟩;unfold AV.isPriv;rw[hh];rfl
 refine⟨fun t b=>(t=y∧(tv gv a y).ownBlock=some b)∨(t≠y∧F t b),?_,fun t b hb=>.inr ⟨qaX h (by rw[hfy];rfl) hb,hb⟩⟩;refine h.upd (fun t=>t=y) (hR3.rebase (fun k hk=>?_)) (Kept.refl _ _) (fun _ _ _=>Iff.rfl) (Keeps.refl _ _) (fun t ht b=>⟨fun hh=>hh.elim (fun hh=>absurd hh.1 ht) (·.2),fun hh=>.inr ⟨ht,hh⟩⟩) (fun _ _ _ _=>rfl) (fun _ _ _ _ _=>Iff.rfl)
  (fun t ht=>⟨(hsr t ht).1,fun hh=>⟨(hsr t ht).2 hh,rfl⟩⟩) (fun t b ht hb=>?_) (fun t t' b ht hne hb hb'=>?_) (fun t ht hr b hb=>?_) (fun t ht hr=>?_) (fun t s r ht=>?_) (fun t s r ht=>?_)
 ·rcases hk with hk | ⟨t,ht | ht⟩
  ·exact .inl (.inl hk)
  ·exact .inr ht.2
  ·exact .inl (.inr ⟨t,ht.2⟩)
 ·rcases hb with hb | hb
  ·exact fun hB=>k4 b hb.2 (.inl hB)
  ·exact h.nb t b hb.2
 ·rcases hb with hb | hb
  ·rcases hb' with hb' | hb'
   ·exact hne (hb.1.trans hb'.1.symm)
   ·exact hnF t' b hb.2 hb'.2
  ·exact absurd ht hb.1
 ·subst ht;rw[qo] at hr;cases hr
 ·subst ht;rw[qo];have e:(fun b=>(t=t∧(tv gv a t).ownBlock=some b)∨(t≠t∧F t b))=fun b=>(tv gv a t).ownBlock=some b:=funext fun b=>propext ⟨fun hh=>hh.elim (·.2) (fun hh=>absurd rfl hh.1),fun hh=>.inl ⟨rfl,hh⟩⟩;rw[e];exact .tree _ _ (.osl te _) _ none (.val _) (.pv _ _ _ _ hv) hroot
 ·by_cases hty:t=y
  ·subst hty;rw[qo] at ht;cases ht
  ·obtain⟨e1,e2⟩:=qeo ht hty;have e3:fr t=.padr s r:=by
    unfold Fr.spend at e1;generalize fr t=av at e1;cases av <;> first | exact e1 | cases e1
   exact .inl ⟨e2,e3,rfl⟩
 ·by_cases hty:t=y
  ·subst hty;rw[qo] at ht;cases ht
  ·obtain⟨e1,e2⟩:=qep ht hty;have e3:fr t=.pval s r:=by
    unfold Fr.spend at e1;generalize fr t=av at e1;cases av <;> first | exact e1 | cases e1
   exact .inl ⟨e2,e3,rfl⟩
end
end
section
open Go.RowKit Go.Lib
variable {s:List UInt8} {y:Nat} {v:AV}
theorem qtE {P:Program} (w:World) (b pos:Nat) (bs:ByteArray) (ty:TypeId) (h:w.heap[b]? = some (.stringIter bs pos)) :
 (Instr.next (.pointer (some ⟨b,0,none⟩)) true ty).run P w =
  if pos < bs.size then .ok (.tuple #[.bool true,.int .i64 pos,.int .i32 (Utf8.decode bs pos).1]) { w with heap:=w.heap.setIfInBounds b (.stringIter bs (pos+(Utf8.decode bs pos).2)) }
  else .ok (.tuple #[.bool false]) w:=by
 by_cases hp:pos < bs.size
 ·simp only[Instr.next,getObj,setObj,yh,Sem.run,h,Result.andThen,hp,if_true];simp[goInt]
 ·simp[Instr.next,getObj,Sem.run,h,hp]
theorem qIB {bs:ByteArray} (h:bs.data.toList=s):bs=⟨s.toArray⟩:=by
 subst h;cases bs;simp
section
theorem qRJ (h1:(fr y).vague=true) (h2:v.vague=true) (t:Nat):fr.set y v t=fr t∨((fr t).vague=true∧(fr.set y v t).vague=true):=by
 unfold Fr.set
 by_cases ht:t=y
 ·subst ht;rw[if_pos rfl];exact .inr ⟨h1,h2⟩
 ·rw[if_neg ht];exact .inl rfl
theorem RP.iterated (h:RP P base w0 S0 S fr gv a w F) {pos:Nat} (hy:fr y=.itr s pos) (pos':Nat):∃ b,tv gv a y=.pointer (some ⟨b,0,none⟩)∧w.heap[b]? = some (.stringIter ⟨s.toArray⟩ pos) ∧
 ∀ w',w'={ w with heap:=w.heap.setIfInBounds b (.stringIter ⟨s.toArray⟩ pos') }→RP P base w0 S0 S (fr.set y (.itr s pos')) gv a w' F∧Keeps w S w' S:=by
 have hr:=h.root y (by rw[hy];rfl);rw[hy] at hr;generalize hv:tv gv a y=v at hr;cases hr with
 | tree _ _ p x hh c h1 h2=>cases h1
 | itr _ _ b bs h1 h2 h3 h4 =>
  obtain rfl:=qIB h2;refine⟨b,rfl,h1,fun w' hw'=>?_⟩;have hb:b < w.heap.size:=(Array.getElem?_eq_some_iff.1 h1).1;have hother:∀ k,k≠b→w'.heap[k]? = w.heap[k]? := fun k hk=>by
   subst hw';exact Array.getElem?_setIfInBounds_ne (Ne.symm hk)
  have hsize:w'.heap.size=w.heap.size:=by subst hw';simp
  have hat:w'.heap[b]? = some (.stringIter ⟨s.toArray⟩ pos'):=by
   subst hw';simp[hb]
  have hg:w.grownBy w' (some b):=⟨by subst hw';rfl,by subst hw';rfl,by subst hw';rfl,by omega,fun k _ hk=>hother k (fun e=>hk (by rw[e]))⟩;have hFb:F y b:=(h3 b).2 rfl;have hkeep:Keeps w S w' S:=fun b1 o hs=>⟨hs,qj (hother b1 (fun e=>by subst e;exact h4 o hs)) o⟩;have hvy:(fr y).vague=true:=by rw[hy];rfl
  refine⟨h.upd (fun t=>t=y) ((h.r.repriv (qRJ hvy rfl)).wrote (.inr ⟨y,hFb⟩) h4 hg) ⟨hg.os,hg.tape,hg.output,hg.size,fun k hk=>hother k (fun e=>by subst e;exact h.nb y _ hFb hk)⟩
   (fun _ _ _=>Iff.rfl) hkeep (fun _ _ _=>Iff.rfl) (fun t k ht hk=>hother k (fun e=>by subst e;exact h.dj t y _ ht hk hFb)) (fun _ _ _ _ _=>Iff.rfl)
   (fun t ht=>?_) (fun t k ht hk=>h.nb t k hk) (fun t t' k ht hne hk=>h.dj t t' k hne hk) (fun t ht hr k hk=>?_) (fun t ht hr=>?_) (fun t s' r ht=>?_) (fun t s' r ht=>?_),hkeep⟩
  ·unfold Fr.set;rw[if_neg ht];exact⟨rfl,fun _=>⟨rfl,rfl⟩⟩
  ·subst ht;unfold Fr.set at hr;rw[if_pos rfl] at hr;cases hr
  ·subst ht;unfold Fr.set;rw[if_pos rfl,hv];exact .itr s pos' b _ hat rfl h3 h4
  ·unfold Fr.set at ht;split at ht
   ·cases ht
   ·rename_i hts;refine .inl ⟨fun e=>?_,ht,rfl⟩;rcases h.adr t s' r ht with ⟨p,x,hh,c,k1,_⟩ | ⟨s1,V,x,k1,_⟩
    ·rw[e,hy] at k1;cases k1
    ·rw[e,hy] at k1;cases k1
  ·unfold Fr.set at ht;split at ht
   ·cases ht
   ·rename_i hts;refine .inl ⟨fun e=>?_,ht,rfl⟩;obtain⟨p,x,hh,c,k1,_⟩:=h.val t s' r ht;rw[e,hy] at k1;cases k1
def EnvOk (P:Program) (E:EnvP) (w:World) (S:qa):Prop:=FnsOk P E.toEnv w S∧GlOk E.gl w S∧(∀ f sp,E.mns f=some sp→qdk P f sp w S) ∧
 (∀ f sp,E.rns f=some sp→qfQ P f sp w S)∧(∀ f it,E.its f=some it→qvW P f it w S)∧∀ t kt vt,E.mts t=some (kt,vt)→MtOk P t kt vt
theorem qIC (hn:a.tmps.size=E.nt) (h:RP P base w0 S0 S fr gv a w F) (hT:TyOk P E.toEnv) (hG:GlOk E.gl w S) {o:Oper} {d:Nat} (hdst:o.dst=some d) (hd:d < a.tmps.size) {fr':Fr} (he:makeQ E fr o d=some (some (true,fr'))) :
 qh P o a w (PPost P base w0 S0 E.nt gv w S F ((fr d).isRoot=false∧(∀ x b,o.op≠.next x b)) fr'):=by
 unfold makeQ at he;split at he
 ·
  rename_i t x hop;simp only[ya] at he;split at he
  ·rename_i ok s o1 h1;split at he
   ·rename_i hs;simp only[ya,yb] at he;obtain⟨rfl,rfl⟩:=he;obtain⟨bs,ev,hbs⟩:=qcS (qt h.r h1).1;have hdd:=(hT t _ hs).desc;have hrun:(execOp a.eval o).run P w=.ok (.value (.pointer (some ⟨w.heap.size,0,none⟩))) (w.iter bs 0):=by
     unfold execOp;rw[hop];simp only;rw[yh,ev,run_range_string w t bs hdd];rfl
    have hB:Below w.heap.size w (w.iter bs 0):=(Below.refl _ _).alloc (yv _) _;have g:Grew w S (w.iter bs 0) S:=⟨hB,fun _ _ _=>Iff.rfl,fun b o hs=>yH (h.r.slt b o hs) hB.size⟩;have hsz:(w.iter bs 0).heap.size=w.heap.size+1:=by show (w.heap.push _).size=_;simp
    refine qh.value hrun ?_;rw[hdst];exact⟨by rw[qg,hn],S,_,h.newRoot hd g (Fd:=fun b=>b=w.heap.size) (fun b hb=>by omega) rfl
     (.itr s 0 w.heap.size bs (World.iter_heap _ _ _) hbs (fun k=>Iff.rfl) (fun o ho=>by have:=h.r.slt _ o ho;omega)),g.keeps h.r.slt,
     fun ht t b hb=>⟨g.below.block b (h.lt hb),t,.inr ⟨qaX h ht.1 hb,hb⟩⟩⟩
   ·cases he
  ·cases he
 ·
  rename_i y hop;simp only[ya] at he;split at he
  ·rename_i s pos hy;split at he
   ·cases he
   ·rename_i hc;simp only[ya,yb,true_and] at he;subst he;have hne:¬ y=d:=fun e=>hc (.inl e);have hly:y < a.tmps.size:=by rw[hn];exact Nat.lt_of_not_le (fun e=>hc (.inr e))
    have hev:a.eval (.tmp y)=tv gv a y:=by
     show a.tmps.getD y undef=a.tmps.getD y (gv y);unfold Array.getD;rw[dif_pos hly,dif_pos hly]
    obtain⟨b,hb,hat,hgo⟩:=h.iterated hy (bif decide (pos < s.length) then pos+(decL s pos).2 else pos);have hsz:(ByteArray.mk s.toArray).size=s.length:=by simp[ByteArray.size]
    have hnx:=qtE (P:=P) w b pos ⟨s.toArray⟩ o.type hat;rw[hsz] at hnx;have hop':∀ val w1,(Instr.next (.pointer (some ⟨b,0,none⟩)) true o.type).run P w=.ok val w1→(execOp a.eval o).run P w=.ok (.value val) w1:=fun val w1 hr=>by
     unfold execOp;rw[hop];simp only;rw[yh,hev,hb,hr];rfl
    have fin:∀ val w1,(Instr.next (.pointer (some ⟨b,0,none⟩)) true o.type).run P w=.ok val w1→w1={ w with heap:=w.heap.setIfInBounds b (.stringIter ⟨s.toArray⟩ (bif decide (pos < s.length) then pos+(decL s pos).2 else pos)) } →
     Rd w1 S val (.tup [.bool (decide (pos < s.length)),.cnd (decide (pos < s.length)) (.int .i64 pos),.cnd (decide (pos < s.length)) (.int .i32 (decL s pos).1)]) →
     qh P o a w (PPost P base w0 S0 E.nt gv w S F ((fr d).isRoot=false∧(∀ x b,o.op≠.next x b)) ((fr.set y (.itr s (bif decide (pos < s.length) then pos+(decL s pos).2 else pos))).putP d
      (.tup [.bool (decide (pos < s.length)),.cnd (decide (pos < s.length)) (.int .i64 pos),.cnd (decide (pos < s.length)) (.int .i32 (decL s pos).1)]))):=fun val w1 hr hw1 hrd=>by
     obtain⟨h1,hk⟩:=hgo w1 hw1;refine qh.value (hop' val w1 hr) ?_;rw[hdst];exact⟨by rw[qg,hn],S,_,h1.putDat hd hrd rfl rfl,hk,fun ht=>absurd hop (ht.2 _ _)⟩
    by_cases hp:pos < s.length
    ·rw[if_pos hp] at hnx;refine fin _ _ hnx (by simp[hp,decL]) (.tup _ _ (fun i c hi=>?_) (fun i c hi=>?_))
     ·have:=(List.getElem?_eq_some_iff.1 hi).1;exact .inl (by simpa using this)
     ·have hd:decide (pos < s.length)=true:=by simpa using hp
      rw[hd] at hi;match i,hi with
      | 0,hi=>simp only[y3,ya] at hi;subst hi;exact qaw _ _ _
      | 1,hi=>simp only[yZ,y3,ya] at hi;subst hi;exact .cnd _ _ _ (fun e=>by cases e) (fun _=>qbP _ _ _ _)
      | 2,hi=>simp only[yZ,y3,ya] at hi;subst hi;exact .cnd _ _ _ (fun e=>by cases e) (fun _=>qbP _ _ _ _)
      | n+3,hi=>simp at hi
    ·rw[if_neg hp] at hnx;have hd:decide (pos < s.length)=false:=by simpa using hp
     refine fin _ _ hnx ?_ (.tup _ _ (fun i c hi=>?_) (fun i c hi=>?_))
     ·simp only[hd,yd];have:w.heap.setIfInBounds b (.stringIter ⟨s.toArray⟩ pos)=w.heap:=by
       obtain⟨hlt,hv⟩:=Array.getElem?_eq_some_iff.1 hat;refine Array.ext (by simp) (fun i h1 h2=>?_);rw[Array.getElem_setIfInBounds];split
       ·rename_i e;subst e;exact hv.symm
       ·rfl
      rw[this]
     ·rw[hd] at hi;match i,hi with
      | 0,hi=>exact .inl (by simp)
      | 1,hi=>simp only[yZ,y3,ya] at hi;exact .inr ⟨_,hi.symm⟩
      | 2,hi=>simp only[yZ,y3,ya] at hi;exact .inr ⟨_,hi.symm⟩
      | n+3,hi=>simp at hi
     ·rw[hd] at hi;match i,hi with
      | 0,hi=>simp only[y3,ya] at hi;subst hi;exact qaw _ _ _
      | 1,hi=>simp only[yZ,y3,ya] at hi;subst hi;exact .cnd _ _ _ (fun _=>rfl) (fun e=>by cases e)
      | 2,hi=>simp only[yZ,y3,ya] at hi;subst hi;exact .cnd _ _ _ (fun _=>rfl) (fun e=>by cases e)
      | n+3,hi=>simp at hi
  ·cases he
 ·cases he
theorem R.openB {B:Nat→Prop} (h:R B w S S fr a w) {b:Nat} {s:Sh} {x:Den s} (hb:fr b=.box s x):∃ S',R B w S' S' (fr.openB b) a w∧Keeps w S w S'∧(∀ k o,B k→(S' k o↔S k o)):=by
 obtain⟨g,⟨hgB,hns,c,T,hc,hr⟩,hp⟩:=h.box b s x hb;have hg:g < w.heap.size:=(Array.getElem?_eq_some_iff.1 hc).1
 let S':qa:=fun k o=>S k o∨(k=g∧o < c.size)
 have hk:Keeps w S w S':=fun k o hs=>⟨.inl hs,rfl⟩;have hne:∀ k o,k≠g→(S' k o↔S k o):=fun k o hkg=>⟨fun hh=>hh.elim id (fun hh=>absurd hh.1 hkg),.inl⟩;have hat:∀ t,fr.openB b t=if t=b then .adr s x else (fr t).unref b:=fun t=>by
  simp only[Fr.openB,hb]
 have hoth:∀ t,t≠b→(fr.openB b t=fr t∧∀ p,fr t≠.badr b p)∨(fr.openB b t=.bad∧∃ p,fr t=.badr b p):=fun t ht=>by
  rw[hat,if_neg ht];generalize fr t=v;cases v with
  | badr b' p =>
   simp only[AV.unref];split
   ·rename_i e;subst e;exact .inr ⟨rfl,p,rfl⟩
   ·rename_i e;exact .inl ⟨rfl,fun p' hh=>by cases hh;exact e rfl⟩
  | _=>exact .inl ⟨rfl,fun p hh=>by cases hh⟩
 have hself:fr.openB b b=.adr s x:=by rw[hat,if_pos rfl]
 have hsame:∀ t,fr.openB b t=.adr s x∧t=b∨(fr.openB b t).lab=none∧fr.openB b t=.bad∨t≠b∧fr.openB b t=fr t:=fun t=>by
  by_cases ht:t=b
  ·subst ht;exact .inl ⟨hself,rfl⟩
  ·rcases hoth t ht with ⟨e,_⟩ | ⟨e,_⟩
   ·exact .inr (.inr ⟨ht,e⟩)
   ·exact .inr (.inl ⟨by rw[e];rfl,e⟩)
 have hlab:∀ t l e,(fr.openB b t).lab=some (l,e)→t≠b∧fr.openB b t=fr t:=fun t l e he=>by
  rcases hsame t with ⟨e1,_⟩ | ⟨e1,_⟩ | ⟨e1,e2⟩
  ·rw[e1] at he;cases he
  ·rw[e1] at he;cases he
  ·exact⟨e1,e2⟩
 have hlab':∀ t l e,(fr t).lab=some (l,e)→fr.openB b t=fr t:=fun t l e he=>by
  have ht:t≠b:=by rintro rfl;rw[hb] at he;cases he
  rcases hoth t ht with ⟨e1,_⟩ | ⟨_,p,e1⟩
  ·exact e1
  ·rw[e1] at he;cases he
 have hown:∀ t l e k,(fr t).lab=some (l,e)→(a.tmps.getD t undef).ownBlock=some k→k≠g:=fun t l e k hl hk2 e2=>by
  subst e2;obtain⟨k1,k2⟩:=h.cp t l e hl;exact h.boxo b s x k l e hb hp (by rw[k1];exact hl) (by rw[k2];exact hk2)
 refine⟨S',?_,hk,fun k o hB=>hne k o (fun e=>by subst e;exact hgB hB)⟩;exact {
  below:=Kept.refl _ _
  base_le:=h.base_le
  old:=fun _ _ _=>Iff.rfl
  kp:=Keeps.refl _ _
  slt:=fun k o hh=>hh.elim (h.slt k o) (fun hh=>by rw[hh.1];exact hg)
  dfr:=h.dfr
  rd:=fun t=>by
   by_cases ht:t=b
   ·subst ht;rw[hself,hp];refine .adr s x _ c.toList (RdC.keeps hk _ _ _ hr) ⟨rfl,fun _=>⟨rfl,fun i v hi=>⟨.inr ⟨rfl,?_⟩,?_⟩⟩⟩
    ·have:=(List.getElem?_eq_some_iff.1 hi).1;show 0+i < c.size;simpa using this
    ·simp only[World.cell?,hc,Option.isSome_none,yq,if_false];simpa using hi
   ·rcases hoth t ht with ⟨e,_⟩ | ⟨e,_⟩
    ·rw[e];exact(h.rd t).keeps hk
    ·rw[e];exact .bad _
  cp:=fun t l e he=>by
   obtain⟨_,e1⟩:=hlab t l e he;rw[e1] at he;obtain⟨k1,k2⟩:=h.cp t l e he;exact⟨by rw[e1,hlab' l l e (by rw[k1];exact he),k1],k2⟩
  sls:=fun t u y l he=>by
   obtain⟨_,e1⟩:=hlab t l.1 l.2 (by rw[he];rfl);exact h.sls t u y l (by rw[← e1];exact he)
  own:=fun t e y te he=>by
   obtain⟨_,e1⟩:=hlab t t te (by rw[he];rfl);rw[e1] at he;obtain⟨xs,m1,m2,m3,m4⟩:=h.own t e y te he;exact⟨xs,m1,m2.mono (RdC.keeps hk e),fun k hk2 o=>(hne k o (hown t t te k (by rw[he];rfl) hk2)).trans (m3 k hk2 o),m4⟩
  dist:=fun l l' e e' k h1 h2 hne2 hk2=>by
   obtain⟨_,e1⟩:=hlab l l e h1;obtain⟨_,e2⟩:=hlab l' l' e' h2;rw[e1] at h1;rw[e2] at h2;exact h.dist l l' e e' k h1 h2 hne2 hk2
  box:=fun t u y he=>by
   rcases hsame t with ⟨e1,_⟩ | ⟨_,e1⟩ | ⟨ht,e1⟩
   ·rw[e1] at he;cases he
   ·rw[e1] at he;cases he
   ·rw[e1] at he;obtain⟨k,⟨m1,m2,c2,T2,m3,m4⟩,m5⟩:=h.box t u y he;have hkg:k≠g:=fun e=>by subst e;exact h.boxd t b u s y x k he hb ht m5 hp
    exact⟨k,⟨m1,fun o ho=>m2 o ((hne k o hkg).1 ho),c2,T2,m3,RdC.keeps hk _ _ _ m4⟩,m5⟩
  boxd:=fun t t' u u' y y' k h1 h2 hne2 hk2=>by
   have f1:fr.openB b t=fr t:=by
    rcases hsame t with ⟨e1,_⟩ | ⟨_,e1⟩ | ⟨_,e1⟩
    ·rw[e1] at h1;cases h1
    ·rw[e1] at h1;cases h1
    ·exact e1
   have f2:fr.openB b t'=fr t':=by
    rcases hsame t' with ⟨e1,_⟩ | ⟨_,e1⟩ | ⟨_,e1⟩
    ·rw[e1] at h2;cases h2
    ·rw[e1] at h2;cases h2
    ·exact e1
   rw[f1] at h1;rw[f2] at h2;exact h.boxd t t' u u' y y' k h1 h2 hne2 hk2
  boxo:=fun t u y k l e h1 hk2 h2=>by
   have f1:fr.openB b t=fr t:=by
    rcases hsame t with ⟨e1,_⟩ | ⟨_,e1⟩ | ⟨_,e1⟩
    ·rw[e1] at h1;cases h1
    ·rw[e1] at h1;cases h1
    ·exact e1
   rw[f1] at h1;obtain⟨_,e2⟩:=hlab l l e h2;rw[e2] at h2;exact h.boxo t u y k l e h1 hk2 h2
  badr:=fun t s1 p he=>by
   rcases hsame t with ⟨e1,_⟩ | ⟨_,e1⟩ | ⟨ht,e1⟩
   ·rw[e1] at he;cases he
   ·rw[e1] at he;cases he
   ·rcases hoth t ht with ⟨e2,e3⟩ | ⟨e2,_⟩
    ·rw[e2] at he;obtain⟨u,y,z,k,m1,m2⟩:=h.badr t s1 p he;have hs1:s1≠b:=fun e=>by subst e;exact e3 p he
     rcases hoth s1 hs1 with ⟨e4,_⟩ | ⟨_,p',e4⟩
     ·exact⟨u,y,z,k,by rw[e4];exact m1,m2⟩
     ·rw[e4] at m1;cases m1
    ·rw[e2] at he;cases he
  clm:=fun t f ss he=>by
   rcases hsame t with ⟨e1,_⟩ | ⟨_,e1⟩ | ⟨ht,e1⟩
   ·rw[e1] at he;cases he
   ·rw[e1] at he;cases he
   ·rcases hoth t ht with ⟨e2,e3⟩ | ⟨e2,_⟩
    ·rw[e2] at he;exact h.clm t f ss he
    ·rw[e2] at he;cases he }
theorem qib (fr:Fr) (b t:Nat):((fr t).isPriv=true→fr.openB b t=fr t)∧(fr.openB b t).isPriv=(fr t).isPriv:=by
 by_cases hb:∃ s x,fr b=.box s x
 ·obtain⟨s,x,hb⟩:=hb;have hat:fr.openB b t=if t=b then .adr s x else (fr t).unref b:=by simp only[Fr.openB,hb]
  rw[hat]
  by_cases ht:t=b
  ·subst ht;rw[if_pos rfl,hb];exact⟨fun e=>(by cases e),rfl⟩
  ·rw[if_neg ht];generalize fr t=v;cases v with
   | badr b' p =>
    simp only[AV.unref];split
    ·exact⟨fun e=>(by cases e),rfl⟩
    ·exact⟨fun _=>rfl,rfl⟩
   | _=>exact⟨fun _=>rfl,rfl⟩
 ·have:fr.openB b=fr:=by
   unfold Fr.openB;split
   ·rename_i s x he;exact absurd ⟨s,x,he⟩ hb
   ·rfl
  rw[this];exact⟨fun _=>rfl,rfl⟩
theorem qic (h:v.isRoot=true):v.isPriv=true:=by unfold AV.isPriv;rw[h];rfl
theorem qvz (fr:Fr) (b t:Nat):(fr.openB b t).isRoot=(fr t).isRoot:=by
 obtain⟨e1,e2⟩:=qib fr b t;cases hp:(fr t).isPriv with
 | true=>rw[e1 hp]
 | false =>
  rw[hp] at e2;have f:∀ v:AV,v.isPriv=false→v.isRoot=false:=fun v hv=>by
   cases hr:v.isRoot with
   | false=>rfl
   | true=>rw[qic hr] at hv;cases hv
  rw[f _ hp,f _ e2]
theorem qgM (fr:Fr) (b t:Nat) (h:fr.openB b t=v) (hp:v.isPriv=true):fr t=v:=by
 obtain⟨e1,e2⟩:=qib fr b t;rw[h,hp] at e2;rw[← e1 e2.symm,h]
theorem RP.openB (h:RP P base w0 S0 S fr gv a w F) (b:Nat):∃ S',RP P base w0 S0 S' (fr.openB b) gv a w F∧Keeps w S w S':=by
 by_cases hb:∃ s x,fr b=.box s x
 ·obtain⟨s,x,hb⟩:=hb;obtain⟨S',h1,h2,h3⟩:=h.r.openB hb;refine⟨S',h.upd (fun _=>False) h1 (Kept.refl _ _) (fun k o hB=>h3 k o (.inl hB)) h2 (fun _ _ _=>Iff.rfl) (fun _ _ _ _=>rfl) (fun t k o _ hF=>h3 k o (.inr ⟨t,hF⟩))
   (fun t _=>⟨qvz fr b t,fun hr=>⟨(qib fr b t).1 (qic hr),rfl⟩⟩) (fun _ _ hx=>hx.elim) (fun _ _ _ hx=>hx.elim) (fun _ hx=>hx.elim) (fun _ hx=>hx.elim)
   (fun t s' r ht=>.inl ⟨id,qgM fr b t ht rfl,rfl⟩) (fun t s' r ht=>.inl ⟨id,qgM fr b t ht rfl,rfl⟩),h2⟩
 ·have:fr.openB b=fr:=by
   unfold Fr.openB;split
   ·rename_i s x he;exact absurd ⟨s,x,he⟩ hb
   ·rfl
  rw[this];exact⟨S,h,Keeps.refl _ _⟩
theorem RP.openL:∀ (l:List Nat) (fr:Fr) (S:qa),RP P base w0 S0 S fr gv a w F→∃ S',RP P base w0 S0 S' (openL l fr) gv a w F∧Keeps w S w S'
 | [],fr,S,h=>⟨S,h,Keeps.refl _ _⟩
 | b :: l,fr,S,h=>by
  obtain⟨S1,h1,k1⟩:=h.openB b;obtain⟨S2,h2,k2⟩:=RP.openL l _ S1 h1;exact⟨S2,h2,k1.trans k2⟩
end
end
section
open Go.RowKit Go.Lib
variable {X:Nat→Prop} {w':World} {S':qa} {av g ρ:AV} {v u:Value} {b s d:Nat} {t T:TypeId} {r:List PStep} {e s0 s1:Sh} {vs vals:List Value} {p:PSh} {cur:Array Value} {o:Oper} {fr':Fr} {f:FuncId} {x:Operand} {sp:List AV→Bool×AV} {avs gs:List AV} {dd:Option Nat}
section
theorem R.turnedSet {B:Nat→Prop} (h:R B w0 S0 S fr a w) (ht:TurnedBut X w S w' S') (hB:∀ k,B k→¬ X k)
 (hl:∀ t l e b,(fr t).lab=some (l,e)→(a.tmps.getD t undef).ownBlock=some b→¬ X b) (hb:∀ t s (x:Den s) b,fr t=.box s x→a.tmps.getD t undef=.pointer (some ⟨b,0,none⟩)→¬ X b):R B w S S' fr a w' where
 below:=⟨ht.kept.os,ht.kept.tape,ht.kept.output,ht.kept.size,fun k hk=>ht.kept.block k ⟨h.base_le k hk,hB k hk⟩⟩
 base_le:=fun k hk=>yH (h.base_le k hk) ht.kept.size
 old:=fun b o hk=>ht.old b o (h.base_le b hk) (hB b hk)
 kp:=ht.keeps
 slt:=ht.lt
 dfr:=h.dfr
 rd:=fun t=>(h.rd t).keeps ht.keeps
 cp:=h.cp
 sls:=h.sls
 own:=fun t e x te he=>by
  obtain⟨xs,h1,h2,h3,h4⟩:=h.own t e x te he;have hx:∀ b,(a.tmps.getD t undef).ownBlock=some b→b < w.heap.size∧¬ X b:=fun b hb=>⟨(h1.lt b hb).2,hl t t te b (by rw[he];rfl) hb⟩;exact⟨xs,qlV h1 (fun b hb=>ht.kept.block b (hx b hb)),h2.mono (RdC.keeps ht.keeps e),fun b hb o=>(ht.old b o (hx b hb).1 (hx b hb).2).trans (h3 b hb o),h4⟩
 dist:=h.dist
 box:=fun t s x he=>by
  obtain⟨b,⟨k1,k2,c,T,k3,k4⟩,k5⟩:=h.box t s x he;have hx:b < w.heap.size∧¬ X b:=⟨(Array.getElem?_eq_some_iff.1 k3).1,hb t s x b he k5⟩;exact⟨b,⟨k1,fun o ho=>k2 o ((ht.old b o hx.1 hx.2).1 ho),c,T,(ht.kept.block b hx).trans k3,RdC.keeps ht.keeps _ _ _ k4⟩,k5⟩
 boxd:=h.boxd
 boxo:=h.boxo
 badr:=h.badr
 clm:=h.clm
theorem RootAny.lt (h:RootAny P w S X av v) (hs:qz av av=true) (hb:X b):b < w.heap.size:=by
 cases h with
 | tree _ _ p x hh c h1 h2 =>
  cases hh with
  | none =>
   by_cases hc:c.block=some b
   ·obtain⟨_,_,cur,T,e,_⟩:=h2.blk b hc;exact(Array.getElem?_eq_some_iff.1 e).1
   ·exact PM.lt p _ x _ h2.core b ⟨hb,hc⟩
  | some r=>cases h1 <;> cases hs
 | itr s pos b' bs h1 h2 h3 h4=>cases hs
 | abs s V x _ hV hI=>exact hV.lt _ _ _ _ _ _ hI hb
theorem qS (h:qz av g=true):qz g g=true∧g.isRoot=true∧av.isRoot=true:=by
 unfold qz at h;split at h
 ·exact⟨by simp[qz],rfl,rfl⟩
 ·exact⟨rfl,rfl,rfl⟩
 ·cases h
theorem qci:fr.turnR s g s=g:=by simp[Fr.turnR,Fr.set]
theorem qkF {t:Nat} (ht:t≠s):fr.turnR s g t=fr.sweepK s t:=by simp[Fr.turnR,Fr.set,ht]
theorem RefAt.turned {Y:Nat→Prop} (h:RefAt w S av v r u X) (hk:Keeps w S w' S') (ht:qaS r=true) (hs:qz av g=true) (hg:RootAny P w' S' Y g v):RefAt w' S' g v r u Y:=by
 rcases h with ⟨p,x,hh,c,k1,k2⟩ | ⟨s,V,x,rfl,k1,k2⟩
 ·cases k1 with
  | pv p x hh _ hv=>cases hs
  | pbox p x hh b =>
   cases hh with
   | some r=>cases hs
   | none =>
    cases g with
    | pbox q z hz =>
     cases hz with
     | some r=>cases hs
     | none =>
      simp only[qz,ym] at hs;subst hs;cases hg with
      | tree _ _ p' x' hh' c' m1 m2 =>
       cases m1 with
       | pbox _ _ _ _ =>
        refine .inl ⟨p,z,none,.blk b 0,.pbox _ _ _ _,k2.top hk ht (fun g0 e _=>?_) (fun g0 o0 e=>by cases e;rfl)⟩;exact(m2.blk g0 (by rw[e];rfl)).1
    | _=>cases hs
 ·cases g with
  | abs s' V' x'=>exact .inr ⟨s',V',x',rfl,k1,cloV.keeps hk _ _ _ k2⟩
  | _=>cases hs
theorem RP.calledM (h:RP P base w0 S0 S fr gv a w F) {Fs:Nat→Prop} (ht:TurnedBut (F s) w S w' S') (hs:qz (fr s) g=true) (hg:RootAny P w' S' Fs g (tv gv a s))
 (hsub:∀ b,Fs b→F s b∨w.heap.size≤b):RP P base w0 S0 S' (fr.turnR s g) gv a w' (fun t b=>(t=s∧Fs b)∨(t≠s∧F t b)):=by
 obtain⟨hgg,hgr,hsr⟩:=qS hs;have hlt:∀ b,Fs b→b < w'.heap.size:=fun b hb=>hg.lt hgg hb;have hvague:=qu hsr;have hor:∀ t,fr.turnR s g t=fr t∨((fr t).vague=true∧(fr.turnR s g t).vague=true):=fun t=>by
  by_cases e:t=s
  ·subst e;rw[qci];exact .inr ⟨hvague,qu hgr⟩
  ·rw[qkF e];exact qqS fr s t
 have hR0:=h.r.repriv hor;have hlab:∀ t l e b,(fr.turnR s g t).lab=some (l,e)→(a.tmps.getD t undef).ownBlock=some b→¬ F s b:=fun t l e b hl hb hF=>by
  have h1:=hR0.cp t l e hl;have h2:(fr.turnR s g l).lab=some (l,e):=by rw[h1.1];exact hl
  rw[← h1.2] at hb;exact hR0.lab_base h2 hb (.inr ⟨s,hF⟩)
 have hbox:∀ t u (x:Den u) b,fr.turnR s g t=.box u x→a.tmps.getD t undef=.pointer (some ⟨b,0,none⟩)→¬ F s b:=fun t u x b hl hb hF=>by
  obtain⟨b',k1,k2⟩:=hR0.box t u x hl;rw[hb] at k2;simp only[Value.pointer.injEq,ya,Addr.mk.injEq,and_true] at k2;subst k2;exact k1.1 (.inr ⟨s,hF⟩)
 have hR1:=(hR0.rebase (b2:=fun k=>base k∨∃ t,t≠s∧F t k) (fun k hk=>hk.imp id (fun ⟨t,ht⟩=>⟨t,ht.2⟩))).turnedSet ht (fun k hk=>hk.elim (fun hB hF=>h.nb s k hF hB) (fun ⟨t,h1,h2⟩ hF=>h.dj t s k h1 h2 hF)) hlab hbox;have hR2:=(hR1.rebase (fun k hk=>hk)).widen (X:=Fs) hlt
  (fun t l e b hl hb hX=>by
   rcases hsub b hX with hF | hF
   ·exact hlab t l e b hl hb hF
   ·have h1:=hR0.cp t l e hl;have h2:(fr.turnR s g l).lab=some (l,e):=by rw[h1.1];exact hl
    rw[← h1.2] at hb;have:=hR0.own_lt h2 hb;omega)
  (fun t u x b hl hb hX=>by
   rcases hsub b hX with hF | hF
   ·exact hbox t u x b hl hb hF
   ·have:=hR0.box_lt hl hb;omega)
 have hrest:∀ t b,t≠s→F t b→¬ F s b:=fun t b h1 h2 hF=>h.dj t s b h1 h2 hF;refine h.upd (fun t=>t=s) (hR2.rebase (fun k hk=>?_)) ⟨ht.kept.os,ht.kept.tape,ht.kept.output,ht.kept.size,fun k hk=>ht.kept.block k ⟨h.base_le hk,fun hF=>h.nb s k hF hk⟩⟩ (fun b o hB=>ht.old b o (h.base_le hB) (fun hF=>h.nb s b hF hB)) ht.keeps
  (fun t hts b=>⟨fun hh=>hh.elim (fun hh=>absurd hh.1 hts) (·.2),fun hh=>.inr ⟨hts,hh⟩⟩) (fun t b hts hb=>ht.kept.block b ⟨h.lt hb,hrest t b hts hb⟩) (fun t b o hts hb=>ht.old b o (h.lt hb) (hrest t b hts hb))
  (fun t hts=>?_) (fun t b hts hb=>?_) (fun t t' b hts hne hb hb'=>?_) (fun t hts hr' b hb=>?_) (fun t hts hr'=>?_) (fun t s' r hh=>?_) (fun t s' r hh=>?_)
 ·rcases hk with hk | ⟨t,⟨rfl,hk⟩ | hk⟩
  ·exact .inl (.inl hk)
  ·exact .inr hk
  ·exact .inl (.inr ⟨t,hk⟩)
 ·rw[qkF hts];obtain⟨e1,e2⟩:=qdB fr s t;exact⟨e1,fun hr=>⟨e2 hr,rfl⟩⟩
 ·subst hts;rcases hb with hb | hb
  ·rcases hsub b hb.2 with hF | hF
   ·exact h.nb t b hF
   ·intro hB;have:=h.base_le hB;omega
  ·exact absurd rfl hb.1
 ·subst hts;rcases hb with hb | hb
  ·rcases hb' with hb' | hb'
   ·exact hne hb'.1.symm
   ·rcases hsub b hb.2 with hF | hF
    ·exact h.dj t t' b hne hF hb'.2
    ·have:=h.lt hb'.2;omega
  ·exact absurd rfl hb.1
 ·subst hts;rw[qci,hgr] at hr';cases hr'
 ·subst hts;rw[qci];have e:(fun b=>(t=t∧Fs b)∨(t≠t∧F t b))=Fs:=funext fun b=>propext ⟨fun hh=>hh.elim (·.2) (fun hh=>absurd rfl hh.1),fun hh=>.inl ⟨rfl,hh⟩⟩;rw[e];exact hg
 ·by_cases hts:t=s
  ·subst hts;rw[qci] at hh;rw[hh] at hgr;cases hgr
  ·rw[qkF hts] at hh;obtain⟨e1,e2⟩:=qeN hh
   by_cases hss:s'=s
   ·subst hss;right;rw[qci];have e:(fun b=>(s'=s'∧Fs b)∨(s'≠s'∧F s' b))=Fs:=funext fun b=>propext ⟨fun hh=>hh.elim (·.2) (fun hh=>absurd rfl hh.1),fun hh=>.inl ⟨rfl,hh⟩⟩;rw[e];exact(h.adr t s' r e1).turned ht.keeps (e2.resolve_left (fun e=>e rfl)) hs hg
   ·exact .inl ⟨hss,e1,rfl⟩
 ·by_cases hts:t=s
  ·subst hts;rw[qci] at hh;rw[hh] at hgr;cases hgr
  ·rw[qkF hts] at hh;obtain⟨e1,e2⟩:=qeO hh;exact .inl ⟨e2,e1,rfl⟩
theorem RP.oslRoot {te:TypeId} {l:List (Den e)} {xs:List Value} {val:Value} (h1:qY w 0 te e.size val l.length xs) (h2:qd (RdC w S e) l xs) (h3:∀ b,val.ownBlock=some b→∀ o,(S b o↔o < l.length*e.size)) :
 RootAny P w S (fun b=>val.ownBlock=some b) (.pv (.osl te e) l none) val:=by
 have hv0:valR val 0=some val:=by
  rcases h1.2 with ⟨rfl,_⟩ | ⟨g,cap,cur,_,rfl,_⟩ <;> rfl
 have hpm:PM w S (.osl te e) (valR val) l (fun b=>val.ownBlock=some b):=by
  simp only[PM];exact⟨val,hv0,⟨xs,h1,h2⟩,fun b=>Iff.rfl,h3⟩
 obtain⟨k1,k2⟩:=qbp (q:=.osl te e) rfl hpm hv0;exact .tree _ _ (.osl te e) l none (.val val) (.pv _ _ _ _ k1) k2
theorem qvA {r:List Value} (h:zeroC (.sl e) vs=some r):vs=.slice none 0 0 :: r:=by
 simp only[zeroC] at h;split at h
 ·cases h;rfl
 ·cases h
theorem qfH {s:Sh} {z:Value} (h:zeroV s z=true) (ho:s.agg=false→z.oneCell'=true):∃ r,zeroC s z.cells.toList=some r:=by
 cases hs:s.agg with
 | true =>
  cases z with
  | agg cs =>
   unfold zeroV at h;rw[hs] at h;simp only at h;split at h
   ·exact⟨_,by assumption⟩
   ·cases h
  | _=>unfold zeroV at h;rw[hs] at h;cases h
 | false =>
  have h1:=ho hs;have hc:z.cells = #[z]:=by cases z <;> first | rfl | (simp[Value.oneCell'] at h1)
  unfold zeroV at h;rw[hs] at h;simp only at h;rw[hc];split at h
  ·exact⟨_,by assumption⟩
  ·cases h
theorem qfI {a b:Sh} {r:List Value} (h:zeroC (.pair a b) vs=some r):∃ r1,zeroC a vs=some r1∧zeroC b r1=some r:=by
 simp only[zeroC] at h;split at h
 ·rename_i r1 h1;exact⟨r1,h1,h⟩
 ·cases h
theorem PM.zero {w:World} {S:qa}:∀ (p:PSh) (vs r:List Value) (rd:Rdr),zeroC p.sh vs=some r→(∀ i v,i < p.size→vs[i]? = some v→rd i=some v)→PM w S p rd (dflt p.sh) (fun _=>False)
 | .leaf s,vs,r,rd,h,hr=>by
  obtain⟨us,e,k⟩:=qcd s vs r h;simp only[PM];refine⟨fun _ h=>h,us,k w S,fun i v hv=>hr i v ?_ ?_⟩
  ·have:=RdC.length _ _ _ (k w S);have:=(List.getElem?_eq_some_iff.1 hv).1;simp only[PSh.size];omega
  ·rw[e,yM (List.getElem?_eq_some_iff.1 hv).1];exact hv
 | .parr n e,vs,r,rd,h,hr=>by
  obtain⟨us,e1,k⟩:=qcd (.arr n e) vs r h;simp only[PM];refine⟨fun _ h=>h,us,k w S,fun i v hv=>hr i v ?_ ?_⟩
  ·have:=RdC.length _ _ _ (k w S);have:=(List.getElem?_eq_some_iff.1 hv).1;simp only[PSh.size];simp only[Sh.size] at *
   omega
  ·rw[e1,yM (List.getElem?_eq_some_iff.1 hv).1];exact hv
 | .osl te e,vs,r,rd,h,hr=>by
  have hv:=qvA h;simp only[PM];refine⟨.slice none 0 0,hr 0 _ (by simp[PSh.size]) (by rw[hv];rfl),⟨[],qaV (World.ownsRow_nil w _ _ _),rfl⟩,fun b=>⟨fun hf=>hf.elim,fun hb=>by cases hb⟩,fun b hf=>hf.elim⟩
 | .psl te e,vs,r,rd,h,hr=>by
  have hv:=qvA h;simp only[PM];exact⟨.slice none 0 0,hr 0 _ (by simp[PSh.size]) (by rw[hv];rfl),.inl ⟨rfl,rfl,fun b hf=>hf⟩⟩
 | .ppair a b,vs,r,rd,h,hr=>by
  obtain⟨r1,h1,h2⟩:=qfI h;obtain⟨us,e1,k1⟩:=qcd a.sh vs r1 h1;have hl:=RdC.length _ _ _ (k1 w S);rw[PSh.size_eq] at hl;simp only[PM];refine⟨fun _=>False,fun _=>False,PM.zero a vs r1 rd h1 (fun i v hi hv=>hr i v (by simp only[PSh.size];omega) hv),PM.zero b r1 r _ h2 (fun i v hi hv=>hr _ v (by simp only[PSh.size];omega) ?_),fun _ h=>h.elim,fun _=>by simp⟩;rw[e1,yN (by omega),hl,show a.size+i - a.size=i by omega];exact hv
theorem qGK {x:Den p.sh} (hb:w.heap[b]? = some (.cells cur T (0,0))) (hsz:cur.size=p.size) (hns:∀ o,¬ S b o) (hpm:PM w S p (blkR w b 0) x (fun _=>False)) :
 RootAny P w S (fun k=>k=b) (.pbox p x none) (.pointer (some ⟨b,0,none⟩)):=by
 refine .tree _ _ p x none (.blk b 0) (.pbox _ _ _ _) ⟨fun g hg=>?_,?_,fun v hv=>by cases hv⟩
 ·simp only[Spot.block,ya] at hg;subst hg;exact⟨rfl,hns,cur,T,hb,hsz⟩
 ·exact PM.congrF hpm fun k=>⟨fun hf=>hf.elim,fun hk=>hk.2 (by rw[hk.1];rfl)⟩
theorem qID {x:Den p.sh} (hb:w.heap[b]? = some (.cells cur T (0,0))) (hsz:cur.size=p.size) (hns:∀ o,¬ S b o) (hpm:PM w S p (blkR w b 0) x (fun _=>False)) (hsl:p.isSl=true) :
 RootAny P w S (fun k=>k=b) (.pbox p x (some [])) (.pointer (some ⟨b,0,none⟩)):=by
 have hR:Root w S p x none (.blk b 0) (fun k=>k=b):=⟨fun g hg=>by
  simp only[Spot.block,ya] at hg;subst hg;exact⟨rfl,hns,cur,T,hb,hsz⟩,PM.congrF hpm fun k=>⟨fun hf=>hf.elim,fun hk=>hk.2 (by rw[hk.1];rfl)⟩,fun v hv=>by cases hv⟩
 have hg0:getPP p x []=some ⟨p,x⟩:=by cases p <;> rfl
 have hi0:inPP p x []:=by cases p <;> trivial
 obtain⟨c',Fq,hl,k⟩:=PM.focus p (.blk b 0) x (fun k=>k=b∧(Spot.blk b 0).block≠some k) [] p x hR.core hg0 hi0 (fun g hg hh=>hh.2 hg) (fun v e=>by cases e);obtain rfl:=k.top rfl;have hh:=hR.holed hl k (by cases p <;> first | (intro e;cases e) | cases hsl);have hF:(fun k=>k=b∧¬ Fq k)=fun k=>k=b:=funext fun k'=>propext ⟨(·.1),fun e=>⟨e,fun hq=>(k.sub k' hq).2 (by rw[e];rfl)⟩⟩;rw[hF] at hh;exact .tree _ _ p x (some []) (.blk b 0) (.pbox _ _ _ _) hh
theorem qtF (hT:TyOk P E.toEnv) {q:Sh} (hs:(E.ti t).sh=some (.pair s0 (.pair s1 q))) {v0 v1:Value} (h0:v0.cells.size=s0.size) (h1:v1.cells.size=s1.size) :
 ∃ cs r2 r,(Instr.build t #[(0,v0),(1,v1)]).run P w=.ok (.agg cs) w∧zeroC q r2=some r∧cs.toList=v0.cells.toList++(v1.cells.toList++r2)∧r2.length=q.size:=by
 obtain⟨i,z,hi,hsz,_,hz,hrd⟩:=(hT t _ hs).info;obtain⟨fs,hfs,hf1,hf2⟩:=(hT t _ hs).desc;have hall:∀ f∈fs.toList,∃ u,(E.ti f.type).sh=some u:=fun f hf=>by
  obtain⟨i,hi,rfl⟩:=List.getElem_of_mem hf;have hi':fs[i]? = some fs.toList[i]:=by
   simp only[Array.length_toList] at hi;simp[hi]
  obtain⟨_,h2,h3⟩:=hf1 i _ hi';rw[h2];exact Option.isSome_iff_exists.1 h3
 let g:Field→Nat×Nat:=fun f=>(f.offset,match (E.ti f.type).sh with | some u=>u.size | none=>0)
 have hm:(fs.mapM (fun f=>do pure (f.offset,← Go.sizeOf f.type)):Sem (Array (Nat×Nat))).run P w=.ok (fs.map g) w:=by
  rw[Array.mapM_eq_mapM_toList];simp only[Sem.run_map];rw[qky _ g w fs.toList (fun f hf=>by
   obtain⟨u,hu⟩:=hall f hf;rw[yh,(hT _ _ hu).sizeOf,ye];simp only[g,hu];rfl)]
  rw[ye];congr 1;apply Array.ext';simp
 have hp:∀ i u,(Sh.pair s0 (.pair s1 q)).fld i=some u→(fs.map g)[i]? = some (qP (Sh.pair s0 (.pair s1 q)) i,u.size):=fun i u hu=>by
  obtain⟨f,hf⟩:=hf2 i u hu;obtain⟨h1,h2,_⟩:=hf1 i f hf;rw[Array.getElem?_map,hf];simp only[yU,g,h1,h2,hu]
 have p0:=hp 0 s0 rfl;have p1:=hp 1 s1 rfl;have o0:qP (Sh.pair s0 (.pair s1 q)) 0=0:=rfl;have o1:qP (Sh.pair s0 (.pair s1 q)) 1=s0.size:=rfl;rw[o0] at p0;rw[o1] at p1;have hzs:z.cells.size=s0.size+(s1.size+q.size):=by
  have:=RdC.length _ _ _ (hrd w (fun _ _=>False)).cells;simpa [Sh.size] using this
 obtain⟨r,hzc⟩:=qfH ((hT t _ hs).zero i z hi hz) (fun hag=>by cases hag);obtain⟨r1,hz1,hz2⟩:=qfI hzc;obtain⟨r2,hz3,hz4⟩:=qfI hz2;obtain⟨us0,e0,q0⟩:=qcd _ _ _ hz1;obtain⟨us1,e1,q1⟩:=qcd _ _ _ hz3;have n0:=RdC.length _ _ _ (q0 w (fun _ _=>False));have n1:=RdC.length _ _ _ (q1 w (fun _ _=>False));have hr2:r2.length=q.size:=by
  have:=congrArg List.length e0;rw[e1] at this;simp only[Array.length_toList,yn] at this;omega
 have f0:=qeH v0.cells.toList 0 0 z.cells (by simp;omega);have g0:(v0.cells.zipIdx.foldl (fun cs (p:Value×Nat)=>cs.setIfInBounds (0+p.2) p.1) z.cells).toList=v0.cells.toList++z.cells.toList.drop s0.size:=by
  rw[← Array.foldl_toList,Array.toList_zipIdx,f0];simp[h0]
 generalize hc1:v0.cells.zipIdx.foldl (fun cs (p:Value×Nat)=>cs.setIfInBounds (0+p.2) p.1) z.cells=c1 at g0;have hc1s:c1.size=s0.size+(s1.size+q.size):=by
  have:=congrArg List.length g0;simp only[Array.length_toList,yn,yK] at this;omega
 have f1:=qeH v1.cells.toList 0 s0.size c1 (by simp;omega);have g1:(v1.cells.zipIdx.foldl (fun cs (p:Value×Nat)=>cs.setIfInBounds (s0.size+p.2) p.1) c1).toList=v0.cells.toList++(v1.cells.toList++r2):=by
  rw[← Array.foldl_toList,Array.toList_zipIdx,f1,g0,Nat.add_zero];have hd0:z.cells.toList.drop s0.size=us1++r2:=by rw[e0,List.drop_left' n0,e1]
  rw[List.take_left' (by simp[h0]),hd0,yl,List.drop_append,yA (by simp[h0]),List.nil_append,List.drop_left' (by simp[h0,h1,n1])]
 refine⟨_,r2,r,?_,hz4,g1,hr2⟩;unfold Instr.build;simp only[yh,zeroValue,typeInfo,program,Sem.run,hi,hz,yu,ye,yr hfs];rw[hm,ye];have hfill:Instr.fill (fun x=>(fs.map g)[x]?) z.cells [(0,v0),(1,v1)]=some (v1.cells.zipIdx.foldl (fun cs (p:Value×Nat)=>cs.setIfInBounds (s0.size+p.2) p.1) c1):=by
  simp only[Instr.fill,p0,p1];rw[if_neg (by simp only[h0];simp;omega),hc1,if_neg (by simp only[h1,hc1s];simp;try omega)]
 rw[hfill];rfl
theorem RP.builds2 (h:RP P base w0 S0 S fr gv a w F) (hT:TyOk P E.toEnv) (hd:d < a.tmps.size) {x0 x1:Operand} {q:PSh} {z0:Den s0} {z1:Den s1} {o0 o1:Lab}
 (hop:o.op=.build t #[(0,x0),(1,x1)]) (hs:(E.ti t).sh=some (PSh.ppair (.leaf s0) (.ppair (.leaf s1) q)).sh) (hx0:Rd w S (a.eval x0) (.dat s0 z0 o0)) (hx1:Rd w S (a.eval x1) (.dat s1 z1 o1)) :
 ∃ v',(execOp a.eval o).run P w=.ok (.value v') w∧RootAny P w S (fun _=>False) (.pv (.ppair (.leaf s0) (.ppair (.leaf s1) q)) (z0,(z1,dflt q.sh)) none) v':=by
 have c0:=qdb hx0;have c1:=qdb hx1;have l0:(a.eval x0).cells.size=s0.size:=by simpa using RdC.length _ _ _ c0
 have l1:(a.eval x1).cells.size=s1.size:=by simpa using RdC.length _ _ _ c1
 obtain⟨cs,r2,r,hrun,hz,hcs,hr2⟩:=qtF (P:=P) (w:=w) hT hs l0 l1;have hexec:(execOp a.eval o).run P w=.ok (.value (.agg cs)) w:=by
  unfold execOp;simp only[hop];exact run_v (by simpa using hrun)
 have hat:∀ i,cs[i]? = ((a.eval x0).cells.toList++((a.eval x1).cells.toList++r2))[i]? := fun i=>by rw[← hcs,Array.getElem?_toList]
 have hpm:PM w S (.ppair (.leaf s0) (.ppair (.leaf s1) q)) (valR (.agg cs)) (z0,(z1,dflt q.sh)) (fun _=>False):=by
  have hq:PM w S q (fun i=>valR (.agg cs) ((PSh.leaf s0).size+((PSh.leaf s1).size+i))) (dflt q.sh) (fun _=>False):=PM.zero q r2 r _ hz (fun i v _ hv=>by
   show cs[s0.size+(s1.size+i)]? = some v;rw[hat,yN (by simp[l0]),yN (by simp[l0,l1])];simpa [l0,l1] using hv)
  simp only[PM] at hq ⊢;refine⟨fun _=>False,fun _=>False,⟨fun _ hf=>hf,_,c0,fun i v hi=>?_⟩,⟨fun _=>False,fun _=>False,⟨fun _ hf=>hf,_,c1,fun i v hi=>?_⟩,hq,fun _ hf=>hf.elim,fun k=>⟨fun hf=>hf.elim,fun hf=>hf.elim id id⟩⟩,fun _ hf=>hf.elim,fun k=>⟨fun hf=>hf.elim,fun hf=>hf.elim id id⟩⟩
  ·have hlt:=(List.getElem?_eq_some_iff.1 hi).1;show cs[i]? = some v;rw[hat,yM hlt];exact hi
  ·have hlt:=(List.getElem?_eq_some_iff.1 hi).1;show cs[s0.size+i]? = some v;rw[hat,yN (by simp[l0]),yM (by simpa [l0] using hlt)];simpa [l0] using hi
 have hsz:cs.size=(PSh.ppair (.leaf s0) (.ppair (.leaf s1) q)).size:=by
  have:=congrArg List.length hcs;simp only[Array.length_toList,yn] at this;have e:=PSh.size_eq q;simp only[PSh.size];omega
 exact⟨_,hexec,.tree _ _ _ _ none (.val (.agg cs)) (.pv _ _ _ _ ⟨cs,rfl,hsz⟩) ⟨(fun g hg=>by cases hg),PM.congrF hpm (fun k=>⟨fun hf=>hf.elim,fun hk=>hk.1⟩),(fun v _ hsl=>by cases hsl)⟩⟩
theorem qIE (hn:a.tmps.size=E.nt) (h:RP P base w0 S0 S fr gv a w F) (hT:TyOk P E.toEnv) (hdst:o.dst=some d) (hd:d < a.tmps.size) (he:makeN E fr o d=some (some (true,fr'))) :
 qh P o a w (PPost P base w0 S0 E.nt gv w S F ((fr d).isRoot=false) fr'):=by
 unfold makeN at he;split at he
 ·cases he
 ·rename_i p hp;have tame:∀ {w':World} {S':qa} {Fd:Nat→Prop},Grew w S w' S'→(fr d).isRoot=false→∀ t b,F t b→w'.heap[b]? = w.heap[b]? ∧ ∃ t',(t'=d∧Fd b)∨(t'≠d∧F t' b):=fun g ht t b hb=>⟨g.below.block b (h.lt hb),t,.inr ⟨qaX h ht hb,hb⟩⟩;split at he
  ·
   rename_i src dst x hop;split at he
   ·rename_i te;simp only[ya] at he;split at he
    ·rename_i ok s ob hx;split at he
     ·rename_i hc;obtain⟨hs,hsrc,hte⟩:=hc;simp only[ya,yb,yf,ym] at he;obtain⟨⟨rfl,hroom⟩,rfl⟩:=he;subst hte;obtain⟨b,ev,hb⟩:=qcS (qt h.r hx).1;obtain⟨te,hd1,hte,_,rfl⟩:=(hT dst _ hs).desc;have hel:=(hT _ _ hte).desc;have hsr:=(hT src _ hsrc).desc;have hrun:(execOp a.eval o).run P w=.ok (.value (.slice (some ⟨w.heap.size,0,none⟩) b.size (grownCap w b.size 0 (E.ti dst).el))) (Lib.bytesWorld w (E.ti dst).el b):=by
       unfold execOp;simp only[hop];refine run_v ?_;rw[ev];exact Lib.run_convert_string_bytes w src dst _ b hsr hd1 hel
      have hsz:b.size=s.length:=by rw[← hb];simp
      have hbel:Below w.heap.size w (Lib.bytesWorld w (E.ti dst).el b):=⟨rfl,rfl,rfl,by rw[Lib.bytesWorld_size];omega,fun k hk=>Lib.bytesWorld_at_old w _ b k hk⟩;have g:Grew w S (Lib.bytesWorld w (E.ti dst).el b) (fun k j=>S k j∨(k=w.heap.size∧j < b.size)) :=
       ⟨hbel,fun k j hk=>⟨fun hs=>hs.elim id (fun hh=>absurd hh.1 (by omega)),.inl⟩,fun k j hs=>by
        rw[Lib.bytesWorld_size];rcases hs with hs | hs
        ·have:=h.r.slt k j hs;omega
        ·omega⟩
      have hcap:=grownCap_ge w b.size 0 (E.ti dst).el;have hmax:grownCap w b.size 0 (E.ti dst).el≤maxLen:=grownCap_le_maxLen w b.size 0 _ (by unfold maxLen;unfold room at hroom;omega);have hbsz:(Lib.bytesCells w (E.ti dst).el b).size=grownCap w b.size 0 (E.ti dst).el:=by
       simp only[Lib.bytesCells,Array.size_append,Array.size_map,ByteArray.size_data,Array.size_replicate];omega
      have htk:(Lib.bytesCells w (E.ti dst).el b).toList.take (b.size*1)=strCells b:=by
       simp only[Lib.bytesCells,Array.toList_append,Nat.mul_one];rw[List.take_left' (by simp)];unfold strCells;simp
      have hrow:qY (Lib.bytesWorld w (E.ti dst).el b) 0 (E.ti dst).el 1 (.slice (some ⟨w.heap.size,0,none⟩) b.size (grownCap w b.size 0 (E.ti dst).el)) s.length (strCells b):=by
       refine⟨by rw[strCells_length,Nat.mul_one,hsz],.inr ⟨w.heap.size,_,Lib.bytesCells w (E.ti dst).el b,_,by rw[hsz],Nat.zero_le _,Lib.bytesWorld_at_new w _ b,.inr (yv _),by rw[← hsz];exact hcap,hmax,by rw[hbsz,Nat.mul_one],by rw[← hsz];exact htk⟩⟩
      have hch:qd (RdC (Lib.bytesWorld w (E.ti dst).el b) (fun k j=>S k j∨(k=w.heap.size∧j < b.size)) .byte) s (strCells b):=by
       rw[← hb];exact(qeW (w:=w) (S:=S) b).mono (RdC.keeps (g.keeps h.r.slt) .byte)
      have hroot:RootAny P (Lib.bytesWorld w (E.ti dst).el b) (fun k j=>S k j∨(k=w.heap.size∧j < b.size)) _ (.pv (.osl (E.ti dst).el .byte) s none) (.slice (some ⟨w.heap.size,0,none⟩) b.size (grownCap w b.size 0 (E.ti dst).el)) :=
       RP.oslRoot (e:=.byte) hrow hch (fun k hk j=>by
        simp only[Value.ownBlock,ya] at hk;subst hk;have hsz1:Sh.byte.size=1:=rfl;rw[hsz1,Nat.mul_one,← hsz];exact⟨fun hh=>hh.elim (fun hh=>absurd (h.r.slt _ _ hh) (Nat.lt_irrefl _)) (·.2),fun hh=>.inr ⟨rfl,hh⟩⟩)
      have hnr:=h.newRoot hd g (fun k hk=>by
       simp only[Value.ownBlock,ya] at hk;subst hk;exact⟨yv _,by rw[Lib.bytesWorld_size];omega⟩) rfl hroot
      exact qh.value hrun ⟨by rw[hdst,qg,hn],_,_,by rw[hdst];exact hnr,g.keeps h.r.slt,tame g⟩
     ·cases he
    ·cases he
   ·cases he
  ·
   rename_i t hop;simp only[ya] at he;split at he
   ·rename_i hs;simp only[ya,yb,true_and] at he;subst he;obtain⟨i,z,hi,hsz,_,hz,hrd⟩:=(hT t _ hs).info;have hzv:=(hT t _ hs).zero i z hi hz;have hcells:=RdC.length _ _ _ (hrd w S).cells;have hrun:(execOp a.eval o).run P w=.ok (.value (.pointer (some ⟨w.heap.size,0,none⟩))) (w.alloc (.cells z.cells t)):=by
     unfold execOp;simp only[hop];refine run_v ?_;simp[Instr.alloc,zeroValue,typeInfo,hi,hz,newVar,newRow]
    have hzc:∃ r,zeroC p.sh z.cells.toList=some r:=qfH hzv (fun hag=>by
     have hr:=hrd w S;unfold RdV at hr;rw[hag] at hr;exact RdC.oneCell _ _ _ hr z (by simp))
    obtain⟨r,hzc⟩:=hzc;have hheap:(w.alloc (.cells z.cells t)).heap[w.heap.size]? = some (.cells z.cells t (0,0)):=heap_alloc_new w _;have hbel:=qK w (.cells z.cells t);have g:Grew w S (w.alloc (.cells z.cells t)) S:=⟨hbel,fun _ _ _=>Iff.rfl,fun b o hs=>yH (h.r.slt b o hs) hbel.size⟩;have hpm:PM (w.alloc (.cells z.cells t)) S p (blkR (w.alloc (.cells z.cells t)) w.heap.size 0) (dflt p.sh) (fun _=>False):=PM.zero p _ r _ hzc (fun i v _ hv=>by
     simp only[blkR,World.cell?,hheap,Option.isSome_none,yq,if_false,yE];simpa using hv)
    have hroot:RootAny P (w.alloc (.cells z.cells t)) S (fun k=>k=w.heap.size) (.pbox p (dflt p.sh) (bif holeB E d&&p.isSl then some [] else none)) (.pointer (some ⟨w.heap.size,0,none⟩)):=by
     cases hq:holeB E d&&p.isSl with
     | true=>exact qID hheap (by rw[← PSh.size_eq];simpa using hcells) (fun o hs=>absurd (h.r.slt _ _ hs) (Nat.lt_irrefl _)) hpm (by simp only[yf] at hq;exact hq.2)
     | false=>exact qGK (P:=P) hheap (by rw[← PSh.size_eq];simpa using hcells) (fun o hs=>absurd (h.r.slt _ _ hs) (Nat.lt_irrefl _)) hpm
    have hnr:=h.newRoot hd g (fun k hk=>by subst hk;exact⟨yv _,(Array.getElem?_eq_some_iff.1 hheap).1⟩) rfl hroot;exact qh.value hrun ⟨by rw[hdst,qg,hn],_,_,by rw[hdst];exact hnr,g.keeps h.r.slt,tame g⟩
   ·cases he
  ·
   rename_i t parts hop;simp only[ya] at he;split at he
   ·rename_i hc;obtain⟨hps,hag,hs⟩:=hc;simp only[ya,yb,true_and] at he;subst he;obtain rfl:parts = #[]:=Array.eq_empty_of_size_eq_zero hps;cases p with
    | ppair pa pb =>
     obtain⟨i,z,hi,hz,hbuild⟩:=qvk (P:=P) (E:=E.toEnv) hT hs rfl (fun n e e1=>by cases e1) w;obtain⟨i',z',hi',hsz,_,hz',hrd⟩:=(hT t _ hs).info;obtain rfl:i=i':=by rw[hi] at hi';exact yp hi'
     obtain rfl:z=z':=by rw[hz] at hz';exact yp hz'
     have hzv:=(hT t _ hs).zero i z hi hz;have hcells:=RdC.length _ _ _ (hrd w S).cells;have hrun:(execOp a.eval o).run P w=.ok (.value (.agg z.cells)) w:=by
      unfold execOp;simp only[hop];exact run_v (by simpa using hbuild)
     obtain⟨r,hzc⟩:∃ r,zeroC (PSh.ppair pa pb).sh z.cells.toList=some r:=qfH hzv (fun hag=>by cases hag);have hpm:PM w S (.ppair pa pb) (valR (.agg z.cells)) (dflt (PSh.ppair pa pb).sh) (fun _=>False):=PM.zero _ _ r _ hzc (fun i v _ hv=>by
      unfold valR;show z.cells[i]? = some v;simpa using hv)
     have hroot:RootAny P w S (fun _=>False) (.pv (.ppair pa pb) (dflt (PSh.ppair pa pb).sh) none) (.agg z.cells) :=
      .tree _ _ _ _ none (.val (.agg z.cells)) (.pv _ _ _ _ ⟨z.cells,rfl,by rw[← PSh.size_eq];simpa using hcells⟩) ⟨(fun g hg=>by cases hg),PM.congrF hpm (fun k=>⟨fun hf=>hf.elim,fun hk=>hk.1⟩),(fun v _ hsl=>by cases hsl)⟩
     have g:Grew w S w S:=⟨Below.refl _ _,fun _ _ _=>Iff.rfl,h.r.slt⟩;have hnr:=h.newRoot hd g (fun k hk=>hk.elim) rfl hroot;exact qh.value hrun ⟨by rw[hdst,qg,hn],_,_,by rw[hdst];exact hnr,g.keeps h.r.slt,tame g⟩
    | _=>cases hag
   ·split at he
    ·rename_i s0 s1 q x0 x1 hps hne;obtain rfl:parts = #[(0,x0),(1,x1)]:=Array.ext' hps;split at he
     ·rename_i ok0 s0' z0 ob0 ok1 s1' z1 ob1 hx0 hx1;split at he
      ·rename_i hh;obtain⟨rfl,rfl,hs⟩:=hh;simp only[ya,yb,yf] at he;obtain⟨⟨rfl,rfl⟩,rfl⟩:=he;obtain⟨v',r1,hroot⟩:=h.builds2 hT hd hop hs (qt h.r hx0).1 (qt h.r hx1).1;have g:Grew w S w S:=⟨Below.refl _ _,fun _ _ _=>Iff.rfl,h.r.slt⟩;have hnr:=h.newRoot hd g (fun k hk=>hk.elim) rfl hroot;exact qh.value r1 ⟨by rw[hdst,qg,hn],_,_,by rw[hdst];exact hnr,g.keeps h.r.slt,tame g⟩
      ·cases he
     ·cases he
    ·cases he
  ·
   rename_i t x hop;simp only[ya] at he;split at he
   ·
    rename_i y p' z hro;split at he
    ·cases he
    ·rename_i hc;rw[not_or] at hc;obtain⟨hyd,hs⟩:=hc;have hs:(E.ti t).sh=some p'.sh:=Classical.byContradiction hs;simp only[ya,yb,true_and] at he;subst he;unfold qNt at hro;split at hro
     ·rename_i y';split at hro
      ·cases hro
      ·rename_i hyn;split at hro
       ·rename_i p1 z1 hfy;split at hro
        ·rename_i hag;simp only[ya,yb,yD] at hro;obtain⟨rfl,rfl,hz⟩:=hro;obtain rfl:=eq_of_heq hz;have hroot0:=h.root y' (by rw[hfy];rfl);rw[hfy] at hroot0;cases hroot0 with
         | tree _ _ p2 x2 h2 c2 k1 k2 =>
          cases k1 with
          | pv _ _ _ _ hv =>
           have hag':p1.agg=true:=by cases p1 <;> first | rfl | cases hag
           unfold valOk at hv;rw[if_pos hag'] at hv;obtain⟨cs,ev,hcs⟩:=hv;have hyl:y' < a.tmps.size:=Nat.lt_of_not_le (fun hh=>hyn (by rw[← hn];exact hh));have heval:a.eval (.tmp y')=.agg cs:=by rw[← qE gv a y' hyl];exact ev
           have hrun:(execOp a.eval o).run P w=.ok (.value (.pointer (some ⟨w.heap.size,0,none⟩))) (w.alloc (.cells cs t)):=by
            unfold execOp;simp only[hop,heval];refine run_v ?_;simp[Instr.box,newVar,newRow,Value.cells]
           have hheap:(w.alloc (.cells cs t)).heap[w.heap.size]? = some (.cells cs t (0,0)):=heap_alloc_new w _;have hbel:=qK w (.cells cs t);have g:Grew w S (w.alloc (.cells cs t)) S:=⟨hbel,fun _ _ _=>Iff.rfl,fun b o hs=>yH (h.r.slt b o hs) hbel.size⟩;have hk:=g.keeps h.r.slt;have hcore:PM w S p1 (valR (tv gv a y')) z1 (fun b=>F y' b∧Spot.block (.val (tv gv a y'))≠some b):=k2.core;have hlt:∀ b,F y' b→b < w.heap.size:=fun b hb=>h.lt hb;have hlt':∀ {t b},F t b→b < w.heap.size:=fun hb=>h.lt hb;have hpm:PM (w.alloc (.cells cs t)) S p1 (blkR (w.alloc (.cells cs t)) w.heap.size 0) z1 (fun b=>F y' b):=by
            refine PM.congrF (PM.step hk p1 _ _ z1 _ hcore (fun i hi=>?_) (fun b hb=>hbel.block b (hlt b hb.1)) (fun b o hb=>Iff.rfl)) (fun b=>⟨(·.1),fun hb=>⟨hb,by simp[Spot.block]⟩⟩);simp only[blkR,World.cell?,hheap,Option.isSome_none,yq,if_false,yE];rw[ev];rfl
           have hroot:RootAny P (w.alloc (.cells cs t)) S (fun k=>F y' k∨k=w.heap.size) (.pbox p1 z1 none) (.pointer (some ⟨w.heap.size,0,none⟩)):=by
            refine .tree _ _ p1 z1 none (.blk w.heap.size 0) (.pbox _ _ _ _) ⟨fun g' hg'=>?_,?_,fun v hv=>by cases hv⟩
            ·simp only[Spot.block,ya] at hg';subst hg';exact⟨.inr rfl,fun o hs=>absurd (h.r.slt _ _ hs) (Nat.lt_irrefl _),cs,t,hheap,hcs⟩
            ·refine PM.congrF hpm fun k=>⟨fun hf=>⟨.inl hf,fun e=>?_⟩,fun hk=>hk.1.elim id (fun e=>absurd (by rw[e];rfl) hk.2)⟩;simp only[Spot.block,ya] at e;have:=hlt k hf;omega
           have hmv:=h.moved hd (y:=y') (by rw[hfy];rfl) hyd;have hnr:=hmv.newRootO (by rw[qg];exact hd) (val:=.pointer (some ⟨w.heap.size,0,none⟩)) (v:=.pbox p1 z1 none) g (Fd:=fun k=>F y' k∨k=w.heap.size) (fun k hk=>hk.elim (fun hh=>.inr (.inl ⟨rfl,hh⟩)) (fun e=>.inl (by subst e;exact⟨yv _,(Array.getElem?_eq_some_iff.1 hheap).1⟩))) rfl hroot;rw[qqX] at hnr;refine qh.value hrun ⟨by rw[hdst,qg,hn],_,_,by rw[hdst];exact hnr,hk,fun ht t' b hb=>⟨hbel.block b (hlt' hb),?_⟩⟩
           by_cases hty:t'=y'
           ·subst hty;exact⟨d,.inl ⟨rfl,.inl hb⟩⟩
           ·have htd:=qaX h ht hb;exact⟨t',.inr ⟨htd,.inr ⟨htd,hty,hb⟩⟩⟩
        ·cases hro
       ·cases hro
     ·cases hro
   ·split at he
    ·rename_i s ok s' z o1 hx;split at he
     ·rename_i hc;obtain⟨rfl,hs⟩:=hc;simp only[ya,yb] at he;obtain⟨rfl,rfl⟩:=he;have hcs:=qdb (qt h.r hx).1;have hcells:=RdC.length _ _ _ hcs;have hrun:(execOp a.eval o).run P w=.ok (.value (.pointer (some ⟨w.heap.size,0,none⟩))) (w.alloc (.cells (a.eval x).cells t)):=by
       unfold execOp;simp only[hop];refine run_v ?_;simp[Instr.box,newVar,newRow]
      have hheap:(w.alloc (.cells (a.eval x).cells t)).heap[w.heap.size]? = some (.cells (a.eval x).cells t (0,0)):=heap_alloc_new w _;have hbel:=qK w (.cells (a.eval x).cells t);have g:Grew w S (w.alloc (.cells (a.eval x).cells t)) S:=⟨hbel,fun _ _ _=>Iff.rfl,fun b o hs=>yH (h.r.slt b o hs) hbel.size⟩;have hpm:PM (w.alloc (.cells (a.eval x).cells t)) S (.leaf s') (blkR (w.alloc (.cells (a.eval x).cells t)) w.heap.size 0) z (fun _=>False) :=
       PM.of_cells (.leaf s') _ z _ rfl (RdC.keeps (g.keeps h.r.slt) _ _ _ hcs) (fun i v hv=>by
        simp only[blkR,World.cell?,hheap,Option.isSome_none,yq,if_false,yE];simpa using hv)
      have hroot:=qGK (P:=P) hheap (by simpa [PSh.size] using hcells) (fun o hs=>absurd (h.r.slt _ _ hs) (Nat.lt_irrefl _)) hpm;have hnr:=h.newRoot hd g (fun k hk=>by subst hk;exact⟨yv _,(Array.getElem?_eq_some_iff.1 hheap).1⟩) rfl hroot;exact qh.value hrun ⟨by rw[hdst,qg,hn],_,_,by rw[hdst];exact hnr,g.keeps h.r.slt,tame g⟩
     ·cases he
    ·cases he
  ·cases he
theorem qid:∀ (r:List PStep) (y y' u:Value),cloV w S r y u→cloV w S r y' u→y=y'
 | [],y,y',u,h,h'=>h.symm.trans h'
 | .clo f b :: r,y,y',u,⟨v,h1,h2⟩,⟨v',h3,h4⟩=>by
  have:v=v':=by
   rw[h2] at h4;cases b <;> simpa using h4
  subst this;exact qid r y y' v h1 h3
 | .cel :: r,y,y',u,⟨v,b,h1,h2,_,h5⟩,⟨v',b',h3,h4,_,h6⟩=>by
  rw[h2] at h4;simp only[Value.pointer.injEq,ya,Addr.mk.injEq,and_true] at h4;subst h4;rw[h5] at h6;obtain rfl:=yp h6;exact qid r y y' v h1 h3
 | .fld _ :: _,_,_,_,h,_=>h.elim
 | .idx _ :: _,_,_,_,h,_=>h.elim
theorem RefAt.clo (h:RefAt w S av v r u X) (ht:qaS r=true):cloV w S r v u:=by
 rcases h with ⟨p,x,hh,c,k1,k2⟩ | ⟨s,V,x,_,_,k2⟩
 ·cases k1 with
  | pv _ _ _ _ hv =>
   exfalso;rcases k2 with ⟨q,g,o,_,m2,_⟩ | ⟨_,_,g,e,_⟩
   ·cases r with
    | nil =>
     have:locP w p (.val v) []=some (p,.val v):=by cases p <;> rfl
     rw[this] at m2;simp at m2
    | cons a r =>
     cases a with
     | clo f b=>cases p <;> simp[locP] at m2
     | cel=>cases p <;> simp[locP] at m2
     | _=>cases ht
   ·cases e
  | pbox _ _ _ b =>
   rcases k2 with ⟨q,g,o,_,m2,m3,_⟩ | ⟨_,_,g,e,m3,_⟩
   ·cases r with
    | nil =>
     have:locP w p (.blk b 0) []=some (p,.blk b 0):=by cases p <;> rfl
     rw[this] at m2;simp only[ya,yb,Spot.blk.injEq] at m2;obtain⟨_,rfl,rfl⟩:=m2;exact m3
    | cons a r =>
     cases a with
     | clo f b=>cases p <;> simp[locP] at m2
     | cel=>cases p <;> simp[locP] at m2
     | _=>cases ht
   ·cases e;exact m3
 ·exact k2
theorem RefAt.up {u':Value} {st:PStep} (h:RefAt w S av v r u X) (ht:qaS r=true) (ht':qaS (st :: r)=true) (hu:∀ y,cloV w S r y u→cloV w S (st :: r) y u'):RefAt w S av v (st :: r) u' X:=by
 have hc:=h.clo ht;rcases h with ⟨p,x,hh,c,k1,k2⟩ | ⟨s,V,x,e,k1,k2⟩
 ·refine .inl ⟨p,x,hh,c,k1,.inr ⟨ht',by simp,?_⟩⟩;cases k1 with
  | pv _ _ _ _ hv =>
   exfalso;rcases k2 with ⟨q,g,o,_,m2,_⟩ | ⟨_,_,g,e,_⟩
   ·cases r with
    | nil =>
     have:locP w p (.val v) []=some (p,.val v):=by cases p <;> rfl
     rw[this] at m2;simp at m2
    | cons a r =>
     cases a with
     | clo f b=>cases p <;> simp[locP] at m2
     | cel=>cases p <;> simp[locP] at m2
     | _=>cases ht
   ·cases e
  | pbox _ _ _ g =>
   refine⟨g,rfl,hu _ hc,?_⟩;rcases k2 with ⟨q,g',o,_,m2,m3,m4,m5⟩ | ⟨_,_,g',e,_,m5⟩
   ·cases r with
    | nil =>
     have:locP w p (.blk g 0) []=some (p,.blk g 0):=by cases p <;> rfl
     rw[this] at m2;simp only[ya,yb,Spot.blk.injEq] at m2;obtain⟨_,rfl,rfl⟩:=m2;exact m5
    | cons a r =>
     cases a with
     | clo f b=>cases p <;> simp[locP] at m2
     | cel=>cases p <;> simp[locP] at m2
     | _=>cases ht
   ·cases e;exact m5
 ·exact .inr ⟨s,V,x,e,ht',hu _ k2⟩
theorem RefAt.down {b:Bool} (h:RefAt w S av v (.cel :: .clo f b :: r) u X) :
 ∃ u0 g,u=.pointer (some ⟨g,0,none⟩)∧w.cell? ⟨g,0,none⟩=some u0∧RefAt w S av v (.clo f b :: r) u0 X:=by
 rcases h with ⟨p,x,hh,c,k1,k2⟩ | ⟨s,V,x,e,k1,k2⟩
 ·rcases k2 with ⟨q,g',o,_,m2,_⟩ | ⟨m1,m2,g',m3,⟨u0,g,n1,n2,n3,n4⟩,m5⟩
  ·exfalso;cases p <;> simp[locP] at m2
  ·exact⟨u0,g,n2,n4,.inl ⟨p,x,hh,c,k1,.inr ⟨m1,by simp,g',m3,n1,m5⟩⟩⟩
 ·obtain⟨u0,g,n1,n2,n3,n4⟩:=k2;exact⟨u0,g,n2,n4,.inr ⟨s,V,x,e,k1,n1⟩⟩
theorem RefAt.close (h:RefAt w S av v r u X) (ht:qaS r=true) (f:FuncId) (b:Bool) :
 RefAt w S av v (.clo f b :: r) (if b then .func (.func f) #[u] #[] else .func (.func f) #[] #[u]) X:=by
 have hc:=h.clo ht;rcases h with ⟨p,x,hh,c,k1,k2⟩ | ⟨s,V,x,e,k1,k2⟩
 ·refine .inl ⟨p,x,hh,c,k1,.inr ⟨ht,by simp,?_⟩⟩;cases k1 with
  | pv _ _ _ _ hv =>
   exfalso;rcases k2 with ⟨q,g,o,_,m2,_⟩ | ⟨_,_,g,e,_⟩
   ·cases r with
    | nil =>
     have:locP w p (.val v) []=some (p,.val v):=by cases p <;> rfl
     rw[this] at m2;simp at m2
    | cons a r =>
     cases a with
     | clo f b=>cases p <;> simp[locP] at m2
     | cel=>cases p <;> simp[locP] at m2
     | _=>cases ht
   ·cases e
  | pbox _ _ _ g =>
   refine⟨g,rfl,⟨u,hc,rfl⟩,?_⟩;rcases k2 with ⟨q,g',o,_,m2,m3,m4,m5⟩ | ⟨_,_,g',e,_,m5⟩
   ·cases r with
    | nil =>
     have:locP w p (.blk g 0) []=some (p,.blk g 0):=by cases p <;> rfl
     rw[this] at m2;simp only[ya,yb,Spot.blk.injEq] at m2;obtain⟨_,rfl,rfl⟩:=m2;exact m5
    | cons a r =>
     cases a with
     | clo f b=>cases p <;> simp[locP] at m2
     | cel=>cases p <;> simp[locP] at m2
     | _=>cases ht
   ·cases e;exact m5
 ·exact .inr ⟨s,V,x,e,ht,u,k2,rfl⟩
theorem RP.refV (h:RP P base w0 S0 S fr gv a w F) (hp:refV a.tmps.size fr x=some (s,r)) :
 ∃ y,x=.tmp y∧y < a.tmps.size∧qaS r=true∧RefAt w S (fr s) (tv gv a s) r (tv gv a y) (F s):=by
 unfold Av.refV at hp;split at hp
 ·rename_i y;split at hp
  ·cases hp
  rename_i hyn;refine⟨y,rfl,Nat.lt_of_not_le hyn,?_⟩;split at hp
  ·rename_i p z hh e;simp only[ya,yb] at hp;obtain⟨rfl,rfl⟩:=hp;refine⟨rfl,?_⟩;have hpl:qax a.tmps.size fr (.tmp y)=some (true,y,[]):=by
    unfold qax;simp only[e];rw[if_neg hyn]
   obtain⟨y',e1,_,p',z',hh',c,k1,_,k2,_⟩:=h.place hpl;obtain rfl:y=y':=by simpa using e1
   exact .inl ⟨p',z',hh',c,k1,k2 rfl⟩
  ·rename_i s' r' e;split at hp
   ·rename_i ht;simp only[ya,yb] at hp;obtain⟨rfl,rfl⟩:=hp;exact⟨ht,h.adr y s' r' e⟩
   ·cases hp
  ·cases hp
 ·cases hp
theorem qqO {n:Nat} (hn:a.tmps.size=n):∀ (xs:List Operand) (ss:List Nat),qmi n fr xs=some ss→xs.map a.eval=ss.map fun s=>a.tmps.getD s undef
 | [],ss,h=>by
  simp only[qmi,ya] at h;subst h;rfl
 | .tmp y :: l,ss,h=>by
  simp only[qmi] at h;split at h
  ·cases h
  ·split at h
   ·rename_i ss' hy hl;simp only[ya] at h;subst h;rw[yI,yI,qqO hn l ss' hl];rfl
   ·cases h
 | .const _ :: _,_,h=>by simp[qmi] at h
 | .global _ :: _,_,h=>by simp[qmi] at h
 | .func _ :: _,_,h=>by simp[qmi] at h
theorem qIF (hn:a.tmps.size=E.nt) (h:RP P base w0 S0 S fr gv a w F) (hdst:o.dst=some d) (hd:d < a.tmps.size) (hM:∀ t,E.mts t=some (t,t)→∃ ps rs v,P.underlying t=some (.func ps rs v)) (he:makeF E fr o d=some (some (true,fr'))) :
 qh P o a w (PPost P base w0 S0 E.nt gv w S F False fr'):=by
 have fin:∀ {x:Operand} {s:Nat} {r:List PStep} (f:FuncId) (b:Bool),Av.refV E.nt fr x=some (s,r)→s≠d→(execOp a.eval o).run P w=.ok (.value (if b then .func (.func f) #[a.eval x] #[] else .func (.func f) #[] #[a.eval x])) w →
  qh P o a w (PPost P base w0 S0 E.nt gv w S F False (fr.putP d (.padr s (.clo f b :: r)))):=fun {x s r} f b hr hne hrun=>by
  rw[← hn] at hr;obtain⟨y,rfl,hy,ht,hR⟩:=h.refV hr;rw[← qE gv a y hy] at hrun;have hnr:=h.putPlain hd (.padr _ _ _) rfl rfl (fun s' r' e=>by cases e;exact⟨hne,hR.close ht f b⟩) (fun s' r' e=>by cases e);exact qh.value hrun ⟨by rw[qg,hn],S,_,by rw[hdst];exact hnr,Keeps.refl w S,fun hf=>hf.elim⟩
 unfold makeF at he;split at he
 ·rename_i f first captured hop;split at he
  ·rename_i x h1 h2;obtain rfl:first = #[x]:=Array.ext' h1;obtain rfl:captured = #[]:=Array.ext' h2;split at he
   ·rename_i s r hr;simp only[ya] at he;split at he
    ·cases he
    ·rename_i hne;simp only[ya,yb,true_and] at he;subst he;exact fin f true hr hne (by unfold execOp;simp only[hop];refine run_v ?_;simp[Instr.makeFunc,yu])
   ·cases he
  ·rename_i x h1 h2;obtain rfl:first = #[]:=Array.ext' h1;obtain rfl:captured = #[x]:=Array.ext' h2;split at he
   ·rename_i s r hr;simp only[ya] at he;split at he
    ·cases he
    ·rename_i hne;simp only[ya,yb,true_and] at he;subst he;exact fin f false hr hne (by unfold execOp;simp only[hop];refine run_v ?_;simp[Instr.makeFunc,yu])
   ·cases he
  ·rename_i xs _ h1 h2;obtain rfl:first = #[]:=Array.ext' h1;split at he
   ·rename_i ss hss;simp only[ya] at he;split at he
    ·cases he
    ·rename_i hne;simp only[ya,yb,true_and] at he;subst he;have hcl:=qqO hn _ _ hss;have hrun:(execOp a.eval o).run P w=.ok (.value (.func (.func f) #[] (ss.map fun s=>a.tmps.getD s undef).toArray)) w:=by
      unfold execOp;simp only[hop];refine run_v ?_;rw[← hcl,show (captured.toList.map a.eval).toArray=captured.map a.eval by apply Array.ext';simp];simp[Instr.makeFunc,yu]
     have hnr:=h.putV (v:=.clom f ss) hd ((h.rsweep d).put hd (.clom _ _ _) (fun _ _ _ e=>by cases e) (fun _ _ e=>by cases e) (fun _ _ _ e=>by cases e) (fun _ e=>by cases e) (fun _ _ e=>by cases e) (fun _ _ e=>by cases e) (fun _ _ e=>by cases e) (fun _ e=>by cases e) (fun _ _ e=>by cases e)
      (fun f' ss' e=>by cases e;exact⟨fun hm=>hne (List.contains_iff_mem.2 hm),rfl⟩)) rfl (fun _ _ e=>by cases e) (fun _ _ e=>by cases e)
     exact qh.value hrun ⟨by rw[qg,hn],S,_,by rw[hdst];exact hnr,Keeps.refl w S,fun hf=>hf.elim⟩
   ·cases he
  ·cases he
 ·
  rename_i t x hop;split at he
  ·rename_i s f b r hr;simp only[ya] at he;split at he
   ·cases he
   rename_i hne;simp only[ya,yb,true_and] at he;subst he;rw[← hn] at hr;obtain⟨y,rfl,hy,ht,hR⟩:=h.refV hr;have hu:=hR.clo ht;obtain⟨cv,_,hcv⟩:=hu;have hone:∃ fn c1 c2,tv gv a y=.func fn c1 c2:=by
    rw[hcv];cases b <;> exact⟨_,_,_,rfl⟩
   obtain⟨fn,c1,c2,hfv⟩:=hone;have hcells:(tv gv a y).cells = #[tv gv a y]:=by rw[hfv];rfl
   have hrun:(execOp a.eval o).run P w=.ok (.value (.pointer (some ⟨w.heap.size,0,none⟩))) (w.alloc (.cells #[tv gv a y] t)):=by
    unfold execOp;simp only[hop];refine run_v ?_;rw[← qE gv a y hy];simp[Instr.box,newVar,newRow,hcells]
   have hheap:(w.alloc (.cells #[tv gv a y] t)).heap[w.heap.size]? = some (.cells #[tv gv a y] t (0,0)):=heap_alloc_new w _;have hbel:=qK w (.cells #[tv gv a y] t);have hsz:(w.alloc (.cells #[tv gv a y] t)).heap.size=w.heap.size+1:=by simp
   have g:Grew w S (w.alloc (.cells #[tv gv a y] t)) (fun k j=>S k j∨(k=w.heap.size∧j=0)) :=
    ⟨hbel,fun k j hk=>⟨fun hs=>hs.elim id (fun hh=>absurd hh.1 (by omega)),.inl⟩,fun k j hs=>by
     rcases hs with hs | hs
     ·have:=h.r.slt k j hs;omega
     ·omega⟩
   have hkeep:=g.keeps h.r.slt;have hRt:=(hR.step hkeep (fun k hk=>hbel.block k (h.lt hk))).up (st:=.cel) (u':=.pointer (some ⟨w.heap.size,0,none⟩)) ht ht (fun y' hy'=>⟨_,w.heap.size,hy',rfl,.inr ⟨rfl,rfl⟩,by simp only[World.cell?,hheap,Option.isSome_none,yq,if_false];rfl⟩);have hnr:=h.putV (v:=.padr s (.cel :: .clo f b :: r)) hd (((h.rsweep d).grow g).put_plain hd (.padr _ _ _) rfl) rfl (fun s' r' e=>by cases e;exact⟨hne,hRt⟩) (fun s' r' e=>by cases e);exact qh.value hrun ⟨by rw[qg,hn],_,_,by rw[hdst];exact hnr,hkeep,fun hf=>hf.elim⟩
  ·cases he
 ·
  rename_i t x hop;split at he
  ·rename_i s f b r hr;simp only[ya] at he;split at he
   ·cases he
   rename_i hc;rw[not_or,ne_eq,Classical.not_not] at hc;simp only[ya,yb,true_and] at he;subst he;rw[← hn] at hr;obtain⟨y,rfl,hy,ht,hR⟩:=h.refV hr;obtain⟨u0,g,e1,e2,hR'⟩:=hR.down;obtain⟨ps,rs,vb,hun⟩:=hM t hc.2;have hrun:(execOp a.eval o).run P w=.ok (.value u0) w:=by
    unfold execOp;simp only[hop];refine run_v ?_;rw[← qE gv a y hy,e1];unfold Instr.loadAt Instr.sureAddr;simp only[yh,yu,ye,loadVar,isAgg,yr hun,yq,if_false];simp[e2]
   have hnr:=h.putPlain (v:=.padr s (.clo f b :: r)) hd (.padr _ _ _) rfl rfl (fun s' r' e=>by cases e;exact⟨hc.1,hR'⟩) (fun s' r' e=>by cases e);exact qh.value hrun ⟨by rw[qg,hn],S,_,by rw[hdst];exact hnr,Keeps.refl w S,fun hf=>hf.elim⟩
  ·cases he
 ·cases he
theorem qop (h:rootV fr s=some ρ):fr s=ρ∧ρ.isRoot=true∧qZ ρ=some ([],ρ):=by
 unfold rootV at h;split at h
 ·rename_i p z e;cases h;exact⟨e,rfl,rfl⟩
 ·rename_i t V z e;cases h;exact⟨e,rfl,rfl⟩
 ·cases h
theorem qvB (h:rootV fr s=some ρ) (hw:wrapR r ρ=some av):qZ av=some (r,ρ):=by
 unfold rootV at h;unfold wrapR at hw;split at hw
 ·simp only[ya] at hw;subst hw;split at h <;> first | (cases h;rfl) | cases h
 ·simp only[ya] at hw;subst hw;split at h <;> first | (cases h;rfl) | cases h
 ·simp only[ya] at hw;subst hw;simp[qZ]
 ·simp only[ya] at hw;subst hw;simp[qZ]
 ·cases hw
def ArgIs (w:World) (S:qa) (fr:Fr) (gv:Nat→Value) (a:Act) (v:Value) (av:AV):Option Nat→Prop
 | none=>Rd w S v av∧qZ av=none
 | some s=>∃ r ρ,rootV fr s=some ρ∧qZ av=some (r,ρ)∧cloV w S r (tv gv a s) v
theorem qNj (hn:a.tmps.size=E.nt) (h:RP P base w0 S0 S fr gv a w F) {s:Option Nat} (he:argM E fr t x=some (true,av,s)):ArgIs w S fr gv a (a.eval x) av s:=by
 unfold argM at he;split at he
 ·rename_i s' r hr;split at he
  ·rename_i ρ hρ;split at he
   ·rename_i av' hw;simp only[ya,yb,true_and] at he;obtain⟨rfl,rfl⟩:=he;rw[← hn] at hr;obtain⟨y,rfl,hy,ht,hR⟩:=h.refV hr;refine⟨r,ρ,hρ,qvB hρ hw,?_⟩;rw[← qE gv a y hy];exact hR.clo ht
   ·cases he
  ·cases he
 ·cases hx:rdo E.toEnv fr true t x with
  | mk ok v =>
   rw[hx] at he;simp only at he;split at he
   ·cases he
   ·rename_i hno;simp only[ya,yb] at he;obtain⟨rfl,rfl,rfl⟩:=he;exact⟨(qt h.r hx).1.strip,by simpa using hno⟩
theorem qoq (hn:a.tmps.size=E.nt) (h:RP P base w0 S0 S fr gv a w F):∀ (xs:List Operand) (ts:List TypeId) (avs:List AV) (ss:List (Option Nat)),xs.length=ts.length→argsM E fr xs ts=some (true,avs,ss) →
 xs.length=avs.length∧avs.length=ss.length∧∀ (i:Nat) (v:Value) (av:AV) (s:Option Nat),(xs.map a.eval)[i]? = some v→avs[i]? = some av→ss[i]? = some s→ArgIs w S fr gv a v av s
 | [],[],avs,ss,_,he=>by
  simp only[argsM,ya,yb,true_and] at he;obtain⟨rfl,rfl⟩:=he;exact⟨rfl,rfl,fun i v av s hv=>by simp at hv⟩
 | x :: xs,t :: ts,avs,ss,hl,he=>by
  simp only[argsM] at he;split at he
  ·rename_i ok v s oks vs ss' h1 h2;simp only[ya,yb,yf] at he;obtain⟨⟨rfl,rfl⟩,rfl,rfl⟩:=he;obtain⟨k1,k2,k3⟩:=qoq hn h xs ts vs ss' (by simpa using hl) h2;refine⟨by simp[k1],by simp[k2],fun i v' av s' hv hav hs=>?_⟩;cases i with
   | zero =>
    simp only[yI,y3,ya] at hv hav hs;subst hv hav hs;exact qNj hn h h1
   | succ i =>
    simp only[yI,yZ] at hv hav hs;exact k3 i v' av s' hv hav hs
  ·cases he
 | [],_ :: _,_,_,hl,_=>by simp at hl
 | _ :: _,[],_,_,hl,_=>by simp at hl
theorem qlZ:∀ (ss:List (Option Nat)) (k i s:Nat),qmj k ss=some (i,s)→∃ j,i=k+j∧ss[j]? = some (some s)∧∀ j' x,j'≠j→ss[j']? = some x→x=none
 | [],k,i,s,h=>by cases h
 | none :: l,k,i,s,h=>by
  obtain⟨j,e,h1,h2⟩:=qlZ l (k+1) i s h;refine⟨j+1,by omega,by simpa using h1,fun j' x hj hx=>?_⟩;cases j' with
  | zero=>simpa using hx.symm
  | succ j'=>exact h2 j' x (by omega) (by simpa using hx)
 | some s' :: l,k,i,s,h=>by
  simp only[qmj] at h;split at h
  ·rename_i hall;simp only[ya,yb] at h;obtain⟨rfl,rfl⟩:=h;refine⟨0,rfl,rfl,fun j' x hj hx=>?_⟩;cases j' with
   | zero=>exact absurd rfl hj
   | succ j' =>
    have hm:=List.mem_of_getElem? (show l[j']? = some x by simpa using hx);have:=List.all_eq_true.1 hall x hm;simpa using this
  ·cases h
theorem qie {v:AV} (h:v.simple=true):v.plain=true∧v.isPriv=false:=by
 cases v with
 | dat s x o=>cases o <;> first | exact⟨rfl,rfl⟩ | cases h
 | _=>first | exact⟨rfl,rfl⟩ | cases h
theorem RP.callsM (hn:a.tmps.size=E.nt) (h:RP P base w0 S0 S fr gv a w F) (hS:qdk P f sp w S) {ss:List (Option Nat)}
 (hrun:(execOp a.eval o).run P w=(callFunc f vals.toArray).run P w) (hl1:vals.length=avs.length) (hl2:avs.length=ss.length) (hargs:∀ (i:Nat) (v:Value) (av:AV) (s:Option Nat),vals[i]? = some v→avs[i]? = some av→ss[i]? = some s→ArgIs w S fr gv a v av s)
 {r:AV} (hsp:sp avs=(true,.tup (r :: gs))) {i:Nat} (hone:qmj 0 ss=some (i,s)) (hsame:qz (fr s) (gs.getD i .bad)=true) 
 (hfr:(o.dst=none∧fr'=fr.turnR s (gs.getD i .bad))∨∃ d,o.dst=some d∧d < a.tmps.size∧s≠d∧r.simple=true∧fr'=(fr.turnR s (gs.getD i .bad)).putP d r) :
 qh P o a w (PPost P base w0 S0 E.nt gv w S F False fr'):=by
 obtain⟨j,e,hj,hothers⟩:=qlZ ss 0 i s hone;obtain rfl:i=j:=by omega
 obtain⟨_,hgr,hsr⟩:=qS hsame;have hroot:=h.root s hsr;have hlt:i < ss.length:=(List.getElem?_eq_some_iff.1 hj).1;obtain⟨rr,ρ,q1,q2,q3⟩:=hargs i vals[i] avs[i] (some s) (yO (by omega)) (yO (by omega)) hj;obtain⟨q4,_,_⟩:=qop q1;have key:∀ v w',(∃ (S':qa) (F':Nat→Nat→Prop),TurnedBut (fun b=>∃ k,k=i∧F s b) w S w' S'∧Rd w' S' v r ∧
  (∀ k v av,vals[k]? = some v→avs[k]? = some av→OutM P w' S' v av (gs.getD k .bad) (F' k))∧(∀ k b,F' k b→(∃ j,j=i∧F s b)∨w.heap.size≤b)∧∀ k j b,k≠j→F' k b→¬ F' j b) →
  PPost P base w0 S0 E.nt gv w S F False fr' (a.put o.dst v) w':=fun v w' ⟨S',F',k1,k2,k3,k4,k5⟩=>by
  have hout:=k3 i vals[i] avs[i] (yO (by omega)) (yO (by omega));unfold OutM at hout;rw[q2] at hout;obtain⟨y,m1,m2⟩:=hout;have hX:(fun b=>∃ k,k=i∧F s b)=F s:=funext fun b=>propext ⟨fun ⟨_,_,hh⟩=>hh,fun hh=>⟨i,rfl,hh⟩⟩;rw[hX] at k1;obtain rfl:=qid _ _ _ _ m1 (cloV.keeps k1.keeps _ _ _ q3);have hR:=h.calledM k1 hsame m2 (fun b hb=>(k4 i b hb).imp (fun ⟨_,_,hh⟩=>hh) id);rcases hfr with ⟨hd,rfl⟩ | ⟨d,hd,hdl,hsd,hsi,rfl⟩
  ·rw[hd];exact⟨hn,S',_,hR,k1.keeps,fun hf=>hf.elim⟩
  ·rw[hd];obtain⟨p1,p2⟩:=qie hsi;exact⟨by rw[qg,hn],S',_,hR.putDat hdl k2 p1 p2,k1.keeps,fun hf=>hf.elim⟩
 have hran:=hS vals avs r gs (fun k b=>k=i∧F s b) hsp h.r.slt hl1 (fun k v av hv hav=>?_) (fun k b hk hh=>by omega) (fun k j b hne h1 h2=>hne (h1.1.trans h2.1.symm))
 ·rcases hran with ⟨h1,h2⟩ | ⟨v,w',h1,h2⟩
  ·exact qh.enter (hrun.trans h1) (h2.mono fun e w' ⟨v,he,hp⟩=>⟨v,he,key v w' hp⟩)
  ·exact qh.value (hrun.trans h1) (key v w' h2)
 ·have hk:k < ss.length:=by have:=(List.getElem?_eq_some_iff.1 hav).1;omega
  have ha:=hargs k v av ss[k] hv hav (yO hk);unfold ArgM
  by_cases e:k=i
  ·subst e;obtain⟨hlt',e1⟩:=List.getElem?_eq_some_iff.1 hj;rw[e1] at ha;obtain⟨r1,ρ1,m1,m2,m3⟩:=ha;obtain⟨m4,_,_⟩:=qop m1;rw[m2];refine⟨tv gv a s,m3,?_⟩;rw[← m4];have hX:(fun b=>k=k∧F s b)=F s:=funext fun b=>propext ⟨(·.2),fun hh=>⟨rfl,hh⟩⟩;rw[hX];exact hroot
  ·have:=hothers k ss[k] e (yO hk);rw[this] at ha;obtain⟨m1,m2⟩:=ha;rw[m2];exact⟨m1,fun b hb=>e hb.1⟩
theorem qBo (hn:a.tmps.size=E.nt) (h:RP P base w0 S0 S fr gv a w F) (hF:EnvOk P E w S) (hdst:o.dst=dd) (hd:∀ d,dd=some d→d < a.tmps.size) (he:qIQ E fr o dd=some (some (true,fr'))) :
 qh P o a w (PPost P base w0 S0 E.nt gv w S F False fr'):=by
 subst hdst;unfold qIQ at he;split at he
 ·rename_i c hop;obtain⟨callee,args,argTypes⟩:=c;split at he
  ·cases he
  ·rename_i f ex hcal;split at he
   ·cases he
   ·rename_i sp hsp;simp only[ya] at he;split at he
    ·cases he
    ·rename_i oks avs ss hall;split at he
     ·rename_i pre r gs i s hspec hone;split at he
      ·rename_i hc;obtain⟨hsame,hsz⟩:=hc;have hfin:oks=true∧pre=true∧((o.dst=none∧fr'=fr.turnR s (gs.getD i .bad))∨∃ d,o.dst=some d∧d < a.tmps.size∧s≠d∧r.simple=true∧fr'=(fr.turnR s (gs.getD i .bad)).putP d r):=by
        split at he
        ·rename_i hd0;simp only[ya,yb,yf] at he;obtain⟨⟨h1,h2⟩,h3⟩:=he;exact⟨h1,h2,.inl ⟨hd0,h3.symm⟩⟩
        ·rename_i d hd0;split at he
         ·cases he
         ·rename_i hno;rw[not_or] at hno;simp only[ya,yb,yf] at he;obtain⟨⟨h1,h2⟩,h3⟩:=he;exact⟨h1,h2,.inr ⟨d,hd0,hd d hd0,hno.1,by simpa using hno.2,h3.symm⟩⟩
       obtain⟨rfl,rfl,hfr⟩:=hfin;unfold allM at hall;split at hall
       ·rename_i oks avs0 ss0 hargs;have hok:oks=true:=by
         split at hall
         ·simp only[ya,yb] at hall;exact hall.1
         ·split at hall
          ·split at hall
           ·split at hall
            ·split at hall <;> (simp only[ya,yb] at hall;exact hall.1)
            ·cases hall
           ·cases hall
          ·cases hall
        subst hok;obtain⟨l1,l2,l3⟩:=qoq hn h _ _ _ _ (by simpa using hsz) hargs;cases ex with
        | none =>
         simp only[ya,yb,true_and] at hall;obtain⟨rfl,rfl⟩:=hall;have hcf:callee=.value (.func f):=by
          unfold qvS at hcal;split at hcal
          ·rename_i f' hce;simp only[ya,yb,and_true] at hcal;rw[← hcal];exact hce
          ·split at hcal <;> simp at hcal
          ·cases hcal
         subst hcf;refine h.callsM hn (hF.2.2.1 f sp hsp) (vals:=args.toList.map a.eval) ?_ (by simpa using l1) l2 l3 hspec hone hsame hfr;have e1:args.map a.eval=(args.toList.map a.eval).toArray:=by apply Array.ext';simp
         simp only[execOp,hop,resolve,yh,Deferred.ofValue,Act.eval,yu,ye,invoke,Array.append_empty,Array.empty_append,e1]
        | some ex =>
         obtain⟨b,x,rc⟩:=ex;simp only at hall;unfold qvS at hcal;split at hcal
         ·simp at hcal
         ·rename_i y hce;simp only at hce;subst hce;split at hcal
          ·rename_i s1 f1 b1 r1 hr;simp only[ya,yb] at hcal;obtain⟨rfl,rfl,rfl,rfl⟩:=hcal;rw[hr] at hall;simp only at hall;split at hall
           ·rename_i ρ hρ;split at hall
            ·rename_i av hw;rw[← hn] at hr;obtain⟨y',ey,hy,ht,hR⟩:=h.refV hr;obtain rfl:y=y':=by simpa using ey
             obtain⟨v,hv1,hv2⟩:=hR.clo ht;rw[qE gv a y hy] at hv2;have hex:ArgIs w S fr gv a v av (some s1):=⟨r1,ρ,hρ,qvB hρ hw,hv1⟩;have e1:args.map a.eval=(args.toList.map a.eval).toArray:=by apply Array.ext';simp
             cases b1 with
             | true =>
              simp only[if_true,ya,yb,true_and] at hall hv2;obtain⟨rfl,rfl⟩:=hall;refine h.callsM hn (hF.2.2.1 f1 sp hsp) (vals:=v :: args.toList.map a.eval) ?_ (by simpa using l1) (by simpa using l2) (fun k v' av' s' m1 m2 m3=>?_) hspec hone hsame hfr
              ·simp only[execOp,hop,resolve,yh,hv2,Deferred.ofValue,yu,ye,invoke,Array.append_empty,e1];congr 2;apply Array.ext';simp
              ·cases k with
               | zero =>
                simp only[y3,ya] at m1 m2 m3;subst m1 m2 m3;exact hex
               | succ k =>
                simp only[yZ] at m1 m2 m3;exact l3 k v' av' s' m1 m2 m3
             | false =>
              simp only[yq,if_false,ya,yb,true_and] at hall hv2;obtain⟨rfl,rfl⟩:=hall;refine h.callsM hn (hF.2.2.1 f1 sp hsp) (vals:=args.toList.map a.eval++[v]) ?_ (by simpa using l1) (by simpa using l2) (fun k v' av' s' m1 m2 m3=>?_) hspec hone hsame hfr
              ·simp only[execOp,hop,resolve,yh,hv2,Deferred.ofValue,yu,ye,invoke,Array.empty_append,e1];congr 2;apply Array.ext';simp
              ·have hla:(args.toList.map a.eval).length=avs0.length:=by simpa using l1
               rcases Nat.lt_trichotomy k avs0.length with hk | hk | hk
               ·rw[yM (by omega)] at m1 m2 m3;exact l3 k v' av' s' m1 m2 m3
               ·subst hk;rw[yN (by omega)] at m1 m2 m3;rw[hla,Nat.sub_self] at m1;rw[Nat.sub_self] at m2;rw[l2,Nat.sub_self] at m3;simp only[y3,ya] at m1 m2 m3;subst m1 m2 m3;exact hex
               ·have:=(List.getElem?_eq_some_iff.1 m2).1;simp at this;omega
            ·cases hall
           ·cases hall
          ·cases hcal
         ·cases hcal
       ·cases hall
      ·cases he
     ·cases he
 ·cases he
theorem RP.calledAll (h:RP P base w0 S0 S fr gv a w F) {T:Nat→Bool} {G:Nat→Nat→Prop} (ht:TurnedBut (fun b=>∃ t,T t=true∧F t b) w S w' S')
 (hT:∀ t,T t=true→(fr t).isRoot=true) (hT1:∀ t,T t=true→(fr' t).isRoot=true→qz (fr t) (fr' t)=true∧RootAny P w' S' (G t) (fr' t) (tv gv a t))
 (hT0:∀ t,T t=true→(fr' t).isRoot=false→fr' t=.bad∧∀ b,¬ G t b) (hfr:∀ t,T t=false→fr' t=fr t∨((fr t).isRef=true∧fr' t=.bad))
 (hadr:∀ t s r,fr' t=.padr s r→fr t=.padr s r∧(T s=true→qaS r=true∧(fr' s).isRoot=true)) (hval:∀ t s r,fr' t=.pval s r→fr t=.pval s r∧T s=false)
 (hGd:∀ t t' b,T t=true→T t'=true→t≠t'→G t b→¬ G t' b) (hGs:∀ t b,T t=true→G t b→(∃ t',T t'=true∧F t' b)∨w.heap.size≤b) (hGl:∀ t b,T t=true→G t b→b < w'.heap.size) :
 RP P base w0 S0 S' fr' gv a w' (fun t b=>(T t=true∧G t b)∨(T t=false∧F t b)):=by
 have hrv:∀ v:AV,v.isRef=true→v.vague=true:=fun v hv=>qfM hv;have hor:∀ t,fr' t=fr t∨((fr t).vague=true∧(fr' t).vague=true):=fun t=>by
  cases e:T t with
  | true =>
   cases hr:(fr' t).isRoot with
   | true=>exact .inr ⟨qu (hT t e),qu hr⟩
   | false=>exact .inr ⟨qu (hT t e),by rw[(hT0 t e hr).1];rfl⟩
  | false =>
   rcases hfr t e with h1 | ⟨h1,h2⟩
   ·exact .inl h1
   ·exact .inr ⟨hrv _ h1,by rw[h2];rfl⟩
 have hR0:=h.r.repriv hor;have hlab:∀ t l e b,(fr' t).lab=some (l,e)→(a.tmps.getD t undef).ownBlock=some b→¬ ∃ s,T s=true∧F s b:=fun t l e b hl hb ⟨s,_,hF⟩=>by
  have h1:=hR0.cp t l e hl;have h2:(fr' l).lab=some (l,e):=by rw[h1.1];exact hl
  rw[← h1.2] at hb;exact hR0.lab_base h2 hb (.inr ⟨s,hF⟩)
 have hbox:∀ t u (x:Den u) b,fr' t=.box u x→a.tmps.getD t undef=.pointer (some ⟨b,0,none⟩)→¬ ∃ s,T s=true∧F s b:=fun t u x b hl hb ⟨s,_,hF⟩=>by
  obtain⟨b',k1,k2⟩:=hR0.box t u x hl;rw[hb] at k2;simp only[Value.pointer.injEq,ya,Addr.mk.injEq,and_true] at k2;subst k2;exact k1.1 (.inr ⟨s,hF⟩)
 have hR1:=(hR0.rebase (b2:=fun k=>base k∨∃ t,T t=false∧F t k) (fun k hk=>hk.imp id (fun ⟨t,ht⟩=>⟨t,ht.2⟩))).turnedSet ht
  (fun k hk ⟨s,h3,h4⟩=>hk.elim (fun hB=>h.nb s k h4 hB) (fun ⟨t,h1,h2⟩=>h.dj t s k (fun e=>by subst e;rw[h1] at h3;cases h3) h2 h4)) hlab hbox
 have hR2:=(hR1.rebase (fun k hk=>hk)).widen (X:=fun b=>∃ t,T t=true∧G t b) (fun k ⟨t,h1,h2⟩=>hGl t k h1 h2)
  (fun t l e b hl hb ⟨s,h1,hX⟩=>by
   rcases hGs s b h1 hX with hF | hF
   ·exact hlab t l e b hl hb hF
   ·have h1:=hR0.cp t l e hl;have h2:(fr' l).lab=some (l,e):=by rw[h1.1];exact hl
    rw[← h1.2] at hb;have:=hR0.own_lt h2 hb;omega)
  (fun t u x b hl hb ⟨s,h1,hX⟩=>by
   rcases hGs s b h1 hX with hF | hF
   ·exact hbox t u x b hl hb hF
   ·have:=hR0.box_lt hl hb;omega)
 have hrest:∀ t b,T t=false→F t b→¬ ∃ s,T s=true∧F s b:=fun t b h1 h2 ⟨s,h3,hF⟩=>h.dj t s b (fun e=>by subst e;rw[h1] at h3;cases h3) h2 hF;have nf:∀ t,¬ T t=true→T t=false:=fun t ht=>by simpa using ht
 have eG:∀ t,T t=true→(fun b=>(T t=true∧G t b)∨(T t=false∧F t b))=G t:=fun t ht=>funext fun b=>propext ⟨fun hh=>hh.elim (·.2) (fun hh=>by rw[ht] at hh;cases hh.1),fun hh=>.inl ⟨ht,hh⟩⟩;refine h.upd (fun t=>T t=true) (hR2.rebase (fun k hk=>?_)) ⟨ht.kept.os,ht.kept.tape,ht.kept.output,ht.kept.size,fun k hk=>ht.kept.block k ⟨h.base_le hk,fun ⟨s,_,hF⟩=>h.nb s k hF hk⟩⟩ (fun b o hB=>ht.old b o (h.base_le hB) (fun ⟨s,_,hF⟩=>h.nb s b hF hB)) ht.keeps
  (fun t hts b=>⟨fun hh=>hh.elim (fun hh=>absurd hh.1 hts) (·.2),fun hh=>.inr ⟨nf t hts,hh⟩⟩) (fun t b hts hb=>ht.kept.block b ⟨h.lt hb,hrest t b (nf t hts) hb⟩) (fun t b o hts hb=>ht.old b o (h.lt hb) (hrest t b (nf t hts) hb))
  (fun t hts=>?_) (fun t b hts hb=>?_) (fun t t' b hts hne hb hb'=>?_) (fun t hts hr' b hb=>?_) (fun t hts hr'=>?_) (fun t s' r hh=>?_) (fun t s' r hh=>?_)
 ·rcases hk with hk | ⟨t,⟨h1,hk⟩ | ⟨h1,hk⟩⟩
  ·exact .inl (.inl hk)
  ·exact .inr ⟨t,h1,hk⟩
  ·exact .inl (.inr ⟨t,h1,hk⟩)
 ·rcases hfr t (nf t hts) with h1 | ⟨h1,h2⟩
  ·rw[h1];exact⟨rfl,fun _=>⟨rfl,rfl⟩⟩
  ·have h3:(fr t).isRoot=false:=by generalize fr t=v at h1;cases v <;> first | rfl | cases h1
   rw[h2,h3];exact⟨rfl,fun hh=>by cases hh⟩
 ·rcases hb with hb | hb
  ·rcases hGs t b hts hb.2 with ⟨s,_,hF⟩ | hF
   ·exact h.nb s b hF
   ·intro hB;have:=h.base_le hB;omega
  ·rw[hts] at hb;cases hb.1
 ·rcases hb with hb | hb
  ·rcases hb' with hb' | hb'
   ·exact hGd t t' b hts hb'.1 hne hb.2 hb'.2
   ·rcases hGs t b hts hb.2 with ⟨s,h1,hF⟩ | hF
    ·exact hrest t' b hb'.1 hb'.2 ⟨s,h1,hF⟩
    ·have:=h.lt hb'.2;omega
  ·rw[hts] at hb;cases hb.1
 ·rcases hb with hb | hb
  ·exact(hT0 t hts hr').2 b hb.2
  ·rw[hts] at hb;cases hb.1
 ·rw[eG t hts];exact(hT1 t hts hr').2
 ·obtain⟨e1,e2⟩:=hadr t s' r hh
  by_cases hs:T s'=true
  ·right;obtain⟨e3,e4⟩:=e2 hs;rw[eG s' hs];obtain⟨e5,e6⟩:=hT1 s' hs e4;exact(h.adr t s' r e1).turned ht.keeps e3 e5 e6
  ·exact .inl ⟨hs,e1,rfl⟩
 ·obtain⟨e1,e2⟩:=hval t s' r hh;exact .inl ⟨by rw[e2];simp,e1,rfl⟩
theorem qqP:∀ (ss:List Nat) (gs:List AV) (t:Nat) (g:AV),noDup ss=true→ss.length≤gs.length→(lookA (ss.zip gs) t=some g↔∃ i,ss[i]? = some t∧gs.getD i .bad=g)
 | [],gs,t,g,_,_=>by simp[lookA]
 | s :: l,[],t,g,_,hl=>by simp at hl
 | s :: l,g0 :: gs,t,g,hn,hl=>by
  simp only[noDup,yf] at hn;have hns:s ∉ l:=fun hm=>by simp[List.contains_iff_mem.2 hm] at hn;exact hn.1 hm
  rw[List.zip_cons_cons];unfold lookA
  by_cases e:t=s
  ·rw[if_pos e];constructor
   ·intro h;exact⟨0,by simp[e],by simpa using h⟩
   ·rintro⟨i,h1,h2⟩;cases i with
    | zero=>simpa using h2
    | succ i =>
     exfalso;simp only[yZ] at h1;exact hns (by rw[← e];exact List.mem_of_getElem? h1)
  ·rw[if_neg e,qqP l gs t g hn.2 (by simpa using hl)];constructor
   ·rintro⟨i,h1,h2⟩;exact⟨i+1,by simpa using h1,by simpa using h2⟩
   ·rintro⟨i,h1,h2⟩;cases i with
    | zero=>simp at h1;exact absurd h1.symm e
    | succ i=>exact⟨i,by simpa using h1,by simpa using h2⟩
theorem qqQ:∀ (ss:List Nat) (i j s:Nat),noDup ss=true→ss[i]? = some s→ss[j]? = some s→i=j
 | [],i,j,s,_,h,_=>by simp at h
 | x :: l,i,j,s,hn,h1,h2=>by
  simp only[noDup,yf] at hn;have hns:x ∉ l:=fun hm=>by simp[List.contains_iff_mem.2 hm] at hn;exact hn.1 hm
  cases i with
  | zero =>
   cases j with
   | zero=>rfl
   | succ j =>
    simp only[y3,ya,yZ] at h1 h2;exact absurd (by rw[h1];exact List.mem_of_getElem? h2) hns
  | succ i =>
   cases j with
   | zero =>
    simp only[y3,ya,yZ] at h1 h2;exact absurd (by rw[h2];exact List.mem_of_getElem? h1) hns
   | succ j =>
    simp only[yZ] at h1 h2;rw[qqQ l i j s hn.2 h1 h2]
theorem qqR:∀ (ss:List Nat) (ρs:List AV),qvT fr ss=some ρs→ρs.length=ss.length∧∀ (i s:Nat),ss[i]? = some s→rootV fr s=ρs[i]?
 | [],ρs,h=>by
  simp only[qvT,ya] at h;subst h;exact⟨rfl,fun i s hs=>by simp at hs⟩
 | s :: l,ρs,h=>by
  simp only[qvT] at h;split at h
  ·rename_i v r h1 h2;simp only[ya] at h;subst h;obtain⟨k1,k2⟩:=qqR l r h2;refine⟨by simp[k1],fun i s' hs=>?_⟩;cases i with
   | zero =>
    simp only[y3,ya] at hs;subst hs;simpa using h1
   | succ i=>simpa using k2 i s' (by simpa using hs)
  ·cases h
theorem qif:∀ (ss:List Nat) (gs:List AV),qeU fr ss gs=true→ss.length≤gs.length∧∀ (i s:Nat),ss[i]? = some s→qz (fr s) (gs.getD i .bad)=true
 | [],gs,_=>⟨Nat.zero_le _,fun i s hs=>by simp at hs⟩
 | s :: l,[],h=>by simp[qeU] at h
 | s :: l,g :: gs,h=>by
  simp only[qeU,yf] at h;obtain⟨k1,k2⟩:=qif l gs h.2;refine⟨by simpa using k1,fun i s' hs=>?_⟩;cases i with
  | zero =>
   simp only[y3,ya] at hs;subst hs;simpa using h.1
  | succ i=>simpa using k2 i s' (by simpa using hs)
theorem qkG (l:List (Nat×AV)) (t:Nat):fr.turnL l t=match lookA l t with
 | some g=>g
 | none=>match fr t with
  | .padr s r=>match lookA l s with
   | some _=>if qaS r then .padr s r else .bad
   | none=>.padr s r
  | .pval s r=>match lookA l s with
   | some _=>.bad
   | none=>.pval s r
  | v=>v:=rfl
theorem RP.callsMs (hn:a.tmps.size=E.nt) (h:RP P base w0 S0 S fr gv a w F) (hS:qdk P f sp w S) {ss:List (Option Nat)}
 (hrun:(execOp a.eval o).run P w=(callFunc f vals.toArray).run P w) (hl1:vals.length=avs.length) (hl2:avs.length=ss.length) (hargs:∀ (i:Nat) (v:Value) (av:AV) (s:Option Nat),vals[i]? = some v→avs[i]? = some av→ss[i]? = some s→ArgIs w S fr gv a v av s)
 {r:AV} (hsp:sp avs=(true,.tup (r :: gs))) (hinj:∀ (i j s:Nat),ss[i]? = some (some s)→ss[j]? = some (some s)→i=j) (hsame:∀ (i s:Nat),ss[i]? = some (some s)→qz (fr s) (gs.getD i .bad)=true)
 {l:List (Nat×AV)} (hl:∀ t g,lookA l t=some g↔∃ i,ss[i]? = some (some t)∧gs.getD i .bad=g) 
 (hfr:(o.dst=none∧fr'=fr.turnL l)∨∃ d,o.dst=some d∧d < a.tmps.size∧r.simple=true∧fr'=(fr.turnL l).putP d r) :
 qh P o a w (PPost P base w0 S0 E.nt gv w S F False fr'):=by
 have hroot:∀ (i s:Nat),ss[i]? = some (some s)→(fr s).isRoot=true:=fun i s hi=>(qS (hsame i s hi)).2.2;have hlk:∀ t,(lookA l t).isSome=true↔∃ i:Nat,ss[i]? = some (some t):=fun t=>by
  rw[Option.isSome_iff_exists];constructor
  ·rintro⟨g,hg⟩;obtain⟨i,h1,_⟩:=(hl t g).1 hg;exact⟨i,h1⟩
  ·rintro⟨i,hi⟩;exact⟨_,(hl t _).2 ⟨i,hi,rfl⟩⟩
 have key:∀ v w',(∃ (S':qa) (F':Nat→Nat→Prop),TurnedBut (fun b=>∃ i:Nat,∃ s,ss[i]? = some (some s)∧F s b) w S w' S'∧Rd w' S' v r ∧
  (∀ k v av,vals[k]? = some v→avs[k]? = some av→OutM P w' S' v av (gs.getD k .bad) (F' k))∧(∀ k b,F' k b→(∃ j:Nat,∃ s,ss[j]? = some (some s)∧F s b)∨w.heap.size≤b)∧∀ k j b,k≠j→F' k b→¬ F' j b) →
  PPost P base w0 S0 E.nt gv w S F False fr' (a.put o.dst v) w':=fun v w' ⟨S',F',k1,k2,k3,k4,k5⟩=>by
  have hX:(fun b=>∃ t,(lookA l t).isSome=true∧F t b)=fun b=>∃ i:Nat,∃ s,ss[i]? = some (some s)∧F s b:=funext fun b=>propext
   ⟨fun ⟨t,h1,h2⟩=>by obtain⟨i,hi⟩:=(hlk t).1 h1;exact⟨i,t,hi,h2⟩,fun ⟨i,s,h1,h2⟩=>⟨s,(hlk s).2 ⟨i,h1⟩,h2⟩⟩
  have hout:∀ (i s:Nat),ss[i]? = some (some s)→RootAny P w' S' (F' i) (gs.getD i .bad) (tv gv a s):=fun i s hi=>by
   have hlt:=(List.getElem?_eq_some_iff.1 hi).1;obtain⟨rr,ρ,q1,q2,q3⟩:=hargs i vals[i] avs[i] (some s) (yO (by omega)) (yO (by omega)) hi;have ho:=k3 i vals[i] avs[i] (yO (by omega)) (yO (by omega));unfold OutM at ho;rw[q2] at ho;obtain⟨y,m1,m2⟩:=ho;obtain rfl:=qid _ _ _ _ m1 (cloV.keeps k1.keeps _ _ _ q3);exact m2
  have hat:∀ t,(lookA l t).isSome=true→∃ i:Nat,ss[i]? = some (some t)∧fr.turnL l t=gs.getD i .bad:=fun t ht=>by
   obtain⟨g,hg⟩:=Option.isSome_iff_exists.1 ht;obtain⟨i,h1,h2⟩:=(hl t g).1 hg;exact⟨i,h1,by rw[qkG,hg,h2]⟩
  have hR:=h.calledAll (T:=fun t=>(lookA l t).isSome) (fr':=fr.turnL l) (G:=fun t b=>∃ i:Nat,ss[i]? = some (some t)∧F' i b) (by rw[hX];exact k1)
   (fun t ht=>by obtain⟨i,hi⟩:=(hlk t).1 ht;exact hroot i t hi)
   (fun t ht _=>by
    obtain⟨i,hi,e⟩:=hat t ht;have hG:(fun b=>∃ j:Nat,ss[j]? = some (some t)∧F' j b)=F' i:=funext fun b=>propext ⟨fun ⟨j,hj,hb⟩=>by rw[hinj i j t hi hj];exact hb,fun hb=>⟨i,hi,hb⟩⟩;rw[e,hG];exact⟨hsame i t hi,hout i t hi⟩)
   (fun t ht hf=>by
    obtain⟨i,hi,e⟩:=hat t ht;rw[e,(qS (hsame i t hi)).2.1] at hf;cases hf)
   (fun t ht=>by
    have h0:lookA l t=none:=by simpa using ht
    rw[qkG,h0];cases hv:fr t with
    | padr s r =>
     simp only;split
     ·split
      ·exact .inl rfl
      ·exact .inr ⟨rfl,rfl⟩
     ·exact .inl rfl
    | pval s r =>
     simp only;split
     ·exact .inr ⟨rfl,rfl⟩
     ·exact .inl rfl
    | _=>exact .inl rfl)
   (fun t s r ht=>by
    rw[qkG] at ht;split at ht
    ·rename_i g hg;obtain⟨i,h1,h2⟩:=(hl t g).1 hg;have:=(qS (hsame i t h1)).2.1;rw[h2,ht] at this;cases this
    ·cases hv:fr t with
     | padr s' r' =>
      rw[hv] at ht;simp only at ht;split at ht
      ·split at ht
       ·rename_i htop;cases ht;refine⟨rfl,fun hs=>⟨htop,?_⟩⟩;obtain⟨i,hi,e⟩:=hat s hs;rw[e];exact(qS (hsame i s hi)).2.1
       ·cases ht
      ·rename_i hno;cases ht;exact⟨rfl,fun hs=>by rw[hno] at hs;cases hs⟩
     | pval s' r' =>
      rw[hv] at ht;simp only at ht;split at ht <;> cases ht
     | _=>rw[hv] at ht;cases ht)
   (fun t s r ht=>by
    rw[qkG] at ht;split at ht
    ·rename_i g hg;obtain⟨i,h1,h2⟩:=(hl t g).1 hg;have:=(qS (hsame i t h1)).2.1;rw[h2,ht] at this;cases this
    ·cases hv:fr t with
     | padr s' r' =>
      rw[hv] at ht;simp only at ht;split at ht
      ·split at ht <;> cases ht
      ·cases ht
     | pval s' r' =>
      rw[hv] at ht;simp only at ht;split at ht
      ·cases ht
      ·rename_i hno;cases ht;exact⟨rfl,by rw[hno];rfl⟩
     | _=>rw[hv] at ht;cases ht)
   (fun t t' b ht ht' hne ⟨i,hi,hb⟩ ⟨j,hj,hb'⟩=>k5 i j b (fun e=>by subst e;rw[hi] at hj;cases hj;exact hne rfl) hb hb')
   (fun t b ht ⟨i,hi,hb⟩=>(k4 i b hb).imp (fun ⟨j,s,h1,h2⟩=>⟨s,(hlk s).2 ⟨j,h1⟩,h2⟩) id)
   (fun t b ht ⟨i,hi,hb⟩=>(hout i t hi).lt (qS (hsame i t hi)).1 hb)
  rcases hfr with ⟨hd,rfl⟩ | ⟨d,hd,hdl,hsi,rfl⟩
  ·rw[hd];exact⟨hn,S',_,hR,k1.keeps,fun hf=>hf.elim⟩
  ·rw[hd];obtain⟨p1,p2⟩:=qie hsi;exact⟨by rw[qg,hn],S',_,hR.putDat hdl k2 p1 p2,k1.keeps,fun hf=>hf.elim⟩
 have hran:=hS vals avs r gs (fun k b=>∃ s,ss[k]? = some (some s)∧F s b) hsp h.r.slt hl1 (fun k v av hv hav=>?_) (fun k b hk ⟨s,hs,_⟩=>by have:=(List.getElem?_eq_some_iff.1 hs).1;omega)
  (fun k j b hne ⟨s,h1,h2⟩ ⟨s',h3,h4⟩=>h.dj s s' b (fun e=>by subst e;exact hne (hinj k j s h1 h3)) h2 h4)
 ·rcases hran with ⟨h1,h2⟩ | ⟨v,w',h1,h2⟩
  ·exact qh.enter (hrun.trans h1) (h2.mono fun e w' ⟨v,he,hp⟩=>⟨v,he,key v w' hp⟩)
  ·exact qh.value (hrun.trans h1) (key v w' h2)
 ·have hk:k < ss.length:=by have:=(List.getElem?_eq_some_iff.1 hav).1;omega
  have ha:=hargs k v av ss[k] hv hav (yO hk);unfold ArgM;cases hs:ss[k] with
  | none =>
   rw[hs] at ha;obtain⟨m1,m2⟩:=ha;rw[m2];exact⟨m1,fun b ⟨s,h1,_⟩=>by rw[yO hk,hs] at h1;cases h1⟩
  | some s =>
   rw[hs] at ha;obtain⟨r1,ρ1,m1,m2,m3⟩:=ha;obtain⟨m4,_,_⟩:=qop m1;rw[m2];refine⟨tv gv a s,m3,?_⟩;have hks:ss[k]? = some (some s):=by rw[yO hk,hs]
   have hX:(fun b=>∃ s',ss[k]? = some (some s')∧F s' b)=F s:=funext fun b=>propext ⟨fun ⟨s',h1,h2⟩=>by rw[hks] at h1;cases h1;exact h2,fun hh=>⟨s,hks,hh⟩⟩;rw[hX,← m4];exact h.root s (hroot k s hks)
theorem qvC (hn:a.tmps.size=E.nt) (h:RP P base w0 S0 S fr gv a w F) (hF:EnvOk P E w S) (hdst:o.dst=dd) (hd:∀ d,dd=some d→d < a.tmps.size) (he:callM E fr o dd=some (some (true,fr'))) :
 qh P o a w (PPost P base w0 S0 E.nt gv w S F False fr'):=by
 unfold callM at he;split at he
 ·rename_i r hr;obtain rfl:=yp he;exact qBo hn h hF hdst hd hr
 subst hdst;unfold qNu at he;split at he
 ·rename_i c hop;obtain⟨callee,args,argTypes⟩:=c;simp only at he;split at he
  ·rename_i y;split at he
   ·rename_i f ss hy;split at he
    ·cases he
    ·rename_i sp hsp;simp only[ya] at he;split at he
     ·cases he
     rename_i hyn;split at he
     ·rename_i oks avs s0 ρs hargs hroots;split at he
      ·rename_i pre r gs hspec;split at he
       ·rename_i hc;obtain⟨h0,⟨hnd,hall⟩,hsame,hsz⟩:=hc;have hfin:oks=true∧pre=true∧((o.dst=none∧fr'=fr.turnL (ss.zip (gs.drop avs.length)))∨∃ d,o.dst=some d∧d < a.tmps.size∧r.simple=true∧fr'=(fr.turnL (ss.zip (gs.drop avs.length))).putP d r):=by
         split at he
         ·rename_i hd0;simp only[ya,yb,yf] at he;obtain⟨⟨h1,h2⟩,h3⟩:=he;exact⟨h1,h2,.inl ⟨hd0,h3.symm⟩⟩
         ·rename_i d hd0;split at he
          ·cases he
          ·rename_i hno;rw[not_or] at hno;simp only[ya,yb,yf] at he;obtain⟨⟨h1,h2⟩,h3⟩:=he;exact⟨h1,h2,.inr ⟨d,hd0,hd d hd0,by simpa using hno.2,h3.symm⟩⟩
        obtain⟨rfl,rfl,hfr⟩:=hfin;obtain⟨l1,l2,l3⟩:=qoq hn h _ _ _ _ (by simpa using hsz) hargs;obtain⟨r1,r2⟩:=qqR _ _ hroots;obtain⟨q1,q2⟩:=qif _ _ hsame;have hclv:=h.r.clm y f ss hy;have hyv:a.eval (.tmp y)=.func (.func f) #[] (ss.map fun s=>a.tmps.getD s undef).toArray:=by rw[← hclv];rfl
        have hnone:∀ (k:Nat) (x:Option Nat),s0[k]? = some x→x=none:=fun k x hx=>by
         have:=List.all_eq_true.1 h0 x (List.mem_of_getElem? hx);simpa using this
        have hla:(args.toList.map a.eval).length=avs.length:=by simpa using l1
        have hsome:∀ (i s:Nat),(s0++ss.map some)[i]? = some (some s)↔avs.length≤i∧ss[i - avs.length]? = some s:=fun i s=>by
         rcases Nat.lt_or_ge i avs.length with hi | hi
         ·rw[yM (by omega)];constructor
          ·intro hh;exact absurd (hnone i _ hh) (by simp)
          ·intro hh;omega
         ·rw[yN (by omega),← l2,List.getElem?_map];constructor
          ·intro hh;obtain⟨z,h1,h2⟩:=Option.map_eq_some_iff.1 hh;cases h2;exact⟨hi,h1⟩
          ·rintro⟨_,hh⟩;rw[hh];rfl
        have hgd:∀ i,avs.length≤i→(gs.drop avs.length).getD (i - avs.length) .bad=gs.getD i .bad:=fun i hi=>by
         rw[yY,yY,List.getElem?_drop];congr 2;omega
        refine h.callsMs hn (hF.2.2.1 f sp hsp) (vals:=args.toList.map a.eval++ss.map fun s=>tv gv a s) (avs:=avs++ρs) (ss:=s0++ss.map some) ?_ (by simp[r1];simpa using l1) (by simp[r1,l2]) (fun k v' av' s' m1 m2 m3=>?_) hspec
         (fun i j s hi hj=>?_) (fun i s hi=>?_) (l:=ss.zip (gs.drop avs.length)) (fun t g=>?_) hfr
        ·have e1:args.map a.eval=(args.toList.map a.eval).toArray:=by apply Array.ext';simp
         have e2:(ss.map fun s=>a.tmps.getD s undef)=ss.map fun s=>tv gv a s:=List.map_congr_left fun s hs=>by
          have hslt:s < a.tmps.size:=by
           have:=List.all_eq_true.1 hall s hs;rw[hn];simpa using this
          simp[tv,Array.getD,hslt]
         simp only[execOp,hop,resolve,yh,hyv,Deferred.ofValue,yu,ye,invoke,Array.empty_append,e1,e2];congr 2;apply Array.ext';simp
        ·rcases Nat.lt_or_ge k avs.length with hk | hk
         ·rw[yM (by omega)] at m1 m2 m3;exact l3 k v' av' s' m1 m2 m3
         ·rw[yN (by omega)] at m1 m2 m3;rw[hla,List.getElem?_map] at m1;rw[← l2,List.getElem?_map] at m3;obtain⟨s1,h1,rfl⟩:=Option.map_eq_some_iff.1 m1;rw[h1] at m3;simp only[yU,ya] at m3;subst m3;have h2:=r2 _ _ h1;rw[m2] at h2;refine⟨[],_,h2,?_,rfl⟩;unfold rootV at h2;split at h2
          ·cases h2;rfl
          ·cases h2;rfl
          ·cases h2
        ·obtain⟨h1,h2⟩:=(hsome i s).1 hi;obtain⟨h3,h4⟩:=(hsome j s).1 hj;have:=qqQ ss _ _ s hnd h2 h4;omega
        ·obtain⟨h1,h2⟩:=(hsome i s).1 hi;rw[← hgd i h1];exact q2 _ s h2
        ·rw[qqP ss _ t g hnd q1];constructor
         ·rintro⟨i,h1,h2⟩;refine⟨i+avs.length,(hsome _ t).2 ⟨by omega,by rw[Nat.add_sub_cancel];exact h1⟩,?_⟩;rw[← hgd _ (by omega),Nat.add_sub_cancel];exact h2
         ·rintro⟨i,h1,h2⟩;obtain⟨h3,h4⟩:=(hsome i t).1 h1;exact⟨i - avs.length,h4,by rw[hgd i h3];exact h2⟩
       ·cases he
      ·cases he
     ·cases he
   ·cases he
  ·cases he
 ·cases he
end
end
section
open Go.RowKit Go.Lib
abbrev FW (ro:Option Nat):Fence:={ fn:=fun _=>True,depth:=none,alive:=false,round:=ro }
variable {i id:Nat} {Post:Act→World→Prop} {v:Value} {w' w0:World} {f:FuncId} {c:Code}
def qis:Op→Bool
 | .defer _=>false
 | _=>true
def qdp (ops:Array Oper):Bool:=ops.toList.all fun o=>qis o.op
theorem qwm {ops:Array Oper} (h:qdp ops=true) {o:Oper} (ho:ops[i]? = some o):qis o.op=true:=by
 unfold qdp at h;rw[List.all_eq_true] at h;exact h o (by rw[Array.mem_toList_iff];exact Array.mem_of_getElem? ho)
theorem qJc {o:Oper} (h:qis o.op=true) (ro:Option Nat) (ρ:Operand→Value):Oper.semAt ro ρ o=execOp ρ o :=
 Oper.semAt_eq ro ρ o fun c hc=>by rw[hc] at h;cases h
def wpX (P:Program) (o:Oper) (a:Act) (w:World) (K:Act→World→Prop) (Q:Exit→Act→World→Prop):Prop :=
 (∀ d w',(execOp a.eval o).run P w≠.ok (.defer d) w')∧o.uponIn (FW none) 0 P a K Q ((execOp a.eval o).run P w)
section
variable {P:Program} {o:Oper} {a:Act} {w:World} {K K':Act→World→Prop} {Q:Exit→Act→World→Prop}
theorem qit (h:∀ a w,K a w→K' a w) (hh:wpX P o a w K Q):wpX P o a w K' Q:=by
 refine⟨hh.1,?_⟩
 replace hh:=hh.2
 generalize (execOp a.eval o).run P w=r at *
 cases r with
 | ok x w' =>
  cases x <;> simp only[Oper.uponIn] at hh ⊢ <;>
   first
    | exact h _ _ hh
    | exact⟨hh.1,CallsIn.mono hh.2 (fun e w'' he=>by cases e <;> first | exact h _ _ he | exact he)⟩
    | exact⟨hh.1,RowsIn.mono hh.2 (fun _ _ he=>h _ _ he)⟩
    | exact⟨hh.1,RoundIn.mono hh.2 (fun e w'' he=>by cases e <;> first | exact h _ _ he | exact he)⟩
 | halt x w'=>cases x <;> simp only[Oper.uponIn] at hh ⊢ <;> exact hh
theorem qBK (hd:∀ d w',(execOp a.eval o).run P w≠.ok (.defer d) w') (hh:o.wp P a w K Q):wpX P o a w K Q:=by
 refine⟨hd,?_⟩;unfold Oper.wp at hh;clear hd;generalize (execOp a.eval o).run P w=r at *
 cases r with
 | ok x w' =>
  cases x <;> simp only[Oper.upon,Oper.uponIn] at hh ⊢
  case value v=>exact hh
  case skip=>exact hh
  case defer d=>exact hh
  case enter f args=>exact⟨(fun h=>by cases h),callsIn_wide.2 hh⟩
  case row row args=>exact⟨(fun h=>by cases h),fun c cs _=>by
   obtain⟨v,w'',h1,h2⟩:=hh c cs;exact⟨v,w'',h1,(StepsIn.of_steps h2).mono fun m _=>fenced_wide P m⟩⟩
 | halt x w'=>cases x <;> simp only[Oper.upon,Oper.uponIn] at hh ⊢ <;> exact hh
theorem qNE (hd:qis o.op=true) (ro:Option Nat) (hh:wpX P o a w K Q):o.wpIn (FW ro) 0 P a w K Q:=by
 refine⟨fun _ _=>trivial,?_⟩;show o.uponIn (FW ro) 0 P a K Q ((Oper.semAt ro a.eval o).run P w);rw[qJc hd];exact hh.2
theorem qJd (h:wpX P o a w K Q):wpX P o a w (fun a' w'=>K a' w'∧∃ v,a'=a.put o.dst v) Q:=by
 refine⟨h.1,?_⟩;obtain⟨hd,h⟩:=h;generalize (execOp a.eval o).run P w=r at *
 cases r with
 | ok n w' =>
  cases n <;> simp only[Oper.uponIn] at h ⊢
  case value v=>exact⟨h,v,rfl⟩
  case skip=>exact⟨h,undef,rfl⟩
  case defer d=>exact absurd rfl (hd d w')
  case enter f args =>
   refine⟨h.1,CallsIn.mono h.2 fun e w'' he=>?_⟩;cases e with
   | returned v=>exact⟨he,v,rfl⟩
   | panicked c=>exact he
   | outgrown=>exact he
  case row row args=>exact⟨h.1,RowsIn.mono h.2 fun v w'' he=>⟨he,v,rfl⟩⟩
  case round l f tmps assign body =>
   refine⟨h.1,RoundIn.mono h.2 fun e w'' he=>?_⟩;cases e with
   | returned v=>exact⟨he,v,rfl⟩
   | panicked c=>exact he
   | outgrown=>exact he
 | halt x w' =>
  cases x <;> simp only[Oper.uponIn] at h ⊢
  case panic u=>exact h
def up (dl:List Deferred) (a:Act):Act:={ a with defers:=dl }
theorem qoF (dl:List Deferred) (a:Act) (d:Option Tmp) (v:Value):(up dl a).put d v=up dl (a.put d v):=by cases d <;> rfl
def Kup (dl:List Deferred) (K:Act→World→Prop):Act→World→Prop:=fun a' w'=>∃ a0,a'=up dl a0∧K a0 w'
def Qup (dl:List Deferred) (Q:Exit→Act→World→Prop):Exit→Act→World→Prop:=fun ex a' w'=>∃ a0,a'=up dl a0∧Q ex a0 w'
theorem qNF (dl:List Deferred) (h:wpX P o a w K Q):wpX P o (up dl a) w (Kup dl K) (Qup dl Q):=by
 refine⟨h.1,?_⟩;obtain⟨hd,h⟩:=h;show o.uponIn (FW none) 0 P (up dl a) (Kup dl K) (Qup dl Q) ((execOp a.eval o).run P w);generalize (execOp a.eval o).run P w=r at *
 have hlo:LetsOut Q→LetsOut (Qup dl Q):=fun ⟨a0,w0,hq⟩=>⟨up dl a0,w0,a0,rfl,hq⟩;cases r with
 | ok n w' =>
  cases n <;> simp only[Oper.uponIn] at h ⊢
  case value v=>exact⟨_,qoF _ _ _ _,h⟩
  case skip=>exact⟨_,qoF _ _ _ _,h⟩
  case defer d=>exact absurd rfl (hd d w')
  case enter f args =>
   refine⟨h.1,CallsIn.mono h.2 fun e w'' he=>?_⟩;cases e with
   | returned v=>exact⟨_,qoF _ _ _ _,he⟩
   | panicked c=>exact⟨_,rfl,he⟩
   | outgrown=>exact hlo he
  case row row args=>exact⟨h.1,RowsIn.mono h.2 fun v w'' he=>⟨_,qoF _ _ _ _,he⟩⟩
  case round l f tmps assign body =>
   refine⟨h.1,RoundIn.mono h.2 fun e w'' he=>?_⟩;cases e with
   | returned v=>exact⟨_,qoF _ _ _ _,he⟩
   | panicked c=>exact⟨_,rfl,he⟩
   | outgrown=>exact hlo he
 | halt x w' =>
  cases x <;> simp only[Oper.uponIn] at h ⊢
  case panic u=>exact⟨_,rfl,h⟩
end
def OpX (P:Program) (o:Oper) (a:Act) (w:World) (Post:Act→World→Prop):Prop :=
 ∀ (K:Act→World→Prop) (Q:Exit→Act→World→Prop),(∀ a' w',Post a' w'→K a' w')→wpX P o a w K Q
theorem qh.x {P:Program} {o:Oper} {a:Act} {w:World} (h:qh P o a w Post) (hp:∀ a' w',Post a' w'→a'.defers=[]):OpX P o a w Post :=
 fun K Q hK=>qBK (fun d w' e=>by
  have h1:=h Post (fun _ _ _=>False) (fun _ _ h=>h);unfold Oper.wp at h1;rw[e] at h1;have h2:=hp _ _ h1;cases hd:o.dst <;> rw[hd] at h2 <;> cases h2) (h K Q hK)
theorem OpX.mono {P:Program} {o:Oper} {a:Act} {w:World} {Post':Act→World→Prop} (h:OpX P o a w Post) (hp:∀ a' w',Post a' w'→Post' a' w'):OpX P o a w Post' :=
 fun K Q hK=>h K Q fun _ _ h'=>hK _ _ (hp _ _ h')
theorem OpX.tmps {P:Program} {o:Oper} {a:Act} {w:World} (h:OpX P o a w Post):OpX P o a w (fun a' w'=>Post a' w'∧∃ v,a'=a.put o.dst v):=fun K Q hK=>by
 have h1:=qJd (h Post Q (fun _ _ hh=>hh));exact qit (fun a' w' hh=>hK a' w' hh) h1
theorem OpX.value {P:Program} {o:Oper} {a:Act} {w:World} (h:(execOp a.eval o).run P w=.ok (.value v) w') (hp:Post (a.put o.dst v) w'):OpX P o a w Post :=
 fun K Q hK=>by
  refine⟨fun d w1 e=>(by rw[h] at e;cases e),?_⟩;rw[h];exact hK _ _ hp
theorem OpX.skip {P:Program} {o:Oper} {a:Act} {w:World} (h:(execOp a.eval o).run P w=.ok .skip w') (hp:Post (a.put o.dst undef) w'):OpX P o a w Post :=
 fun K Q hK=>by
  refine⟨fun d w1 e=>(by rw[h] at e;cases e),?_⟩;rw[h];exact hK _ _ hp
theorem OpX.enter {P:Program} {o:Oper} {a:Act} {w:World} {args:Array Value} (h:(execOp a.eval o).run P w=.ok (.enter f args) w0)
 (hc:Calls P f args w0 fun e w'=>∃ v,e=.returned v∧Post (a.put o.dst v) w'):OpX P o a w Post :=
 fun K Q hK=>by
  refine⟨fun d w1 e=>(by rw[h] at e;cases e),?_⟩;rw[h];exact⟨(fun h=>by cases h),(callsIn_wide.2 hc).mono fun e w' ⟨v,he,hp⟩=>by subst he;exact hK _ _ hp⟩
theorem OpX.round {P:Program} {o:Oper} {a:Act} {w:World} {l:Nat} {tmps:Array Value} {assign body:Code} (h:(execOp a.eval o).run P w=.ok (.round l f tmps assign body) w0)
 (hc:RoundIn (FW none) 0 P l f tmps assign body w0 fun e w'=>∃ v,e=.returned v∧Post (a.put o.dst v) w'):OpX P o a w Post :=
 fun K Q hK=>by
  refine⟨fun d w1 e=>(by rw[h] at e;cases e),?_⟩;rw[h];exact⟨(fun h=>by cases h),hc.mono fun e w' ⟨v,he,hp⟩=>by subst he;exact hK _ _ hp⟩
section
variable {P:Program} {ops:Array Oper} {Q:Exit→Act→World→Prop} {md:Region.Mode} {S:World→Prop}
def wpOpX (P:Program) (ops:Array Oper) (Q:Exit→Act→World→Prop) (i:Nat) (K:Act→World→Prop) (a:Act) (w:World):Prop :=
 match ops[i]? with
 | none=>K a w
 | some o=>if Region.wanted o (yielded ops a.tmps) then wpX P o a w K Q else K (a.put o.dst undef) w
theorem qfa {a:Act} {w:World} {K K':Act→World→Prop} (h:∀ a w,K a w→K' a w) (hh:wpOpX P ops Q i K a w):wpOpX P ops Q i K' a w:=by
 unfold wpOpX at *
 split
 ·exact h _ _ (by simpa [*] using hh)
 ·rename_i o ho;simp only[ho] at hh;split
  ·rename_i hw;simp only[hw,if_true] at hh;exact qit h hh
  ·rename_i hw;simp only[hw] at hh;exact h _ _ hh
theorem qJe (hd:qdp ops=true) (ro:Option Nat) {a:Act} {w:World} {K:Act→World→Prop} (hh:wpOpX P ops Q i K a w):wpOpIn (FW ro) 0 P ops Q i K a w:=by
 unfold wpOpX at hh;unfold wpOpIn;split
 ·simpa [*] using hh
 ·rename_i o ho;simp only[ho] at hh;split
  ·rename_i hw;simp only[hw,if_true] at hh;exact qNE (qwm hd ho) ro hh
  ·rename_i hw;simp only[hw] at hh;exact⟨fun _ _=>trivial,hh⟩
theorem qfb {o:Oper} {a:Act} (hi:ops[i]? = some o) (hy:YieldsIf P ops S o v a)
 {K:Act→World→Prop} {w:World} (hS:S w) (h:K (a.put o.dst v) w):Go.Av.wpOpX P ops Q i K a w:=by
 unfold Go.Av.wpOpX;simp only[hi];rcases hy with ⟨hw,hv⟩ | ⟨hw,rfl⟩
 ·simp only[hw,if_true];refine⟨fun d w' e=>(by rw[hv w hS] at e;cases e),?_⟩;rw[hv w hS];exact h
 ·simp only[hw,yq,if_false];exact h
theorem qtT {j:Nat} {oi oj:Oper} (hj:ops[j]? = some oj) (hap:oi.apart ops oj=true)
 (hsi:∀ cs b,oi.op≠.select cs b) (hsj:∀ cs b,oj.op≠.select cs b)
 (hQ:∀ c a w,Q (.panic c) (a.put oi.dst v) w→Q (.panic c) a w) {K:Act→World→Prop} {a:Act} {w:World}
 (hy:YieldsIf P ops S oi v a) (h:wpOpX P ops Q j K (a.put oi.dst v) w) :
 wpOpX P ops Q j (fun a' w'=>YieldsIf P ops S oi v a'∧K (a'.put oi.dst v) w') a w:=by
 obtain⟨h1,h2,h3⟩:=Oper.apart_spec hap;have keep:∀ (a:Act),YieldsIf P ops S oi v a→∀ u,YieldsIf P ops S oi v (a.put oj.dst u):=fun a hy u =>
  hy.of_same (execOp_put oi hsi a oj.dst u h3) (wanted_put oi a oj.dst u h3)
 have keepD:∀ d,YieldsIf P ops S oi v { a with defers:=d :: a.defers }:=fun d=>hy.of_same rfl rfl;unfold wpOpX at *
 simp only[hj] at *
 rw[wanted_put oj a oi.dst v h1] at h;split
 ·rename_i hw;simp only[hw,if_true] at h;unfold wpX at *
  rw[execOp_put oj hsj a oi.dst v h1] at h;refine⟨h.1,?_⟩
  replace h:=h.2
  generalize (execOp a.eval oj).run P w=r at *
  cases r with
  | ok n w' =>
   cases n <;> simp only[Oper.uponIn] at h ⊢
   case value u=>exact⟨keep a hy u,by rw[← Act.put_comm a v u h2];exact h⟩
   case skip=>exact⟨keep a hy _,by rw[← Act.put_comm a v undef h2];exact h⟩
   case defer d =>
    refine⟨keep _ (keepD d) _,?_⟩;rw[← Act.put_comm _ v undef h2,← Act.put_defers];exact h
   case enter f args =>
    refine⟨h.1,CallsIn.mono h.2 fun e w'' he=>?_⟩;cases e with
    | returned u=>exact⟨keep a hy u,by rw[← Act.put_comm a v u h2];exact he⟩
    | panicked c=>exact hQ _ _ _ he
    | outgrown=>exact he
   case row row args=>exact⟨h.1,RowsIn.mono h.2 fun u w'' he=>⟨keep a hy u,by rw[← Act.put_comm a v u h2];exact he⟩⟩
   case round l f tmps assign body =>
    refine⟨h.1,RoundIn.mono h.2 fun e w'' he=>?_⟩;cases e with
    | returned u=>exact⟨keep a hy u,by rw[← Act.put_comm a v u h2];exact he⟩
    | panicked c=>exact hQ _ _ _ he
    | outgrown=>exact he
  | halt x w' =>
   cases x <;> simp only[Oper.uponIn] at h ⊢
   case panic u=>exact hQ _ _ _ h
 ·rename_i hw;simp only[hw] at h;exact⟨keep a hy _,by rw[← Act.put_comm a v undef h2];exact h⟩
def qed (P:Program) (ops:Array Oper) (Q:Exit→Act→World→Prop):List Oper→Act→World→Prop
 | [],a,w=>Q .normal a w
 | o :: rest,a,w=>if Region.wanted o (yielded ops a.tmps) then wpX P o a w (qed P ops Q rest) Q else qed P ops Q rest (a.put o.dst undef) w
theorem qiu (ro:Option Nat):∀ (l:List Oper),(l.all fun o=>qis o.op)=true→∀ (a:Act) (w:World),qed P ops Q l a w→wpListIn (FW ro) 0 P ops Q l a w
 | [],_,a,w,h=>h
 | o :: rest,hd,a,w,h=>by
  simp only[List.all_cons,yf] at hd;unfold qed at h;unfold wpListIn;split
  ·rename_i hw;rw[if_pos hw] at h;exact qNE hd.1 ro (qit (fun a' w' h'=>qiu ro rest hd.2 a' w' h') h)
  ·rename_i hw;rw[if_neg hw] at h;exact⟨fun _ _=>trivial,qiu ro rest hd.2 _ _ h⟩
theorem qjt {a:Act} {w:World} (ro:Option Nat) (hd:qdp ops=true) (h:qed P ops Q ops.toList a w):(Code.region id ops false).wpIn (FW ro) 0 P Q a w :=
 wpIn_region_list (qiu ro ops.toList hd a w h)
def qtU (P:Program) (md:Region.Mode) (ops:Array Oper) (Q:Exit→Act→World→Prop):Nat→Array Bool→Act→World→Prop
 | 0,listed,a,w=>Region.ready md ops listed=[]∧Q .normal a w
 | fuel+1,listed,a,w =>
  (Region.ready md ops listed=[]→Q .normal a w) ∧
  ∀ i∈Region.ready md ops listed,wpOpX P ops Q i (qtU P md ops Q fuel (listed.setIfInBounds i true)) a w
theorem qrk (ro:Option Nat) (hd:qdp ops=true):∀ (fuel:Nat) (listed:Array Bool) (a:Act) (w:World),qtU P md ops Q fuel listed a w→wpAnyIn (FW ro) 0 P md ops Q fuel listed a w
 | 0,_,_,_,h=>h
 | fuel+1,_,_,_,h=>⟨h.1,fun i hi=>qJe hd ro (qfa (fun a' w' h'=>qrk ro hd fuel _ a' w' h') (h.2 i hi))⟩
theorem qkY {a:Act} {w:World} (ro:Option Nat) (hd:qdp ops=true) (hm:P.follows .mixedOrders=true)
 (h:qtU P .any ops Q ops.size (Array.replicate ops.size false) a { w with drawn:=w.drawn+1 }):(Code.region id ops true).wpIn (FW ro) 0 P Q a w :=
 wpIn_region_any hm (qrk ro hd _ _ _ _ h)
theorem qiv (dl:List Deferred):∀ (l:List Oper) (a:Act) (w:World),qed P ops Q l a w→qed P ops (Qup dl Q) l (up dl a) w
 | [],a,w,h=>⟨a,rfl,h⟩
 | o :: rest,a,w,h=>by
  unfold qed at h ⊢;show if Region.wanted o (yielded ops a.tmps)=true then _ else _
  split
  ·rename_i hw;rw[if_pos hw] at h;refine qit (fun a' w' h'=>?_) (qNF dl h);obtain⟨a0,rfl,h'⟩:=h';exact qiv dl rest a0 w' h'
  ·rename_i hw;rw[if_neg hw] at h;rw[qoF];exact qiv dl rest _ w h
theorem qhq (dl:List Deferred):∀ (fuel:Nat) (listed:Array Bool) (a:Act) (w:World),qtU P md ops Q fuel listed a w→qtU P md ops (Qup dl Q) fuel listed (up dl a) w
 | 0,_,a,_,h=>⟨h.1,a,rfl,h.2⟩
 | fuel+1,listed,a,w,h=>⟨fun hr=>⟨a,rfl,h.1 hr⟩,fun i hi=>by
  have h2:=h.2 i hi;unfold wpOpX at h2 ⊢;split
  ·rename_i ho;simp only[ho] at h2;exact qhq dl fuel _ a w h2
  ·rename_i o ho;simp only[ho] at h2;show if Region.wanted o (yielded ops a.tmps)=true then _ else _
   split
   ·rename_i hw;rw[if_pos hw] at h2;refine qit (fun a' w' h'=>?_) (qNF dl h2);obtain⟨a0,rfl,h'⟩:=h';exact qhq dl fuel _ a0 w' h'
   ·rename_i hw;rw[if_neg hw] at h2;rw[qoF];exact qhq dl fuel _ _ w h2⟩
theorem qmz {o:Oper} {a:Act} {w:World} (hi:ops[i]? = some o) {K:Act→World→Prop}
 (h:(Region.wanted o (yielded ops a.tmps)=true∧OpX P o a w Post)∨(Region.wanted o (yielded ops a.tmps)=false∧Post (a.put o.dst undef) w)) (hK:∀ a' w',Post a' w'→K a' w') :
 wpOpX P ops Q i K a w:=by
 unfold wpOpX;simp only[hi];rcases h with ⟨h1,h2⟩ | ⟨h1,h2⟩
 ·rw[if_pos h1];exact h2 _ _ hK
 ·rw[h1];exact hK _ _ h2
end
section
variable {F:Fence} {n:Nat} {P:Program} {b:Frame} {a:Act} {k:List Item} {cs:List Frame} {w:World} {Q:Exit→Act→World→Prop}
theorem qby:step P (lone (b.atR a (.code (.scope c) :: k)) cs w)=.next (lone (b.atR a (.code c :: .inScope c :: k)) cs w) :=
 step_lone_go (by simp[stepG,stepG.exec,Frame.atR])
theorem qmA:step P (lone (b.atR a (.inScope c :: k)) cs w)=.next (lone (b.atR a k) cs w) :=
 step_lone_go (by simp[stepG,stepG.exec,Frame.atR])
theorem qfc (h:c.wpIn F n P (Exit.noGoto Q) a w):(Code.scope c).wpIn F n P Q a w:=by
 intro b k cs hro hb hr;have h0:(lone (b.atR a (.code (.scope c) :: k)) cs w).fenced P F:=fenced_calm hb hr rfl;obtain⟨e,a₁,w₁,hq,harr⟩:=h b (.inScope c :: k) cs hro hb hr;cases e with
 | normal=>exact⟨.normal,a₁,w₁,hq,.head h0 qby (StepsIn.trans harr (.one (fenced_calm hb hr rfl) qmA))⟩
 | exit id=>exact⟨.exit id,a₁,w₁,hq,fun k' hk=>.head h0 qby (harr.1 k' (by simp[exitTo,hk])),fun hr' hk=>by
  obtain⟨k₁,h1,h2⟩:=harr.2 hr' (by simp[exitTo,hk]);exact⟨k₁,h1,.head h0 qby h2⟩⟩
 | goto l=>exact hq.elim
 | ret=>exact⟨_,a₁,w₁,hq,.of_steps (.one h0 qby) harr⟩
 | panic ch=>exact⟨_,a₁,w₁,hq,.of_steps (.one h0 qby) harr⟩
 | outgrown=>exact⟨_,a₁,w₁,hq,.of_steps (.one h0 qby) harr⟩
end
end
section
open Go.RowKit Go.Lib
variable {o:Oper} {fr':Fr} {d n:Nat} {ok:Bool} {a':Act} {w':World} {x y:Operand} {t:TypeId} {ops:Array Oper}
section
theorem qNo {K:Act→World→Prop} {Q:Exit→Act→World→Prop} (h:o.wp P a w K Q):o.wp P a w (fun a' w'=>K a' w'∧∃ v,a'.tmps=(a.put o.dst v).tmps) Q:=by
 unfold Oper.wp at *
 generalize (execOp a.eval o).run P w=r at *
 cases r with
 | ok n w' =>
  cases n <;> simp only[Oper.upon] at h ⊢
  case value v=>exact⟨h,v,rfl⟩
  case skip=>exact⟨h,undef,rfl⟩
  case defer d=>exact⟨h,undef,by cases o.dst <;> rfl⟩
  case enter f args =>
   refine Calls.mono h fun e w'' he=>?_;cases e with
   | returned v=>exact⟨he,v,rfl⟩
   | panicked c=>exact he
   | outgrown=>exact he
  case row row args=>exact Rows.mono h fun v w'' he=>⟨he,v,rfl⟩
 | halt x w' =>
  cases x <;> simp only[Oper.upon] at h ⊢
  case panic u=>exact h
theorem qh.tmps {Post:Act→World→Prop} (h:qh P o a w Post):qh P o a w (fun a' w'=>Post a' w'∧∃ v,a'.tmps=(a.put o.dst v).tmps):=fun K Q hK=>by
 have h1:=qNo (h Post Q (fun _ _ hh=>hh));exact Oper.wp_mono (fun a' w' hh=>hK a' w' hh) h1
theorem qvO (v:AV) (d:Nat):((v.spent d).isPriv=true→v.spent d=v)∧(v.isPriv=true→v.spent d=v):=by
 cases v with
 | dat s x o=>exact⟨(fun h=>by cases h),fun h=>by cases h⟩
 | _=>exact⟨fun _=>rfl,fun _=>rfl⟩
theorem qra (v:AV) (d:Nat):((v.drop d).isPriv=true→v.drop d=v)∧(v.isPriv=true→v.drop d=v):=by
 cases v with
 | dat s x o=>exact⟨(fun h=>by cases h),fun h=>by cases h⟩
 | badr s p =>
  refine⟨fun h=>?_,fun h=>by cases h⟩;simp only[AV.drop] at h;split at h <;> cases h
 | clom f ss =>
  refine⟨fun h=>?_,fun h=>by cases h⟩;simp only[AV.drop] at h;split at h <;> cases h
 | _=>exact⟨fun _=>rfl,fun _=>rfl⟩
def qtH (fr fr':Fr) (d:Nat):Prop:=∀ t,t≠d→(fr' t).isPriv=true∨(fr t).isPriv=true→fr' t=fr t
theorem qac (fr:Fr) (d:Nat) (v:AV):qtH fr (fr.put d v) d:=fun t ht h=>by
 unfold Fr.put at *
 rw[if_neg ht] at *
 exact h.elim (qra _ _).1 (qra _ _).2
theorem qcD (fr:Fr) (l d:Nat) (v:AV):qtH fr ((fr.spend l).put d v) d:=fun t ht h=>by
 have h1:=qac (fr.spend l) d v t ht;have h2:=qvO (fr t) l;rcases h with h | h
 ·have h3:=h1 (.inl h);rw[h3] at h ⊢;exact h2.1 h
 ·have h4:(fr.spend l) t=fr t:=h2.2 h;have h3:=h1 (.inr (by rw[h4];exact h));rw[h3,h4]
theorem qmf (fr:Fr) (l:Option Nat) (d:Nat) (v:AV):qtH fr ((qBG fr l).put d v) d:=by
 cases l with
 | none=>exact qac fr d v
 | some l=>exact qcD fr l d v
theorem qkO {E:Env} {fr:Fr} (he:qmo E fr o d=some (ok,fr')):qtH fr fr' d:=by
 unfold qmo at he;split at he
 ·split at he
  ·split at he
   ·simp only[ya,yb] at he;rw[← he.2];exact qac _ _ _
   ·cases he
  ·rename_i y _;split at he
   ·rename_i s z hf;split at he
    ·cases he
    ·simp only[ya,yb] at he;rw[← he.2];intro t ht h;have h1:=qac (fr.put y .bad) d (.box s z) t ht
     by_cases hty:t=y
     ·subst hty;have e1:(fr.put t .bad) t=.bad:=by simp[Fr.put]
      rcases h with h | h
      ·have:=h1 (.inl h);rw[this,e1] at h;cases h
      ·rw[hf] at h;cases h
     ·have h2:=qac fr y .bad t hty;rcases h with h | h
      ·have h3:=h1 (.inl h);rw[h3] at h ⊢;exact h2 (.inl h)
      ·have h3:=h2 (.inr h);rw[h1 (.inr (by rw[h3];exact h)),h3]
   ·simp only[ya,yb] at he;rw[← he.2];exact qcD _ _ _ _
   ·split at he
    ·split at he
     ·simp only[ya,yb] at he;rw[← he.2];exact qac _ _ _
     ·cases he
  ·split at he
   ·split at he
    ·simp only[ya,yb] at he;rw[← he.2];exact qac _ _ _
    ·cases he
 ·split at he
  ·split at he
   ·split at he
    ·split at he
     ·simp only[ya,yb] at he;rw[← he.2];exact qmf _ _ _ _
     ·cases he
    ·cases he
   ·cases he
  ·split at he
   ·split at he
    ·split at he
     ·split at he
      ·split at he
       ·simp only[ya,yb] at he;rw[← he.2];exact qcD _ _ _ _
       ·cases he
      ·cases he
     ·cases he
    ·cases he
   ·cases he
  ·cases he
 ·split at he
  ·simp only[ya,yb] at he;rw[← he.2];exact qac _ _ _
  ·cases he
 ·split at he
  ·split at he
   ·simp only[ya,yb] at he;rw[← he.2];exact qac _ _ _
   ·cases he
  ·cases he
 ·split at he
  ·split at he
   ·simp only[ya,yb] at he;rw[← he.2];exact qac _ _ _
   ·cases he
  ·split at he
   ·simp only[ya,yb] at he;rw[← he.2];exact qcD _ _ _ _
   ·cases he
  ·cases he
 ·cases he
theorem qim {E:Env} {fr:Fr} (he:stepU E fr o d=some (ok,fr')):qtH fr fr' d:=by
 unfold stepU at he;split at he
 ·split at he
  ·simp only[ya,yb] at he;rw[← he.2];exact qac _ _ _
  ·cases he
 ·split at he
  ·simp only[ya,yb] at he;rw[← he.2];exact qac _ _ _
  ·exact qkO he
theorem RP.otherD (h:RP P base w0 S0 S fr gv a w F) (hd:d < a.tmps.size) {S':qa} (hr:R (fun k=>base k∨∃ t,F t k) w S S' fr' a' w') {val:Value} (ha:a'.tmps=(a.put (some d) val).tmps)
 (hk:qtH fr fr' d) (hp:(fr' d).isPriv=false):RP P base w0 S0 S' (fr'.sweep d) gv a' w' (fun t b=>t≠d∧F t b):=by
 have htv:∀ t,t≠d→tv gv a' t=tv gv a t:=fun t ht=>by
  have:tv gv a' t=tv gv (a.put (some d) val) t:=by unfold tv;rw[ha]
  rw[this,qcW gv a d val t hd,if_neg ht]
 have hb:∀ t b,F t b→w'.heap[b]? = w.heap[b]? := fun t b hF=>hr.below.block b (.inr ⟨t,hF⟩);have hsd:∀ t,(fr'.sweep d t).isRoot=(fr' t).isRoot∧((fr' t).isRoot=true→fr'.sweep d t=fr' t):=qaM fr' d;have hdr:(fr' d).isRoot=false:=by generalize fr' d=av at hp;cases av <;> first | rfl | cases hp
 have hrr:∀ v:AV,v.isRoot=true→v.isPriv=true:=fun v hv=>by unfold AV.isPriv;rw[hv];rfl
 refine h.upd (fun t=>t=d) ((hr.repriv (qaW fr' d)).rebase (fun k hk=>hk.imp id (fun ⟨t,ht⟩=>⟨t,ht.2⟩))) ⟨hr.below.os,hr.below.tape,hr.below.output,hr.below.size,fun k hk=>hr.below.block k (.inl hk)⟩ (fun b o hB=>hr.old b o (.inl hB)) hr.kp
  (fun t ht b=>⟨(·.2),fun hh=>⟨ht,hh⟩⟩) (fun t b _ hF=>hb t b hF) (fun t b o _ hF=>hr.old b o (.inr ⟨t,hF⟩))
  (fun t ht=>?_) (fun t b ht hh=>absurd ht hh.1) (fun t t' b ht _ hh=>absurd ht hh.1) (fun t ht _ b hh=>absurd ht hh.1) (fun t ht hh=>?_) (fun t s r ht=>?_) (fun t s r ht=>?_)
 ·obtain⟨e1,e2⟩:=hsd t;constructor
  ·rw[e1];cases h1:(fr' t).isRoot with
   | true=>rw[hk t ht (.inl (hrr _ h1))] at h1;exact h1.symm
   | false =>
    cases h2:(fr t).isRoot with
    | true=>rw[hk t ht (.inr (hrr _ h2)),h2] at h1;cases h1
    | false=>rfl
  ·intro hh;have e3:=hk t ht (.inr (hrr _ hh));exact⟨by rw[e2 (by rw[e3];exact hh),e3],htv t ht⟩
 ·subst ht;rw[(hsd t).1,hdr] at hh;cases hh
 ·obtain⟨e1,e2⟩:=qcB ht;have htd:t≠d:=fun e=>by rw[e] at e1;rw[e1] at hp;cases hp
  exact .inl ⟨e2,by rw[← hk t htd (.inl (by rw[e1];rfl))];exact e1,htv t htd⟩
 ·obtain⟨e1,e2⟩:=qcC ht;have htd:t≠d:=fun e=>by rw[e] at e1;rw[e1] at hp;cases hp
  exact .inl ⟨e2,by rw[← hk t htd (.inl (by rw[e1];rfl))];exact e1,htv t htd⟩
theorem PPost.of {tame:Prop} {S1:qa} {F1:Nat→Nat→Prop} (hk:Keeps w S w S1) (hp:PPost P base w0 S0 n gv w S1 F1 tame fr' a' w'):PPost P base w0 S0 n gv w S F False fr' a' w':=by
 obtain⟨h1,S',F',h2,h3,_⟩:=hp;exact⟨h1,S',F',h2,hk.trans h3,fun hf=>hf.elim⟩
theorem RP.freezes (hn:a.tmps.size=E.nt):∀ (l:List Nat) (fr:Fr) (S:qa) (F:Nat→Nat→Prop) (fr':Fr),RP P base w0 S0 S fr gv a w F→qdj E.nt l fr=some fr'→∃ S' F',RP P base w0 S0 S' fr' gv a w F'∧Keeps w S w S'∧(l=[]→S'=S∧F'=F∧fr'=fr)
 | [],fr,S,F,fr',h,he=>by
  simp only[qdj,ya] at he;subst he;exact⟨S,F,h,Keeps.refl _ _,fun _=>⟨rfl,rfl,rfl⟩⟩
 | s :: l,fr,S,F,fr',h,he=>by
  simp only[qdj] at he;split at he
  ·obtain⟨S',F',h1,h2,_⟩:=RP.freezes hn l fr S F fr' h he;exact⟨S',F',h1,h2,fun e=>by cases e⟩
  ·split at he
   ·rename_i fr1 hf;obtain⟨S1,h1,h2⟩:=h.frozen hn hf;obtain⟨S',F',h3,h4,_⟩:=RP.freezes hn l fr1 S1 _ fr' h1 he;exact⟨S',F',h3,h2.trans h4,fun e=>by cases e⟩
   ·cases he
theorem PPost.mono {tame tame':Prop} (h:tame'→tame) (hp:PPost P base w0 S0 n gv w S F tame fr' a' w'):PPost P base w0 S0 n gv w S F tame' fr' a' w':=by
 obtain⟨h1,S',F',h2,h3,h4⟩:=hp;exact⟨h1,S',F',h2,h3,fun ht=>h4 (h ht)⟩
theorem RP.copyAbs (h:RP P base w0 S0 S fr gv a w F) (hd:d < a.tmps.size) {s:Nat} {r:List PStep} (hab:qBA a.tmps.size fr x=some (s,r)) (hne:¬ s=d)
 (hrun:∀ w',(execOp a.eval o).run P w'=.ok (.value (a.eval x)) w'):qbF P base w0 S0 gv a w S F o d ((fr d).isRoot=false) (fun _=>True) (fr.putP d (.padr s r)):=by
 unfold qBA at hab;split at hab
 ·rename_i y;split at hab
  ·cases hab
  ·rename_i hy;have hev:=qE gv a y (Nat.lt_of_not_le hy);split at hab
   ·rename_i s' r' hfy;split at hab
    ·simp only[ya,yb] at hab;obtain⟨rfl,rfl⟩:=hab;exact⟨trivial,a.eval (.tmp y),fun w' _=>hrun w',_,h.putPlain hd (.padr _ _ _) rfl rfl (fun s2 r2 e=>by cases e;exact⟨hne,by rw[← hev];exact h.adr y _ _ hfy⟩) (fun _ _ e=>by cases e),fun ht t b hF=>⟨t,qaX h ht hF,hF⟩⟩
    ·cases hab
   ·rename_i s' V' x' hfy;simp only[ya,yb] at hab;obtain⟨rfl,rfl⟩:=hab;exact⟨trivial,a.eval (.tmp y),fun w' _=>hrun w',_,h.putPlain hd (.padr _ _ _) rfl rfl (fun s2 r2 e=>by cases e;exact⟨hne,.inr ⟨_,_,_,hfy,rfl,hev.symm⟩⟩) (fun _ _ e=>by cases e),fun ht t b hF=>⟨t,qaX h ht hF,hF⟩⟩
   ·cases hab
 ·cases hab
theorem qjB (hn:a.tmps.size=E.nt) (h:RP P base w0 S0 S fr gv a w F) (hT:TyOk P E.toEnv) (hd:d < a.tmps.size) (he:qfP E fr o d=some (some (true,fr'))) :
 qbF P base w0 S0 gv a w S F o d ((fr d).isRoot=false) (fun _=>True) fr':=by
 unfold qfP at he;rw[← hn] at he;split at he
 ·
  rename_i x hop;split at he
  ·rename_i ad s r hp;simp only[ya] at he;split at he
   ·cases he
   ·rename_i hne;simp only[ya,yb,true_and] at he;subst he;exact h.copyRef hd hp hne (fun y hy hyl w'=>by subst hy;unfold execOp;simp only[hop];rw[qE gv a y hyl];rfl)
  ·split at he
   ·rename_i s r hab;simp only[ya] at he;split at he
    ·cases he
    ·rename_i hne;simp only[ya,yb,true_and] at he;subst he;exact h.copyAbs hd hab hne (fun w'=>by unfold execOp;simp only[hop];rfl)
   ·cases he
 ·
  rename_i x hop;split at he
  ·cases he
  split at he
  ·rename_i ad s r hp;simp only[ya] at he;split at he
   ·cases he
   ·rename_i hne;split at he
    ·rename_i hw;simp only[ya,yb,true_and] at he;subst he;obtain⟨y,rfl,hy,hr,hv,_⟩:=h.topVal hp hw;exact h.movesRoot hd hr hne (fun w'=>by unfold execOp;simp only[hop];rw[← hv,qE gv a y hy];rfl)
    ·simp only[ya,yb,true_and] at he;subst he;exact h.copyRef hd hp hne (fun y hy hyl w'=>by subst hy;unfold execOp;simp only[hop];rw[qE gv a y hyl];rfl)
  ·split at he
   ·rename_i y hown;simp only[ya] at he;split at he
    ·cases he
    ·rename_i hne;simp only[ya,yb,true_and] at he;subst he;unfold qNs at hown;split at hown
     ·rename_i y';split at hown
      ·cases hown
      ·rename_i hy;split at hown
       ·rename_i s V z hfy;cases hown;exact h.movesRoot hd (by rw[hfy];rfl) hne (fun w'=>by unfold execOp;simp only[hop];rw[qE gv a y (Nat.lt_of_not_le hy)];rfl)
       ·cases hown
     ·cases hown
   ·split at he
    ·rename_i s r hab;simp only[ya] at he;split at he
     ·cases he
     ·rename_i hne;simp only[ya,yb,true_and] at he;subst he;exact h.copyAbs hd hab hne (fun w'=>by unfold execOp;simp only[hop];rfl)
    ·cases he
 ·
  rename_i c hop;obtain⟨callee,args,argTypes⟩:=c;split at he
  ·rename_i x t hc hargs htypes;simp only at hc hargs htypes;subst hc;obtain rfl:args = #[x]:=Array.ext' hargs;obtain rfl:argTypes = #[t]:=Array.ext' htypes;split at he
   ·rename_i s r hp;simp only[ya] at he;split at he
    ·rename_i p y hh ht;split at he
     ·rename_i q z hg;split at he
      ·rename_i n hl;split at he
       ·rename_i hty;simp only[ya,yb,true_and] at he;subst he;exact h.rLen hd hop hp ht hg hl hT hty
       ·cases he
      ·cases he
     ·cases he
    ·cases he
   ·simp at he
   ·cases he
  ·cases he
 ·
  rename_i t x i hop;split at he
  ·rename_i s r hp;simp only[ya] at he;split at he
   ·cases he
   ·rename_i hne;split at he
    ·rename_i p y hh ht;split at he
     ·rename_i te e z n hg hn';split at he
      ·rename_i hty;simp only[ya,yb,yf,ym] at he;obtain⟨⟨⟨hi,h0⟩,hlt⟩,rfl⟩:=he;exact h.rIdx hT hd hop hp hne ht hg hty (vi:=(rdo E.toEnv fr true 0 i).2) (Prod.ext hi rfl) hn' h0 hlt
      ·cases he
     ·cases he
    ·cases he
  ·simp at he
  ·cases he
 ·
  rename_i t x f hop;split at he
  ·rename_i s r hp;simp only[ya] at he;split at he
   ·cases he
   ·rename_i hne;split at he
    ·rename_i p y hh ht;split at he
     ·rename_i q y0 hg;split at he
      ·rename_i u hf;split at he
       ·rename_i hty;simp only[ya,yb,true_and] at he;subst he;exact h.rFld hT hd hop hp hne ht hg hty.1 hf hty.2
       ·cases he
      ·cases he
     ·cases he
    ·cases he
  ·simp at he
  ·cases he
 ·
  rename_i x hop;split at he
  ·rename_i s r hp;simp only[ya] at he;split at he
   ·cases he
   ·rename_i hne;split at he
    ·rename_i p y hh ht;split at he
     ·rename_i q hg;simp only[ya,yb,true_and] at he;subst he;obtain⟨u,e1,hu,c,_,_,hadr,_⟩:=h.placeT hp ht;obtain⟨_,g,o',_,_,hptr,_,_⟩:=(hadr rfl).zero (by rw[hg];simp);refine h.copyRef hd hp hne (fun y' hy hyl w'=>?_);have hyu:y'=u:=by rw[e1] at hy;cases hy;rfl
      subst hyu;subst hy;rw[hptr];have hev:a.eval (.tmp y')=.pointer (some ⟨g,o',none⟩):=by rw[← qE gv a y' hyl];exact hptr
      unfold execOp;simp only[hop,hev];rfl
     ·cases he
    ·cases he
  ·simp at he
  ·cases he
 ·cases he
theorem qjC (hn:a.tmps.size=E.nt) (h:RP P base w0 S0 S fr gv a w F) (hT:TyOk P E.toEnv) (hd:d < a.tmps.size) (he:qer E fr o d=some (some (true,fr'))) :
 ∃ x k g o',a.eval x=.pointer (some ⟨g,o',none⟩)∧(∃ s,F s g)∧qbF P base w0 S0 gv a w S F o d ((fr d).isRoot=false) (qmd a x w k) fr':=by
 unfold qer at he;rw[← hn] at he;split at he
 ·
  rename_i t x hop;split at he
  ·rename_i s r hp;split at he
   ·cases he
   simp only[ya] at he;split at he
   ·cases he
   ·rename_i hne;split at he
    ·rename_i p y ht;obtain⟨u,hu1,hu2,c,_,_,hadr,_⟩:=h.placeT hp ht;split at he
     ·rename_i q z hg;obtain⟨_,g,o',_,_,hptr,_,hFg⟩:=(hadr rfl).zero (by rw[hg];simp);have hptr':a.eval x=.pointer (some ⟨g,o',none⟩):=by rw[hu1,← qE gv a u hu2];exact hptr
      split at he
      ·rename_i hty;split at he
       ·rename_i hpl;simp only[ya,yb,true_and] at he;subst he;exact⟨_,_,_,_,hptr',⟨_,hFg⟩,h.rLoad hT hd hop hp ht hg hty hpl⟩
       ·split at he
        ·rename_i n hl;simp only[ya,yb,true_and] at he;subst he;exact⟨_,_,_,_,hptr',⟨_,hFg⟩,h.rHead hT hd hop hp hne ht hg hty hl⟩
        ·cases he
      ·cases he
     ·cases he
    ·rename_i p y r0 ht;split at he
     ·rename_i q z hany hg;split at he
      ·rename_i hc;simp only[ya,yb,true_and] at he;subst he;obtain⟨y2,_,hy2⟩:=List.any_eq_true.1 hany;obtain⟨g,o',e1,e2,e3⟩:=h.rHeadH hT hd hop hp hne ht hg hc.1 hc.2 (qBB hy2);exact⟨_,_,_,_,e1,⟨_,e2⟩,e3⟩
      ·cases he
     ·cases he
    ·cases he
  ·cases he
 ·cases he
theorem qBy (hn:a.tmps.size=E.nt) (h:RP P base w0 S0 S fr gv a w F) (hT:TyOk P E.toEnv) (hdst:o.dst=some d) (hd:d < a.tmps.size) (he:qtI E fr o d=some (some (true,fr'))) :
 qh P o a w (PPost P base w0 S0 E.nt gv w S F ((fr d).isRoot=false) fr'):=by
 rw[← hn];unfold qtI at he;split at he
 ·rename_i r hr;rw[he] at hr;exact(qjB hn h hT hd hr).does hdst
 ·obtain⟨x,k,_,_,_,_,hy⟩:=qjC hn h hT hd he;exact hy.does hdst
theorem qeq (hn:a.tmps.size=E.nt) (h:RP P base w0 S0 S fr gv a w F) (hT:TyOk P E.toEnv) (hdst:o.dst=none) (hop:o.op=.store t x y) (he:qaA E fr t x y=some (some (true,fr'))) :
 qh P o a w (PPost P base w0 S0 E.nt gv w S F False fr'):=by
 rw[← hn];unfold qaA at he;rw[← hn] at he;split at he
 ·rename_i s r hp;simp only[ya] at he;split at he
  ·rename_i p z ht;split at he
   ·rename_i q y0 ok u v oy hg hy;split at he
    ·rename_i hc;obtain⟨hu,hpl,hty,hz⟩:=hc;subst hu;split at he
     ·rename_i z' hset;simp only[ya,yb] at he;obtain⟨rfl,rfl⟩:=he;exact h.sData hT hdst hop hp ht hg hty hpl hy hset hz
     ·cases he
    ·cases he
   ·cases he
  ·rename_i p z r' ht;split at he
   ·rename_i q y0 z0 hg;split at he
    ·cases he
    rename_i hlt;split at he
    ·rename_i q' m hz0;split at he
     ·rename_i hc;obtain⟨hq,hsl,hty⟩:=hc;subst hq;split at he
      ·rename_i z' hset;simp only[ya,yb] at he;obtain⟨hpe,he⟩:=he;subst he;have hr:=qhl hpe;subst hr;exact h.filled hT hdst hop hp ht hg hty hz0 (Nat.lt_of_not_le hlt) hsl hset
      ·cases he
     ·cases he
    ·cases he
   ·cases he
  ·cases he
 ·simp at he
 ·cases he
theorem qIL (a:Act) (d:Nat) (hd:d < a.tmps.size):a.put (some d) (tv gv a d)=a:=by
 have:a.tmps.setIfInBounds d (a.tmps.getD d (gv d))=a.tmps:=by
  apply Array.ext
  ·simp
  ·intro i h1 h2;rw[Array.getElem_setIfInBounds (by simpa using h1)];split
   ·rename_i e;subst e;simp[Array.getD,hd]
   ·rfl
 unfold Act.put tv;simp only[this]
theorem qvP (hn:a.tmps.size=E.nt) (h:RP P base w0 S0 S fr gv a w F) (hT:TyOk P E.toEnv) (hdst:o.dst=some d) (hd:d < a.tmps.size) (he:qdi E fr o d=some (some (true,fr'))) :
 qh P o a w (PPost P base w0 S0 E.nt gv w S F False fr'):=by
 unfold qdi at he;split at he
 ·cases he
 rename_i q0 hpriv;split at he
 ·
  rename_i hop;simp only[ya] at he;split at he
  ·rename_i y hy;split at he
   ·simp only[ya,yb,true_and] at he;subst he;have hrun:(execOp a.eval o).run P w=.ok (.value (.slice none 0 0)) w:=by
     unfold execOp;simp only[hop];rfl
    have hR:=h.nilRoot hd hy;refine qh.value hrun ⟨by rw[hdst,qg,hn],S,(fun t b=>(t=d∧False)∨(t≠d∧F t b)),?_,Keeps.refl w S,fun hf=>hf.elim⟩;rw[hdst];exact hR
   ·cases he
  ·cases he
 ·
  rename_i c hop;obtain⟨callee,args,argTypes⟩:=c;split at he
  ·rename_i x y t u hc hargs htypes;simp only at hc hargs htypes;subst hc;obtain rfl:args = #[x,y]:=Array.ext' hargs;obtain rfl:argTypes = #[t,u]:=Array.ext' htypes;split at he
   ·cases he
   rename_i fr1 q l hown;simp only[ya] at he;have htake:∃ F',RP P base w0 S0 S (fr1.putP d (.pv q l none)) gv (a.put (some d) (a.eval x)) w F':=by
    unfold qNq at hown;split at hown
    ·split at hown
     ·rename_i y0 hy0;simp only[ya,yb,yD] at hown;obtain⟨rfl,rfl,hl⟩:=hown;obtain rfl:=eq_of_heq hl;exact⟨_,h.nilRoot hd hy0⟩
     ·cases hown
    ·split at hown
     ·rename_i s r hp;split at hown
      ·cases hown
      rename_i hne;split at hown
      ·rename_i p z ht;split at hown
       ·rename_i q' hg;simp only[ya,yb] at hown;obtain⟨rfl,rfl⟩:=hown;rw[← hn] at hp;exact h.takes hd hp hne ht hg
       ·cases hown
      ·cases hown
     ·cases hown
   obtain⟨F1,h1⟩:=htake;split at he
   ·
    rename_i hdeep;unfold pushT at he;split at he
    ·rename_i z;split at he
     ·cases he
     rename_i hz;rw[not_or] at hz;split at he
     ·rename_i q' m hzv;split at he
      ·rename_i hc;obtain⟨hq,hut,hs,hby,hte⟩:=hc;subst hq;subst hut;simp only[ya,yb,ym] at he;obtain⟨hroom,rfl⟩:=he;cases q' with
       | psl te e =>
        obtain⟨v',w',F',r1,r2,r3⟩:=h1.pushesT hd (by rw[hn];exact Nat.lt_of_not_le hz.1) hz.2 hT hop hs hby hte hzv rfl hroom;refine qh.value r1 ⟨by rw[hdst,qg,hn],S,F',?_,r3,fun hf=>hf.elim⟩;rw[hdst];exact r2
       | _=>cases hdeep
      ·cases he
     ·cases he
    ·cases he
   generalize hy:rdo E.toEnv fr true u y=ry at he;obtain⟨ok,vy⟩:=ry;simp only at he;split at he
   ·rename_i hs;split at he
    ·rename_i m hm;simp only[ya,yb,yf,ym] at he;obtain⟨⟨rfl,hroom⟩,rfl⟩:=he;have hry:=(qt h.r hy).1;have hrow:∃ te e,q.rowOf=some (te,e)∧te=(E.ti t).el∧∃ m0:List (Den e),newsV E.toEnv t u e vy=some m0∧HEq m0 m:=by
      cases q with
      | osl te e =>
       simp only[newsD] at hm;split at hm
       ·rename_i hte;exact⟨te,e,rfl,hte,m,hm,HEq.rfl⟩
       ·cases hm
      | psl te e =>
       simp only[newsD] at hm;split at hm
       ·rename_i hc;exact⟨te,e.sh,by simp only[PSh.rowOf,hc.1,if_true],hc.2,m,hm,HEq.rfl⟩
       ·cases hm
      | _=>simp[newsD] at hm
     obtain⟨te,e,hr1,hr2,hr3⟩:=hrow;obtain⟨v',w',S',F',r1,r2,r3⟩:=h1.pushes hd hT hop hry hs.1 hs.2.1 hs.2.2 rfl hr1 hr2 hr3 hroom;refine qh.value r1 ⟨by rw[hdst,qg,hn],S',F',?_,r3,fun hf=>hf.elim⟩;rw[hdst];exact r2
    ·cases he
   ·cases he
  ·cases he
 ·
  rename_i t n parts hop;split at he
  ·rename_i te e;split at he
   ·cases he
   simp only[ya] at he;split at he
   ·rename_i x hparts;obtain rfl:parts = #[(0,x)]:=Array.ext' hparts;unfold qNr at he;split at he
    ·rename_i hc;obtain⟨hs,hte,hsl⟩:=hc;split at he
     ·split at he
      ·rename_i m hm;simp only[ya,yb,true_and] at he;subst he;obtain⟨v',w',F',r1,r2,r3,_⟩:=h.buildsNil hT hd hop hs hte (by cases e <;> first | rfl | cases hm) hm;refine qh.value r1 ⟨by rw[hdst,qg,hn],S,F',?_,r3,fun hf=>hf.elim⟩;rw[hdst];exact r2
      ·cases he
     ·rename_i y;split at he
      ·cases he
      rename_i hy;rw[not_or] at hy;have hyn:y < a.tmps.size:=by rw[hn];exact Nat.lt_of_not_le hy.1
      split at he
      ·rename_i e' m hfy;split at he
       ·rename_i he';subst he';simp only[ya,yb,true_and] at he;subst he;obtain⟨v',w',F',r1,r2,r3,_⟩:=h.buildsOne hT hd hyn hy.2 hop hs hte hsl hfy rfl;refine qh.value r1 ⟨by rw[hdst,qg,hn],S,F',?_,r3,fun hf=>hf.elim⟩;rw[hdst];exact r2
       ·cases he
      ·rename_i s r hfy;split at he
       ·cases he
       rename_i hsd;rw[not_or] at hsd;split at he
       ·rename_i p z htr;split at he
        ·rename_i e' m hg;split at he
         ·rename_i he';subst he';simp only[ya,yb,true_and] at he;subst he;have hpl:qax a.tmps.size fr (.tmp y)=some (false,s,r):=by
           unfold qax;simp only;rw[if_neg (by omega),hfy]
          obtain⟨F0,h0⟩:=h.takes hyn hpl hsd.2 htr hg;have hput:a.put (some y) (a.eval (.tmp y))=a:=by
           rw[← qE gv a y hyn];exact qIL a y hyn
          rw[hput] at h0;obtain⟨v',w',F',r1,r2,r3,_⟩:=h0.buildsOne hT hd hyn hy.2 hop hs hte hsl (qo _ _ _) rfl;refine qh.value r1 ⟨by rw[hdst,qg,hn],S,F',?_,r3,fun hf=>hf.elim⟩;rw[hdst];exact r2
         ·cases he
        ·cases he
       ·cases he
      ·rename_i s c lb te' hfy;split at he
       ·cases he
       rename_i hlb;rw[not_or] at hlb;have hlbn:lb < a.tmps.size:=by rw[hn];exact Nat.lt_of_not_le hlb.1
       split at he
       ·rename_i he';subst he';simp only[ya,yb,true_and] at he;subst he;obtain⟨k1,k2⟩:=h.r.cp y lb te' (by rw[hfy];rfl);obtain⟨F0,h0,_⟩:=h.privatize hlbn (k1.trans hfy);obtain⟨v',w',F',r1,r2,r3,_⟩:=h0.buildsOne hT hd hlbn hlb.2 hop hs hte rfl (qo _ _ _) (show a.tmps.getD y undef=a.tmps.getD lb undef from k2.symm);refine qh.value r1 ⟨by rw[hdst,qg,hn],S,F',?_,r3,fun hf=>hf.elim⟩;rw[hdst];exact r2
       ·cases he
      ·cases he
     ·cases he
    ·cases he
   ·cases he
  ·cases he
 ·cases he
theorem RP.oldStep (hn:a.tmps.size=E.nt) (h:RP P base w0 S0 S fr gv a w F) (hT:TyOk P E.toEnv) (hF:∀ w S,Keeps w0 S0 w S→EnvOk P E w S) (hdst:o.dst=some d) (hd:d < a.tmps.size) (he:stepU E.toEnv fr o d=some (true,fr')) (hp:(fr' d).isPriv=false) :
 qh P o a w (PPost P base w0 S0 E.nt gv w S F ((fr d).isRoot=false) (fr'.sweep d)):=by
 refine(qov (E:=E.toEnv) hn h.r hT (hF _ _ h.kp).1 hdst hd he).tmps.mono fun a' w' ⟨⟨h1,S',h2,h3⟩,v,h4⟩=>?_;rw[hdst] at h4;exact⟨h1,S',_,h.otherD hd h2 h4 (qim he) hp,h3,fun ht t b hb=>⟨h2.below.block b (.inr ⟨t,hb⟩),t,qaX h ht hb,hb⟩⟩
theorem qIM (hn:a.tmps.size=E.nt) (h:RP P base w0 S0 S fr gv a w F) (hT:TyOk P E.toEnv) (hF:∀ w S,Keeps w0 S0 w S→EnvOk P E w S) (hdst:o.dst=some d) (hd:d < a.tmps.size) (he:makeP E fr o d=some (some (true,fr'))) :
 qh P o a w (PPost P base w0 S0 E.nt gv w S F ((fr d).isRoot=false) fr'):=by
 unfold makeP at he;split at he
 ·split at he
  ·rename_i ok e' l k te' hef;simp only[ya] at he;split at he
   ·rename_i hc;obtain⟨rfl,rfl,hf⟩:=hc;simp only[ya,yb] at he;obtain⟨rfl,rfl⟩:=he;rw[← hn];exact h.made hT (hF _ _ h.kp).1 hdst hd hef hf
   ·cases he
  ·cases he
 ·cases he
def qIN:Op→Bool
 | .next _ _=>true
 | _=>false
def qmg (E:EnvP) (fr:Fr) (o:Oper) (d:Nat):Bool :=
 (qdi E fr o d).isNone&&(!(fr d).isRoot && !qIN o.op&&match qtI E fr o d with
  | some _=>true
  | none=>(qbs E.nt fr o.op.operands.toList).isEmpty)
def qot (E:EnvP) (fr:Fr) (o:Oper) (d:Nat):Bool:=(modM E fr o d).isNone&&qmg E fr o d
theorem qBz (hn:a.tmps.size=E.nt) (h:RP P base w0 S0 S fr gv a w F) (hT:TyOk P E.toEnv) (hF:∀ w S,Keeps w0 S0 w S→EnvOk P E w S) (hdst:o.dst=some d) (hd:d < a.tmps.size) (he:qvU E fr o d=some (true,fr')) :
 qh P o a w (PPost P base w0 S0 E.nt gv w S F (qmg E fr o d=true) fr'):=by
 unfold qvU at he;unfold qmg;split at he
 ·rename_i r hr;subst he;rw[hr];exact(qvP hn h hT hdst hd hr).mono fun a' w' hp=>hp.mono (fun ht=>by simp at ht)
 rename_i hna;rw[hna];simp only[Option.isNone_none,y6];split at he
 ·rename_i r hr;subst he;rw[hr];exact(qBy hn h hT hdst hd hr).mono fun a' w' hp=>hp.mono (fun ht=>by simp only[yf] at ht;simpa using ht.1.1)
 ·rename_i hr;rw[hr];split at he
  ·cases he
  ·rename_i fr1 hf;obtain⟨S1,F1,h1,h2,h3⟩:=RP.freezes hn _ _ _ _ _ h hf;have fin:∀ {fr'':Fr} {a':Act} {w':World} {T:Prop},((fr1 d).isRoot=false→qIN o.op=false→T)→PPost P base w0 S0 E.nt gv w S1 F1 T fr'' a' w' →
    PPost P base w0 S0 E.nt gv w S F ((!(fr d).isRoot && !qIN o.op&&(qbs E.nt fr o.op.operands.toList).isEmpty)=true) fr'' a' w':=fun hT' hp=>by
    by_cases hl:qbs E.nt fr o.op.operands.toList=[]
    ·obtain⟨e1,e2,e3⟩:=h3 hl;subst e1 e2 e3;exact hp.mono (fun ht=>by simp only[yf] at ht;exact hT' (by simpa using ht.1.1) (by simpa using ht.1.2))
    ·have:=PPost.of (F:=F) h2 hp;exact this.mono (fun ht=>by simp only[yf] at ht;exact hl (by simpa using ht.2))
   split at he
   ·rename_i r hm;subst he;exact(qIC hn h1 hT (hF _ _ h1.kp).2.1 hdst hd hm).mono fun a' w' hp=>fin (fun k1 k2=>⟨k1,fun x b e=>by rw[e] at k2;cases k2⟩) hp
   split at he
   ·rename_i r hm;subst he;exact(qIE hn h1 hT hdst hd hm).mono fun a' w' hp=>fin (fun k1 _=>k1) hp
   split at he
   ·rename_i r hm;subst he;exact(qIM hn h1 hT hF hdst hd hm).mono fun a' w' hp=>fin (fun k1 _=>k1) hp
   ·split at he
    ·rename_i ok fr2 hs;split at he
     ·cases he
     ·rename_i hpr;simp only[ya,yb] at he;obtain⟨rfl,rfl⟩:=he;exact(h1.oldStep hn hT hF hdst hd hs (by simpa using hpr)).mono fun a' w' hp=>fin (fun k1 _=>k1) hp
    ·cases he
theorem qvQ (hn:a.tmps.size=E.nt) (h:RP P base w0 S0 S fr gv a w F) (hT:TyOk P E.toEnv) (hF:∀ w S,Keeps w0 S0 w S→EnvOk P E w S) (hdst:o.dst=some d) (hd:d < a.tmps.size) (he:stepD E fr o d=some (true,fr')) :
 qh P o a w (PPost P base w0 S0 E.nt gv w S F (qot E fr o d=true) fr'):=by
 unfold stepD at he;unfold qot;split at he
 ·rename_i r hr;subst he;rw[hr];unfold modM at hr;split at hr
  ·rename_i r2 hr2;simp only[ya] at hr;subst hr;exact(qvC hn h (hF _ _ h.kp) hdst (fun d e=>by cases e;exact hd) hr2).mono fun a' w' hp=>hp.mono (fun ht=>by simp at ht)
  ·exact(qIF hn h hdst hd (fun t hmt=>((hF _ _ h.kp).2.2.2.2.2 t t t hmt).elim (fun hh=>absurd rfl hh.1) (·.2)) hr).mono fun a' w' hp=>hp.mono (fun ht=>by simp at ht)
 ·rename_i hr;rw[hr];simp only[Option.isNone_none,y6];exact qBz hn h hT hF hdst hd he
theorem qeT (h:RP P base w0 S0 S fr gv a w F) {j:Nat} {want G:Bool} (hg:o.guard=some (j,want)) (he:qmn ops fr j want=some G):Region.wanted o (yielded ops a.tmps)=G:=qin h.r hg he
def tameP (E:EnvP) (ops:Array Oper) (fr:Fr) (o:Oper):Bool :=
 match o.dst with
 | some d=>match o.guard with
  | none=>qot E fr o d
  | some (j,want)=>match qmn ops fr j want with
   | some true=>qot E fr o d
   | _ => !(fr d).isRoot
 | none=>match o.op with
  | .store t x y=>(qaA E fr t x y).isNone&&(qbs E.nt fr [y]).isEmpty
  | _=>false
theorem qjj (h:qbG E fr t x y=none):qaA E fr t x y=none:=by
 unfold qbG at h;split at h
 ·split at h
  ·cases h
  ·split at h <;> cases h
 ·exact h
theorem qjk {r:Option (Bool×Fr)} (h:qbG E fr t x y=some r):(qaA E fr t x y).isNone=false:=by
 unfold qbG at h;split at h
 ·rename_i e;rw[e];rfl
 ·rw[h];rfl
theorem qmh (hn:a.tmps.size=E.nt) (h:RP P base w0 S0 S fr gv a w F) (hT:TyOk P E.toEnv) (hdst:o.dst=none) (hop:o.op=.store t x y) (he:qbG E fr t x y=some (some (true,fr'))) :
 qh P o a w (PPost P base w0 S0 E.nt gv w S F False fr'):=by
 unfold qbG at he;split at he
 ·split at he
  ·rename_i r hy;obtain rfl:=yp (yp he);unfold qml at hy;split at hy
   ·rename_i s z0 hp hps;split at hy
    ·rename_i p z q m ht hz0;split at hy
     ·rename_i hc;obtain⟨rfl,hag,hty,hlt,hne⟩:=hc;simp only[ya,yb,true_and] at hy;subst hy;rw[← hn];exact h.refilled hT hdst hop (by rw[hn];exact hp) ht hty hz0 (by rw[hn];exact hlt) hne (by cases q <;> first | rfl | cases hag)
     ·cases hy
    ·cases hy
   ·cases hy
  split at he
  ·rename_i r hy;obtain rfl:=yp (yp he);unfold qmk at hy;split at hy
   ·rename_i fr0 h0;unfold ownY at h0;split at h0
    ·rename_i yy;split at h0
     ·cases h0
     rename_i hlt;split at h0
     ·rename_i e c lb te hfy;split at h0
      ·rename_i hlb;subst hlb;simp only[ya] at h0;subst h0;obtain⟨F0,h1,h2⟩:=h.privatize (by rw[hn];exact Nat.lt_of_not_le hlt) hfy;have he':qaA E ((fr.spend lb).putP lb (.pv (.osl te e) c none)) t x (.tmp lb)=some (some (true,fr')):=by
        cases hq:qaA E ((fr.spend lb).putP lb (.pv (.osl te e) c none)) t x (.tmp lb) with
        | none=>rw[hq] at hy;cases hy
        | some q=>rw[hq] at hy;exact congrArg some hy
       exact(qeq hn h1 hT hdst hop he').mono fun a' w' hp=>PPost.of (F:=F) (Keeps.refl _ _) hp
      ·cases h0
     ·cases h0
    ·cases h0
   ·cases hy
  simp only[ya] at he;split at he
  ·rename_i fr1 hf;obtain⟨S1,F1,h1,h2,h3⟩:=RP.freezes hn _ _ _ _ _ h hf;have he':qaA E fr1 t x y=some (some (true,fr')):=by
    cases hq:qaA E fr1 t x y with
    | none=>rw[hq] at he;cases he
    | some q=>rw[hq] at he;exact congrArg some he
   exact(qeq hn h1 hT hdst hop he').mono fun a' w' hp=>PPost.of (F:=F) h2 hp
  ·cases he
 ·exact qeq hn h hT hdst hop he
theorem qIO (hn:a.tmps.size=E.nt) (h:RP P base w0 S0 S fr gv a w F) (hT:TyOk P E.toEnv) (hF:∀ w S,Keeps w0 S0 w S→EnvOk P E w S) (he:stepP E ops fr o=some (true,fr')) :
 (Region.wanted o (yielded ops a.tmps)=true∧qh P o a w (PPost P base w0 S0 E.nt gv w S F (tameP E ops fr o=true) fr')) ∨
 (Region.wanted o (yielded ops a.tmps)=false∧PPost P base w0 S0 E.nt gv w S F (tameP E ops fr o=true) fr' (a.put o.dst undef) w):=by
 unfold stepP at he;unfold tameP;split at he
 ·rename_i d hdst;simp only[hdst];split at he
  ·cases he
  rename_i hlt;have hd:d < a.tmps.size:=by rw[hn];exact Nat.lt_of_not_le hlt
  split at he
  ·rename_i hg;have hw:Region.wanted o (yielded ops a.tmps)=true:=by simp[Region.wanted,hg]
   simp only[hg];exact .inl ⟨hw,qvQ hn h hT hF hdst hd he⟩
  ·rename_i j want hg;simp only[hg];split at he
   ·rename_i hG;simp only[hG];exact .inl ⟨qeT h hg hG,qvQ hn h hT hF hdst hd he⟩
   ·rename_i hG;simp only[ya,yb,true_and] at he;subst he;simp only[hG];refine .inr ⟨qeT h hg hG,?_⟩;have:=h.putDat hd (val:=undef) (v:=.cnd false .bad) (.cnd _ _ _ (fun _=>rfl) (fun e=>by cases e)) rfl rfl;exact⟨by rw[qg,hn],S,fun t b=>t≠d∧F t b,this,Keeps.refl w S,fun ht t b hb=>⟨rfl,t,qaX h (by simpa using ht) hb,hb⟩⟩
   ·cases he
 ·rename_i hdst;simp only[hdst];split at he
  ·rename_i t x y hg hop;have hw:Region.wanted o (yielded ops a.tmps)=true:=by simp[Region.wanted,hg]
   simp only[hop];refine .inl ⟨hw,?_⟩;split at he
   ·rename_i r hr;subst he;rw[qjk hr];exact(qmh hn h hT hdst hop hr).mono fun a' w' hp=>hp.mono (fun ht=>by simp at ht)
   ·rename_i hr0;have hr:=qjj hr0;rw[hr];split at he
    ·cases he
    ·rename_i fr1 hf;obtain⟨S1,F1,h1,h2,h3⟩:=RP.freezes hn _ _ _ _ _ h hf;rcases qwa (E:=E.toEnv) hn h1.r hT (hF _ _ h1.kp).1 he with ⟨_,hd⟩ | ⟨hw',_⟩
     ·refine hd.tmps.mono fun a' w' ⟨⟨k1,S',k2,k3⟩,v,k4⟩=>?_;have ha:a'.tmps=a.tmps:=by rw[k4,hdst];rfl
      have hkp:∀ t,(fr' t).isPriv=true∨(fr1 t).isPriv=true→fr' t=fr1 t:=fun t ht=>by
       unfold qjo at he;simp only[hdst,hg,hop] at he;split at he
       ·rename_i okx b p oky u z oz _ _;split at he
        ·rename_i s q hb;split at he
         ·split at he
          ·simp only[ya,yb] at he;obtain⟨_,rfl⟩:=he;unfold Fr.rebox at *
           by_cases htb:t=b
           ·subst htb;rw[if_pos rfl] at *
            rcases ht with ht | ht
            ·cases ht
            ·rw[hb] at ht;cases ht
           ·rw[if_neg htb]
          ·cases he
         ·cases he
        ·cases he
       ·cases he
      have htv:∀ t,tv gv a' t=tv gv a t:=fun t=>by unfold tv;rw[ha]
      have hrr:∀ v:AV,v.isRoot=true→v.isPriv=true:=fun v hv=>by unfold AV.isPriv;rw[hv];rfl
      have hR:=h1.upd (fun _=>False) (F':=F1) (k2.rebase (fun k hk=>hk)) ⟨k2.below.os,k2.below.tape,k2.below.output,k2.below.size,fun k hk=>k2.below.block k (.inl hk)⟩ (fun b o hB=>k2.old b o (.inl hB)) k2.kp (fun _ _ _=>Iff.rfl)
       (fun t b _ hb=>k2.below.block b (.inr ⟨t,hb⟩)) (fun t b o _ hb=>k2.old b o (.inr ⟨t,hb⟩))
       (fun t _=>⟨by
        cases e1:(fr' t).isRoot with
        | true=>rw[hkp t (.inl (hrr _ e1))] at e1;exact e1.symm
        | false=>cases e2:(fr1 t).isRoot with
         | true=>rw[hkp t (.inr (hrr _ e2)),e2] at e1;cases e1
         | false=>rfl,fun hh=>⟨hkp t (.inr (hrr _ hh)),htv t⟩⟩)
       (fun _ _ hf=>hf.elim) (fun _ _ _ hf=>hf.elim) (fun _ hf=>hf.elim) (fun _ hf=>hf.elim)
       (fun t s r ht=>.inl ⟨fun hf=>hf,by rw[← hkp t (.inl (by rw[ht];rfl))];exact ht,htv t⟩) (fun t s r ht=>.inl ⟨fun hf=>hf,by rw[← hkp t (.inl (by rw[ht];rfl))];exact ht,htv t⟩)
      refine⟨k1,S',F1,hR,h2.trans k3,fun ht t b hb=>?_⟩;have hl:qbs E.nt fr [y]=[]:=by simpa using ht
      obtain⟨e1,e2,e3⟩:=h3 hl;subst e2;exact⟨k2.below.block b (.inr ⟨t,hb⟩),t,hb⟩
     ·rw[hw] at hw';cases hw'
  ·rename_i c hg hop;have hw:Region.wanted o (yielded ops a.tmps)=true:=by simp[Region.wanted,hg]
   simp only[hop];refine .inl ⟨hw,?_⟩;split at he
   ·rename_i r hr;subst he;exact(qvC hn h (hF _ _ h.kp) hdst (fun d e=>by cases e) hr).mono fun a' w' hp=>hp.mono (fun ht=>by simp at ht)
   ·cases he
  ·cases he
theorem RP.res1 (h:RP P base w0 S0 S fr gv a w F) {fr2:Fr} (hr:Res1 fr fr2):RP P base w0 S0 S fr2 gv a w F:=by
 rcases id hr with rfl | ⟨d,b,x,y,v,h1,h2,h3,rfl⟩
 ·exact h
 have hat:∀ t,fr.set d v t=if t=d then v else fr t:=fun t=>rfl
 have hv:v.isRoot=false∧v.isRef=false:=by cases v <;> first | exact⟨rfl,rfl⟩ | cases h3
 have hd:(fr d).isRoot=false:=by rw[h1];rfl
 refine h.upd (fun _=>False) ((h.r.res1 hr).rebase (fun k hk=>hk)) (Kept.refl _ _) (fun _ _ _=>Iff.rfl) (Keeps.refl _ _) (fun _ _ _=>Iff.rfl) (fun _ _ _ _=>rfl) (fun _ _ _ _ _=>Iff.rfl)
  (fun t _=>?_) (fun _ _ hf=>hf.elim) (fun _ _ _ hf=>hf.elim) (fun _ hf=>hf.elim) (fun _ hf=>hf.elim) (fun t s r ht=>?_) (fun t s r ht=>?_)
 ·rw[hat];split
  ·rename_i e;subst e;exact⟨by rw[hv.1,hd],fun e=>by rw[hd] at e;cases e⟩
  ·exact⟨rfl,fun _=>⟨rfl,rfl⟩⟩
 ·rw[hat] at ht;split at ht
  ·have:=hv.2;rw[ht] at this;cases this
  ·exact .inl ⟨fun hf=>hf,ht,rfl⟩
 ·rw[hat] at ht;split at ht
  ·have:=hv.2;rw[ht] at this;cases this
  ·exact .inl ⟨fun hf=>hf,ht,rfl⟩
end
end
section
open Go.RowKit Go.Lib
section
end
end
end Go.Av
