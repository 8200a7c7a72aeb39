import Derived.Test.YtmageajchmoomaaGreatDoorAvA
import Derived.Lib.ConvBytes
import Derived.OrdersHeld
import Derived.LoopN
import Derived.Below
import Derived.ChangeSame
import Derived.OpenShut
import Derived.Lib.FrozenHead
import Derived.CallsIn
import Derived.MapKept
namespace Go.Av
set_option linter.unusedSimpArgs false
set_option linter.unusedVariables false
section
open Go.RowKit Go.Lib
variable {w':World} {d k lb:Nat} {v:AV} {e s:Sh} {te t dst:TypeId} {o:Oper} {x:Operand} {ob:Lab}
section
variable {base:Nat→Prop} {w0 w:World} {S0 S:qa} {fr:Fr} {a:Act} {P:Program} {E:Env}
def RR (base:Nat→Prop) (w0:World) (S0:qa) (n:Nat) (fr:Fr) (a:Act) (w:World):Prop:=a.tmps.size=n∧∃ S,R base w0 S0 S fr a w
def RK (base:Nat→Prop) (w0:World) (S0:qa) (n:Nat) (wi:World) (Si:qa) (fr:Fr) (a:Act) (w:World):Prop:=a.tmps.size=n∧∃ S,R base w0 S0 S fr a w∧Keeps wi Si w S
theorem qdD (hS:∀ b o,S b o→b < w.heap.size) (hb:Below w.heap.size w w'):Keeps w S w' S :=
 fun b o hs=>⟨hs,qj (hb.block b (hS b o hs)) o⟩
theorem qwb (a:Act) (d:Nat) (hd:d < a.tmps.size):a.put (some d) (a.tmps.getD d undef)=a:=by
 unfold Act.put;simp only;have:a.tmps.setIfInBounds d (a.tmps.getD d undef)=a.tmps:=by
  apply Array.ext
  ·simp
  ·intro i h1 h2
   by_cases h:d=i
   ·subst h;simp[Array.getD,hd]
   ·rw[Array.getElem_setIfInBounds_ne _ h]
 rw[this]
theorem R.put_copy (h:R base w0 S0 S fr a w) (hd:d < a.tmps.size) {val:Value} (hv:Rd w S val v) (hc:Cpy fr a v val) (hok:okPut d v=true) :
 R base w0 S0 S (fr.put d v) (a.put (some d) val) w:=by
 have hne:∀ te,v.lab≠some (d,te):=fun te he=>by
  cases v with
  | dat s x o =>
   simp only[AV.lab] at he;subst he;simp[okPut] at hok
  | _=>simp[AV.lab] at he
 refine h.put hd hv hc.sl (fun l e he _=>hc.cp l e he) ?_ ?_ ?_ ?_ ?_ ?_ ?_ (fun f ss e=>⟨fun hm=>by subst e;simp[okPut] at hok;exact hok hm,hc.cl f ss e⟩)
 ·intro e x te he;exact absurd (by rw[he];rfl) (hne te)
 ·intro te he;exact absurd he (hne te)
 ·intro s x he;exact absurd he (hc.nb s x)
 ·intro s x he;exact absurd he (hc.nb s x)
 ·intro s x he;exact absurd he (hc.nb s x)
 ·intro te he;exact absurd he (hne te)
 ·intro s p he;refine⟨?_,hc.bd s p he⟩;subst he;simpa [okPut] using hok
theorem R.give (h:R base w0 S0 S fr a w) {l:Nat} (hd:d < a.tmps.size) {x:List (Den e)} (hl:fr l=.dat (.sl e) x (some (l,te))) :
 R base w0 S0 S ((fr.spend l).put d (.dat (.sl e) x (some (d,te)))) (a.put (some d) (a.tmps.getD l undef)) w:=by
 have hsp:=h.spend l;have hrd:=h.rd l;rw[hl] at hrd;refine hsp.put hd (hrd.relab (some (d,te))) ?_ ?_ ?_ ?_ ?_ ?_ ?_ ?_ ?_
 ·intro s y l' he;obtain⟨rfl,_⟩:=AV.dat.inj he;exact⟨e,rfl⟩
 ·intro l' e' he hne';simp only[AV.lab,ya,yb] at he;exact absurd he.1.symm hne'
 ·intro e1 y te1 he;obtain⟨h4,h5,h6⟩:=AV.dat.inj he;obtain rfl:e=e1:=by simpa using h4
  obtain rfl:=eq_of_heq h5;simp only[ya,yb,true_and] at h6;subst h6;exact h.own l e x te hl
 ·intro te1 _ l' e' b _ hl' hb hc;have hcp:=hsp.cp l' l' e';obtain⟨k1,k2⟩:=qbv hl';exact h.dist l l' te e' b (by rw[hl];rfl) k1 (Ne.symm k2) hc hb
 ·intro s y he;cases he
 ·intro s y he;cases he
 ·intro s y he;cases he
 ·intro te1 _ t s y b _ hf hb hc;exact h.boxo t s y b l te (qbQ hf) hb (by rw[hl];rfl) hc
 ·intro s p he;cases he
theorem qoz {w:World} {n:Nat} {size:Nat} {v:Value} {xs:List Value} (h:w.ownsRow n te size v k xs):w.ownsRow 0 te size v k xs:=by
 refine⟨h.1,?_⟩;rcases h.2 with k | ⟨g,cap,cur,k4,_,k6⟩
 ·exact .inl k
 ·exact .inr ⟨g,cap,cur,k4,Nat.zero_le _,k6⟩
theorem R.appended_nil (h:R base w0 S0 S fr a w) (hd:d < a.tmps.size) {m:List (Den e)} {v':Value} {news:List Value}
 (hnew:qd (RdC w S e) m news) (happ:App w w.heap.size te e.size (.slice none 0 0) 0 m.length [] news v' w') :
 ∃ S',R base w0 S0 S' (fr.put d (.dat (.sl e) ([]++m) (some (d,te)))) (a.put (some d) v') w'∧Keeps w S w' S':=by
 let S':qa:=fun b o=>S b o∨(v'.ownBlock=some b∧o < m.length*e.size)
 refine⟨S',?_⟩;obtain⟨hown,hloc⟩:=happ;simp only[yE,List.nil_append] at hown ⊢;have hb:Below w.heap.size w w':=by
  rcases hloc with ⟨_,g⟩ | ⟨_,g⟩
  ·exact qeF g
  ·exact g
 have hvb':∀ b,v'.ownBlock=some b→w.heap.size≤b∧b < w'.heap.size:=hown.lt;have g:Grew w S w' S':=⟨hb,fun b o hlt=>⟨fun hs=>hs.elim id (fun hh=>by have:=(hvb' b hh.1).1;omega),.inl⟩,
  fun b o hs=>hs.elim (fun k=>yH (h.slt b o k) hb.size) (fun k=>(hvb' b k.1).2)⟩
 have hk:=g.keeps h.slt;have hown':qcb w' S' (· < w.heap.size) te e v' m:=by
  refine⟨news,qoz hown,hnew.mono (RdC.keeps hk e),fun b hb' o=>⟨fun hs=>hs.elim (fun k=>by have:=h.slt b o k;have:=(hvb' b hb').1;omega) (·.2),fun hs=>.inr ⟨hb',hs⟩⟩,fun b hb'=>Nat.not_lt_of_le (hvb' b hb').1⟩
 refine⟨h.fresh hd g ?_ (fun _ _ e=>by cases e) (fun _ _ e=>by cases e) (fun l te' he=>?_),hk⟩
 ·rcases hown.2 with ⟨rfl,h0⟩ | ⟨gg,cap,cur,rfl,hbg,hg,hnc,hcm,hcs,htake⟩
  ·have hnil:m=[]:=yF h0;rw[hnil];exact qcc _ rfl (yv _) (cs:=[]) rfl (fun hh=>absurd rfl hh)
  ·refine qcc _ rfl hnc (hnew.mono (RdC.keeps hk e)) (fun _=>⟨_,rfl,rfl,fun i u hu=>⟨.inr ⟨rfl,?_⟩,?_⟩⟩)
   ·have h1:=(List.getElem?_eq_some_iff.1 hu).1;have h2:=hown.1;show 0+i < _;omega
   ·have c2:=hown.cells (g:=gg) rfl i u hu;rw[qdm _ _ rfl] at c2;exact c2
 ·simp only[AV.lab,ya,yb] at he;obtain⟨rfl,rfl⟩:=he;exact⟨rfl,e,m,rfl,hown'⟩
theorem qeW (s:ByteArray):qd (RdC w S .byte) s.data.toList (strCells s):=by
 unfold strCells;generalize s.data.toList=l;induction l with
 | nil=>rfl
 | cons b l ih=>exact⟨[_],_,rfl,by simp only[RdC],ih⟩
theorem qtM (h:R base w0 S0 S fr a w) (hT:TyOk P E) (hdst:o.dst=some d) (hd:d < a.tmps.size) {y:Operand} {u:TypeId} {lb:Option Nat} {l m:List (Den e)} {vy:AV}
 (hop:o.op=.call { callee:=.builtin .append,args := #[x,y],argTypes := #[t,u] })
 (hx:qIX E fr t x=some (true,lb,⟨e,l⟩)) (hy:rdo E fr true u y=(true,vy)) (hs:(E.ti t).sh=some (.sl e)) (hby:(E.ti (E.ti t).el).bytes≤1024) (hu:(E.ti u).sh=shOf vy)
 (hm:newsV E t u e vy=some m) (hroom:l.length+m.length≤room) :
 qh P o a w (RK base w0 S0 a.tmps.size w S ((qBG fr lb).put d (.dat (.sl e) (l++m) (some (d,(E.ti t).el))))):=by
 obtain⟨te,ht,hte,hpos,rfl⟩:=(hT t _ hs).desc;obtain⟨i,z,hi,hsz,hbys,hz,hrd⟩:=(hT _ _ hte).info;have hzs:z.cells.size=e.size:=by have:=RdC.length _ _ _ (hrd w S).cells;simpa using this
 have hroom':l.length+m.length≤1073741824:=hroom;have h63:l.length+m.length≤maxLen:=by unfold maxLen;omega
 have hbytes:(l.length+m.length)*(E.ti (E.ti t).el).bytes≤140737488355328:=yL (Nat.mul_le_mul hroom' hby) (by decide);have hrun:∀ {v':Value} {w':World},(Builtin.append_ #[t,u] o.type #[a.eval x,a.eval y]).run P w=.ok v' w'→(execOp a.eval o).run P w=.ok (.value v') w':=fun hr=>by
  unfold execOp;simp only[hop,resolve,invoke,builtin,yh,yu,ye,List.map_toArray,yI,List.map_nil,hr]
 have howner:∃ fr1 lb1,R base w0 S0 S fr1 a w∧fr1 lb1=.dat (.sl e) l (some (lb1,(E.ti t).el))∧a.tmps.getD lb1 undef=a.eval x∧(fr1.spend lb1).put d (.dat (.sl e) (l++m) (some (d,(E.ti t).el)))=(qBG fr lb).put d (.dat (.sl e) (l++m) (some (d,(E.ti t).el))) ∨
  (lb=none∧l=[]∧a.eval x=.slice none 0 0):=by
  unfold qIX at hx;split at hx
  ·split at hx
   ·rename_i e' he';simp only[ya,yb,true_and,yD] at hx;obtain⟨rfl,rfl,hx⟩:=hx;have:=eq_of_heq hx;exact⟨fr,0,.inr ⟨rfl,this.symm,rfl⟩⟩
   ·cases hx
  ·split at hx
   ·rename_i ok e' l' lb' te' hr;split at hx
    ·rename_i hte';simp only[ya,yb,yD] at hx;obtain⟨rfl,rfl,rfl,hx⟩:=hx;obtain rfl:=eq_of_heq hx;obtain⟨h1,h2⟩:=(qt h hr).2.cp lb' te' rfl;exact⟨fr,lb',.inl ⟨h,by rw[h1,hte'],h2,rfl⟩⟩
    ·cases hx
   ·cases hx
 have hnews:∀ bs v xs,bs≤w.heap.size→w.ownsRow bs (E.ti t).el e.size v l.length xs→a.eval x=v→∃ v' w' news,(execOp a.eval o).run P w=.ok (.value v') w'∧qd (RdC w S e) m news∧App w bs (E.ti t).el e.size v l.length m.length xs news v' w':=fun bs v xs hbs hxs hev=>by
  have hry:=(qt h hy).1;unfold newsV at hm;split at hm
  ·rename_i e' m' o';split at hm
   ·rename_i hc;obtain⟨rfl,rfl⟩:=hc;simp only[ya] at hm;subst hm;obtain⟨A,cap,cs,ey,hcap,hch,hmem⟩:=rd_sl hry;have hcl:=qd.length (RdC.length e') hch;cases A with
    | none =>
     have hcs:cs=[]:=by
      rcases cs with _ | ⟨c,cs⟩
      ·rfl
      ·obtain⟨ad,e,_⟩:=hmem (by simp);cases e
     subst hcs;have hm0:List.length m'=0:=by
      rcases Nat.eq_zero_or_pos (List.length m') with h0 | h0
      ·exact h0
      ·have:=Nat.mul_pos h0 hpos;simp at hcl;omega
     obtain⟨r1,r2⟩:=qvb (P:=P) w bs u o.type _ i e'.size ht hi v l.length xs hxs cap;refine⟨v,w,[],hrun (by rw[hev,ey,hm0];exact r1),hch,?_⟩;rw[hm0];exact r2
    | some ad =>
     obtain⟨v',w',r1,r2⟩:=qks (P:=P) w bs u o.type _ i z e'.size _ ht hi hz hsz hbys hzs hpos v l.length xs hxs ad (List.length m') cap cs hcl
      (fun j q hq=>by
       have hne:cs≠[]:=by rintro rfl;simp at hq
       obtain⟨ad',e,hmm⟩:=hmem hne;simp only[ya] at e;subst e;rw[qdm _ _ hmm.1];exact(hmm.2 j q hq).2) (qd.oneCell (RdC.oneCell e') hch) h63 hbytes hbs
     exact⟨v',w',cs,hrun (by rw[hev,ey];exact r1),hch,r2⟩
   ·cases hm
  ·rename_i m' o';split at hm
   ·rename_i hc;obtain⟨rfl,hb1⟩:=hc;simp only[ya] at hm;subst hm;obtain⟨b,ey,hb⟩:=qcS hry;have hus:=(hT u .str hu).desc;have hz':i.zero=some (.int .u8 0):=by
     rw[hz];exact congrArg some (qbC (o:=none) (Rd.dat .byte (0:UInt8) none z (hrd w S)))
    have hsize:b.size=List.length m':=by rw[← hb];simp
    obtain⟨v',w',r1,r2⟩:=qGG (P:=P) w bs t u o.type _ i ht hus hi hz' hsz (by rw[hbys];exact hb1) v l.length xs hxs b (by rw[hsize];exact h63) (by rw[hsize];omega) hbs;refine⟨v',w',strCells b,hrun (by rw[hev,ey];exact r1),by rw[← hb];exact qeW b,?_⟩;rw[← hsize];exact r2
   ·cases hm
  ·cases hm
 obtain⟨fr1,lb1,⟨h1,h2,h3,h4⟩ | ⟨rfl,rfl,hev⟩⟩:=howner
 ·have hown:=h1.own lb1 e l _ h2;obtain⟨xs,hxs,hch,hst⟩:=hown;rw[h3] at hxs;obtain⟨v',w',news,r1,r2,r3⟩:=hnews 0 _ xs (Nat.zero_le _) hxs rfl;refine qh.value r1 ⟨by rw[hdst,qg],?_⟩;rw[hdst,← h4];exact h1.appended hd h2 h3 ⟨xs,hxs,hch,by rw[← h3];exact hst⟩ hxs hch r2 r3
 ·obtain⟨v',w',news,r1,r2,r3⟩:=hnews w.heap.size (.slice none 0 0) [] (yv _) (World.ownsRow_nil w _ _ _) hev;refine qh.value r1 ⟨by rw[hdst,qg],?_⟩;rw[hdst];exact h.appended_nil hd r2 r3
theorem qwc (h:R base w0 S0 S fr a w) (hT:TyOk P E) (hdst:o.dst=some d) (hd:d < a.tmps.size) (hop:o.op=.alloc t) (hs:(E.ti t).sh=some s) :
 qh P o a w (RK base w0 S0 a.tmps.size w S (fr.put d (.box s (dflt s)))):=by
 obtain⟨i,z,hi,hsz,_,hz,hrd⟩:=(hT t _ hs).info;have hrun:(execOp a.eval o).run P w=.ok (.value (.pointer (some ⟨w.heap.size,0,none⟩))) (w.alloc (.cells z.cells t)):=by
  unfold execOp;simp only[hop];refine run_v ?_;simp[Instr.alloc,zeroValue,typeInfo,hi,hz,newVar,newRow]
 refine qh.value hrun ⟨by rw[hdst,qg],?_⟩;rw[hdst];exact⟨S,h.boxed hd (qK w _) (yv _) (heap_alloc_new w _) (hrd w S).cells,qdD h.slt (qK w _)⟩
theorem qIV (h:R base w0 S0 S fr a w) (hdst:o.dst=some d) (hd:d < a.tmps.size) {z:Den s} (m:Bool) (hop:o.op=.box t x)
 (hx:rdo E fr true t x=(true,.dat s z ob)) :
 qh P o a w (RK base w0 S0 a.tmps.size w S (fr.put d (if m then .box s z else .adr s z))):=by
 have hc:=qdb (qt h hx).1;have hrun:(execOp a.eval o).run P w=.ok (.value (.pointer (some ⟨w.heap.size,0,none⟩))) (w.alloc (.cells (a.eval x).cells t)):=by
  unfold execOp;simp only[hop];refine run_v ?_;simp[Instr.box,newVar,newRow]
 refine qh.value hrun ⟨by rw[hdst,qg],?_⟩;rw[hdst];cases m with
 | true=>exact⟨S,h.boxed hd (qK w _) (yv _) (heap_alloc_new w _) hc,qdD h.slt (qK w _)⟩
 | false =>
  have g:=qeI h.slt (.cells (a.eval x).cells t) (a.eval x).cells.size;refine⟨_,h.fresh hd g ?_ (fun _ _ e=>by cases e) (fun _ _ e=>by cases e) (fun l te he=>by simp[AV.lab] at he),g.keeps h.slt⟩;refine .adr _ _ _ _ (RdC.keeps (g.keeps h.slt) _ _ _ hc) ⟨rfl,fun _=>⟨rfl,fun i v hv=>⟨.inr ⟨rfl,?_⟩,?_⟩⟩⟩
  ·have:=(List.getElem?_eq_some_iff.1 hv).1;simp only[Array.length_toList] at this;show 0+i < _;omega
  ·have hheap:(w.alloc (.cells (a.eval x).cells t)).heap[w.heap.size]? = some (.cells (a.eval x).cells t (0,0)):=heap_alloc_new w _;simp only[World.cell?,hheap,Option.isSome_none,yq,if_false,yE];simpa using hv
theorem qrf (h:R base w0 S0 S fr a w) (hdst:o.dst=some d) (hd:d < a.tmps.size) (hop:o.op=.assign x) (hx:rdo E fr true t x=(true,v)) (hok:okPut d v=true) :
 qh P o a w (RK base w0 S0 a.tmps.size w S (fr.put d v)):=by
 have hrun:(execOp a.eval o).run P w=.ok (.value (a.eval x)) w:=by
  unfold execOp;simp only[hop];rfl
 refine qh.value hrun ⟨by rw[hdst,qg],S,?_,Keeps.refl w S⟩;rw[hdst];exact h.put_copy hd (qt h hx).1 (qt h hx).2 hok
theorem qBE (h:R base w0 S0 S fr a w) (hT:TyOk P E) (hdst:o.dst=some d) (hd:d < a.tmps.size) {src:TypeId} {s:List UInt8} (hop:o.op=.convert src dst x)
 (hx:rdo E fr true src x=(true,.dat .str s ob)) (hs:(E.ti dst).sh=some (.sl .byte)) (hsrc:(E.ti src).sh=some .str) :
 qh P o a w (RK base w0 S0 a.tmps.size w S (fr.put d (.dat (.sl .byte) s none))):=by
 obtain⟨b,ev,hb⟩:=qcS (qt h hx).1;obtain⟨te,hd1,hte,_,rfl⟩:=(hT dst _ hs).desc;have hel:=(hT _ _ hte).desc;have hsr:=(hT src _ hsrc).desc;have hrun:(execOp a.eval o).run P w=.ok (.value (.slice (some ⟨w.heap.size,0,none⟩) b.size (grownCap w b.size 0 (E.ti dst).el))) (Lib.bytesWorld w (E.ti dst).el b):=by
  unfold execOp;simp only[hop];refine run_v ?_;rw[ev];exact Lib.run_convert_string_bytes w src dst _ b hsr hd1 hel
 have hsz:b.size=s.length:=by rw[← hb];simp
 have hbel:Below w.heap.size w (Lib.bytesWorld w (E.ti dst).el b):=⟨rfl,rfl,rfl,by rw[Lib.bytesWorld_size];omega,fun k hk=>Lib.bytesWorld_at_old w _ b k hk⟩;have g:Grew w S (Lib.bytesWorld w (E.ti dst).el b) (fun k j=>S k j∨(k=w.heap.size∧j < b.size)) :=
  ⟨hbel,fun k j hk=>⟨fun hs=>hs.elim id (fun hh=>absurd hh.1 (by omega)),.inl⟩,fun k j hs=>by
   rw[Lib.bytesWorld_size];rcases hs with hs | hs
   ·have:=h.slt k j hs;omega
   ·omega⟩
 refine qh.value hrun ⟨by rw[hdst,qg],?_⟩;rw[hdst];refine⟨_,h.fresh hd g ?_ (fun _ _ e=>by cases e) (fun _ _ e=>by cases e) (fun l te he=>by simp[AV.lab] at he),g.keeps h.slt⟩;have hch:=RdC.keeps (g.keeps h.slt);refine qcc none hsz (by rw[← hsz];exact grownCap_ge _ _ _ _) (cs:=strCells b) ?_ (fun _=>⟨_,rfl,rfl,fun i v hv=>⟨.inr ⟨rfl,?_⟩,?_⟩⟩)
 ·rw[← hb];exact(qeW (w:=w) (S:=S) b).mono (hch .byte)
 ·have:=(List.getElem?_eq_some_iff.1 hv).1;have hl:(strCells b).length=b.size:=by simp[strCells]
  show 0+i < _;omega
 ·have hlt:i < b.size:=by
   have:=(List.getElem?_eq_some_iff.1 hv).1;have hl:(strCells b).length=b.size:=by simp[strCells]
   omega
  rw[yE,Lib.bytesWorld_cell w _ b i hlt];unfold strCells at hv;have hlt':i < b.data.toList.length:=by simpa using hlt
  rw[List.getElem?_map,yO hlt'] at hv;simp only[yU,ya] at hv;rw[← hv];simp only[List.getD,yO hlt',Option.getD_some]
theorem qtN (w:World) (g n:Nat) (cur:Array Value) (te:TypeId) (hg:w.heap[g]? = some (.cells cur te (0,0))) :
 (w.freeze ⟨g,n,none⟩ 1).heap.size=w.heap.size∧(∀ k,k≠g→(w.freeze ⟨g,n,none⟩ 1).heap[k]? = w.heap[k]?)∧(w.freeze ⟨g,n,none⟩ 1).heap[g]? = some (.cells cur te (n,n+1)):=by
 unfold World.freeze;rw[if_neg (by decide)];refine⟨by simp,fun k hk=>?_,?_⟩
 ·rw[Array.getElem?_modify,if_neg (fun e=>hk e.symm)]
 ·rw[Array.getElem?_modify,if_pos rfl,hg];rfl
theorem qBF (h:R base w0 S0 S fr a w) (hT:TyOk P E) (hdst:o.dst=some d) (hd:d < a.tmps.size) {l:List UInt8} (hop:o.op=.convert dst dst x)
 (hx:rdo E fr true dst x=(true,.dat (.sl .byte) l (some (lb,te)))) (hs:(E.ti dst).sh=some (.sl .byte)) (hl:0 < List.length l) :
 qh P o a w (RK base w0 S0 a.tmps.size w S ((fr.spend lb).put d (.dat (.sl .byte) l none))):=by
 obtain⟨hr,hc⟩:=qt h hx;obtain⟨hf,hv⟩:=hc.cp lb te rfl;obtain⟨xs,⟨_,hown⟩,_,_,hpr⟩:=h.own lb .byte l te hf;obtain⟨e,hd1,hte,_,_⟩:=(hT dst _ hs).desc;have hel:=(hT _ _ hte).desc;rw[hv] at hown;rcases hown with ⟨_,h0⟩ | ⟨g,cap,cur,ev,_,hg,_⟩
 ·omega
 have hsh:w.shape? g=some (te,cur.size):=by
  unfold World.shape?
  rw[hg]
 obtain⟨f1,f2,f3⟩:=qtN w g cur.size cur te hg;have hrun:(execOp a.eval o).run P w=.ok (.value (a.eval x)) (w.freeze ⟨g,cur.size,none⟩ 1):=by
  unfold execOp;simp only[hop];refine run_v ?_;rw[ev];simp[convert,yr hd1,yr hel,markStringish,hsh]
 have hgb:w.grownBy (w.freeze ⟨g,cur.size,none⟩ 1) (some g):=by
  refine⟨?_,?_,?_,by rw[f1];exact yv _,fun k _ hk=>f2 k (fun e=>hk (by rw[e]))⟩ <;> (unfold World.freeze;rw[if_neg (by decide)])
 have hkp:Keeps w S (w.freeze ⟨g,cur.size,none⟩ 1) S:=fun b o hs=>⟨hs,by
  by_cases e:b=g
  ·subst e;simp only[World.cell?,f3,hg]
  ·simp only[World.cell?,f2 b e]⟩
 have hob:(a.tmps.getD lb undef).ownBlock=some g:=by rw[hv,ev];rfl
 have hb:=hpr g hob;have hlab:(fr lb).lab=some (lb,te):=by rw[hf];rfl
 refine qh.value hrun ⟨by rw[hdst,qg],S,?_,hkp⟩;rw[hdst];have h2:=(h.spend lb).step hgb hkp (fun _ _ _ _=>Iff.rfl) (fun b o hs=>by rw[f1];exact h.slt b o hs) (fun g' e=>by
  obtain rfl:g=g':=by simpa using e
  refine⟨hb,fun l' e' hl' hc'=>?_,fun t s y ht hc'=>?_⟩
  ·obtain⟨k1,k2⟩:=qbv hl';exact h.dist lb l' te e' g hlab k1 (fun e=>k2 e.symm) hob hc'
  ·exact h.boxo t s y g lb te (qbQ ht) hc' hlab hob)
 exact h2.put_plain hd ((hr.keeps hkp).relab none) rfl
theorem qwd (h:R base w0 S0 S fr a w) (hdst:o.dst=some d) (hd:d < a.tmps.size) {f:FuncId} {spec:List AV→Bool×AV} (hC:qoh P f spec w S)
 {v0:Value} {vals:List Value} {avs:List AV} {l r:List (Den e)} (hrun:(execOp a.eval o).run P w=(callFunc f (v0 :: vals).toArray).run P w)
 (hspec:spec (.dat (.sl e) l (some (0,te)) :: avs)=(true,.dat (.sl e) r (some (k,te)))) (hlb:fr lb=.dat (.sl e) l (some (lb,te))) (hv:a.tmps.getD lb undef=v0) (hargs:qav w S vals avs) :
 qh P o a w (RK base w0 S0 a.tmps.size w S ((fr.spend lb).put d (.dat (.sl e) r (some (d,te))))):=by
 have hown:qcb w S base te e v0 l:=by rw[← hv];exact h.own lb e l te hlb
 have hrd:Rd w S v0 (.dat (.sl e) l none):=by
  have:=h.rd lb;rw[hv,hlb] at this;exact this.relab none
 have hpr:∀ b,v0.ownBlock=some b→¬ base b:=by
  obtain⟨_,_,_,_,hp⟩:=hown;exact hp
 have fin:∀ v w',(∃ S',w.grownBy w' v0.ownBlock∧Keeps w S w' S'∧(∀ b o,b < w.heap.size→v0.ownBlock≠some b→(S' b o↔S b o))∧(∀ b o,S' b o→b < w'.heap.size) ∧
  Rd w' S' v (.dat (.sl e) r none)∧qcb w' S' base te e v r∧∀ b,v.ownBlock=some b→v0.ownBlock=some b∨w.heap.size≤b) →
  RK base w0 S0 a.tmps.size w S ((fr.spend lb).put d (.dat (.sl e) r (some (d,te)))) (a.put o.dst v) w':=by
  intro v w' ⟨S',k1,k2,k3,k4,k5,k6,k7⟩;rw[hdst];exact⟨qg _ _ _,S',h.regained hd hlb hv hpr k1 k2 k3 k4 k6 k7 (k5.relab (some (d,te))),k2⟩
 rcases hC base v0 vals avs e l r te k hspec h.slt h.base_le hrd hown hargs with ⟨h1,h2⟩ | ⟨v,w',h1,h2⟩
 ·exact qh.enter (hrun.trans h1) (h2.mono fun e w' ⟨v,he,hp⟩=>⟨v,he,fin v w' hp⟩)
 ·exact qh.value (hrun.trans h1) (fin v w' h2)
theorem qwe (h:R base w0 S0 S fr a w) (hT:TyOk P E) (hF:FnsOk P E w S) (hdst:o.dst=some d) (hd:d < a.tmps.size) {fr':Fr} (he:qmo E fr o d=some (true,fr')) :
 qh P o a w (RK base w0 S0 a.tmps.size w S fr'):=by
 have hasg:∀ x,o.op=.assign x→(execOp a.eval o).run P w=.ok (.value (a.eval x)) w:=fun x hop=>by
  unfold execOp;simp only[hop];rfl
 unfold qmo at he;split at he
 ·rename_i x hop;split at he
  ·split at he
   ·rename_i e hs;simp only[ya,yb,true_and] at he;subst he;refine qh.value (hasg _ hop) ⟨by rw[hdst,qg],S,?_,Keeps.refl w S⟩;rw[hdst];refine h.fresh hd (qku h.slt) (qcc _ rfl (yv _) (cs:=[]) rfl (fun hh=>absurd rfl hh)) (fun _ _ e=>by cases e) (fun _ _ e=>by cases e) (fun l te he=>?_);simp only[AV.lab,ya,yb] at he;obtain⟨rfl,rfl⟩:=he;exact⟨rfl,e,[],rfl,[],World.ownsRow_nil w _ _ _,rfl,fun b hb=>by simp[Act.eval,Value.ownBlock] at hb,fun b hb=>by simp[Act.eval,Value.ownBlock] at hb⟩
   ·cases he
  ·rename_i y;split at he
   ·rename_i s z hf;split at he
    ·cases he
    ·rename_i hyd;simp only[ya,yb,true_and] at he;subst he;refine qh.value (hasg _ hop) ⟨by rw[hdst,qg],S,?_,Keeps.refl w S⟩;rw[hdst];obtain⟨b,hbox,hptr⟩:=h.box y s z hf;have hylt:y < a.tmps.size:=by
      rcases Nat.lt_or_ge y a.tmps.size with hlt | hge
      ·exact hlt
      ·unfold Array.getD at hptr;rw[dif_neg (by omega)] at hptr;cases hptr
     have h1:=h.put_plain (d:=y) hylt (val:=a.tmps.getD y undef) (v:=.bad) (.bad _) rfl;rw[qwb a y hylt] at h1;have hother:∀ t,(fr.put y .bad) t=.bad∨(t≠y∧(fr.put y .bad) t=(fr t).drop y):=fun t=>by
      unfold Fr.put
      by_cases ht:t=y
      ·exact .inl (by rw[if_pos ht])
      ·exact .inr ⟨ht,by rw[if_neg ht]⟩
     have hevy:a.eval (.tmp y)=.pointer (some ⟨b,0,none⟩):=hptr;refine h1.put hd (.box _ _ _) ?_ ?_ ?_ ?_ ?_ ?_ ?_ ?_ ?_
     ·intro s1 x1 l1 e1;cases e1
     ·intro l1 e1 he1;simp[AV.lab] at he1
     ·intro e1 x1 te1 he1;cases he1
     ·intro te1 he1;simp[AV.lab] at he1
     ·intro s1 x1 e1;obtain⟨rfl,e1⟩:=AV.box.inj e1;obtain rfl:=eq_of_heq e1;exact⟨b,hbox,hevy⟩
     ·intro s1 x1 _ t s' x' b' _ hft hb' hc;rw[hevy] at hb';obtain rfl:b=b':=by simpa using hb'
      rcases hother t with e1 | ⟨hne,e1⟩
      ·rw[e1] at hft;cases hft
      ·rw[e1] at hft;exact h.boxd t y s' s x' z b (qaU hft) hf hne hc hptr
     ·intro s1 x1 _ b' l1 e1 hb' _ hl hc;rw[hevy] at hb';obtain rfl:b=b':=by simpa using hb'
      rcases hother l1 with e2 | ⟨hne,e2⟩
      ·rw[e2] at hl;simp[AV.lab] at hl
      ·rw[e2] at hl;exact h.boxo y s z b l1 e1 hf hptr (qaI hl).1 hc
     ·intro te1 he1;simp[AV.lab] at he1
     ·intro s1 p1 e1;cases e1
   ·rename_i s z l te hf;simp only[ya,yb,true_and] at he;subst he;obtain⟨e,rfl⟩:=h.sls y s z _ hf;have hcp:=h.cp y l te (by rw[hf];rfl);refine qh.value (hasg _ hop) ⟨by rw[hdst,qg],S,?_,Keeps.refl w S⟩;rw[hdst];have:=h.give (d:=d) (l:=l) hd (e:=e) (x:=z) (te:=te) (by rw[hcp.1,hf]);rw[hcp.2] at this;exact this
   ·cases hr:rdo E fr true o.type (.tmp y) with
    | mk ok v =>
     rw[hr] at he;simp only at he;split at he
     ·rename_i hok;simp only[ya,yb] at he;obtain⟨rfl,rfl⟩:=he;exact qrf h hdst hd hop hr hok
     ·cases he
  ·cases hr:rdo E fr true o.type x with
   | mk ok v =>
    rw[hr] at he;simp only at he;split at he
    ·rename_i hok;simp only[ya,yb] at he;obtain⟨rfl,rfl⟩:=he;exact qrf h hdst hd hop hr hok
    ·cases he
 ·rename_i c hop;obtain⟨callee,args,argTypes⟩:=c;split at he
  ·rename_i x y t u hc hargs htypes;simp only at hc hargs htypes;subst hc;obtain rfl:args = #[x,y]:=Array.ext' hargs;obtain rfl:argTypes = #[t,u]:=Array.ext' htypes;split at he
   ·rename_i okx lb e l oky vy hx hy;split at he
    ·rename_i hs;split at he
     ·rename_i m hm;simp only[ya,yb,yf,ym] at he;obtain⟨⟨⟨rfl,rfl⟩,hroom⟩,rfl⟩:=he;exact qtM h hT hdst hd hop hx hy hs.1 hs.2.1 hs.2.2 hm hroom
     ·cases he
    ·cases he
   ·cases he
  ·rename_i f x xs t ts hc hargs htypes;simp only at hc hargs htypes;subst hc;split at he
   ·rename_i sp hsp;split at he
    ·rename_i ok e l lb te oks vs hx hv;split at he
     ·rename_i pre e' r k te' hspec;split at he
      ·rename_i hee;subst hee;split at he
       ·rename_i hcond;obtain⟨rfl,hlen⟩:=hcond;simp only[ya,yb,yf] at he;obtain⟨⟨⟨rfl,rfl⟩,rfl⟩,rfl⟩:=he;obtain⟨_,hcp⟩:=qt h hx;obtain⟨hf,hval⟩:=hcp.cp lb _ rfl;have ha:=qfD h _ _ _ hlen hv;refine qwd h hdst hd (hF.2 f sp hsp) (v0:=a.eval x) (vals:=xs.map a.eval) ?_ hspec hf hval ha;have e1:args.map a.eval=(a.eval x :: xs.map a.eval).toArray:=by
         apply Array.ext';rw[Array.toList_map,hargs];rfl
        simp only[execOp,hop,resolve,yh,Deferred.ofValue,Act.eval,yu,ye,invoke,Array.append_empty,Array.empty_append,e1]
       ·cases he
      ·cases he
     ·cases he
    ·cases he
   ·cases he
  ·cases he
 ·rename_i t hop;split at he
  ·rename_i s hs;simp only[ya,yb,true_and] at he;subst he;exact qwc h hT hdst hd hop hs
  ·cases he
 ·rename_i t x hop;split at he
  ·rename_i ok s z ob hx;split at he
   ·simp only[ya,yb] at he;obtain⟨rfl,rfl⟩:=he;exact qIV h hdst hd _ hop hx
   ·cases he
  ·cases he
 ·rename_i src dst x hop;split at he
  ·rename_i ok s ob hx hs;split at he
   ·rename_i hc;simp only[ya,yb,yf,ym] at he;obtain⟨⟨rfl,_⟩,rfl⟩:=he;exact qBE h hT hdst hd hop hx hs hc.1
   ·cases he
  ·rename_i ok l lb te hx hs;split at he
   ·rename_i hc;subst hc;simp only[ya,yb,yf,ym] at he;obtain⟨⟨rfl,hl⟩,rfl⟩:=he;exact qBF h hT hdst hd hop hx hs hl
   ·cases he
  ·cases he
 ·cases he
end
end
variable {base:Nat→Prop} {w0 w:World} {S0 S:qa} {fr:Fr} {a:Act} {P:Program} {E:Env}
section
open Go.RowKit Go.Lib
theorem qwh {w:World} {S:qa} (s:Sh) (x:Den s) (i:Nat) (u:Sh) (y:Den u) (x':Den s) (v:Sh) (cs vs:List Value) (h:RdC w S s x cs) (hg:qrg s x i u y=some x') (hs:s.step i=some v) (hy:RdC w S u y vs) :
 v=u∧RdC w S s x' (cs.take (qO s i)++vs++cs.drop (qO s i+u.size))∧qO s i+u.size≤s.size:=by
 cases s with
 | arr n e =>
  simp only[qrg] at hg;split at hg
  ·rename_i hu;subst hu;simp only[ya] at hg;subst hg;simp only[Sh.step] at hs;split at hs
   ·rename_i hi;simp only[RdC] at h ⊢;refine⟨(yp hs).symm,⟨by rw[List.length_set];exact h.1,?_⟩,?_⟩
    ·have:=qd.set (RdC.length u) h.2 (i:=i) (by rw[h.1];exact hi) hy;simp only[qO];first | exact this | (rw[Nat.add_mul,Nat.one_mul] at this;exact this)
    ·simp only[qO,Sh.size];have:=yC u.size (show i+1≤n from hi);rw[Nat.add_mul,Nat.one_mul] at this;exact this
   ·cases hs
  ·cases hg
 | pair a b =>
  obtain⟨k1,k2,k3⟩:=qkx (.pair a b) x i u y x' cs vs h hg hy;exact⟨yp (hs.symm.trans k1),k2,k3⟩
 | _=>simp[qrg] at hg
theorem qmx {w:World} {S:qa}:∀ (p:List Nat) (s:Sh) (x:Den s) (u:Sh) (y:Den u) (x':Den s) (cs vs:List Value) (off:Nat),RdC w S s x cs→qjD s x p u y=some x'→RdC w S u y vs→qbt s p=some off →
 RdC w S s x' (cs.take off++vs++cs.drop (off+u.size))∧off+u.size≤s.size
 | [],s,x,u,y,x',cs,vs,off,h,hg,hy,ho=>by
  simp only[qjD] at hg;simp only[qbt,ya] at ho;subst ho;split at hg
  ·rename_i hu;subst hu;simp only[ya] at hg;subst hg;refine⟨?_,by omega⟩;have hl:=RdC.length _ _ _ h;rw[List.take_zero,List.nil_append,yE,yA (by omega),yG];exact hy
  ·cases hg
 | i :: p,s,x,u,y,x',cs,vs,off,h,hg,hy,ho=>by
  simp only[qjD] at hg;simp only[qbt] at ho;split at ho
  ·rename_i v hv;split at ho
   ·rename_i o ho';simp only[ya] at ho;subst ho;split at hg
    ·rename_i t z hz;split at hg
     ·rename_i z' hz';obtain⟨rfl,k2,k3⟩:=qmr s x i cs t z v h hz hv;obtain⟨j2,j3⟩:=qmx p v z u y z' _ vs o k2 hz' hy ho';obtain⟨_,m2,m3⟩:=qwh s x i v z' x' v cs _ h hg hv j2;refine⟨?_,by omega⟩;have hl:=RdC.length _ _ _ h;have e:cs.take (qO s i)++(((cs.drop (qO s i)).take v.size).take o++vs++((cs.drop (qO s i)).take v.size).drop (o+u.size))++cs.drop (qO s i+v.size) =
       cs.take (qO s i+o)++vs++cs.drop (qO s i+o+u.size):=by
       have e1:((cs.drop (qO s i)).take v.size).take o=(cs.drop (qO s i)).take o:=by rw[List.take_take,Nat.min_eq_left (by omega)]
       have e2:cs.take (qO s i+o)=cs.take (qO s i)++(cs.drop (qO s i)).take o:=by rw[List.take_add]
       have e3:cs.drop (qO s i+o+u.size)=((cs.drop (qO s i)).take v.size).drop (o+u.size)++cs.drop (qO s i+v.size):=by
        have h1:(cs.drop (qO s i)).drop (o+u.size)=((cs.drop (qO s i)).take v.size).drop (o+u.size)++(cs.drop (qO s i)).drop v.size:=by
         conv=>lhs;rw[← List.take_append_drop v.size (cs.drop (qO s i))]
         rw[List.drop_append];have h2:(List.take v.size (List.drop (qO s i) cs)).length=v.size:=by simp;omega
         rw[h2,show o+u.size - v.size=0 by omega,yw]
        rw[List.drop_drop,List.drop_drop] at h1;rw[yS];exact h1
       rw[e1,e2,e3];simp only[yl]
      rw[e] at m2;exact m2
     ·cases hg
    ·cases hg
   ·cases ho
  ·cases ho
theorem qir:∀ (s:Sh) (x x':Den s) (i:Nat) (q:Sigma Den),qT s x i=some q→∃ y',qT s x' i=some ⟨q.1,y'⟩
 | .pair a b,x,x',0,q,h=>by simp only[qT,ya] at h ⊢;subst h;exact⟨_,rfl⟩
 | .pair a b,x,x',i+1,q,h=>by simp only[qT] at h ⊢;exact qir b x.2 x'.2 i q h
 | .bool,_,_,_,_,h=>by simp[qT] at h
 | .byte,_,_,_,_,h=>by simp[qT] at h
 | .int _,_,_,_,_,h=>by simp[qT] at h
 | .str,_,_,_,_,h=>by simp[qT] at h
 | .sl _,_,_,_,_,h=>by simp[qT] at h
 | .unit,_,_,_,_,h=>by simp[qT] at h
 | .arr _ _,_,_,_,_,h=>by simp[qT] at h
theorem qmy (s:Sh) (x x':Den s) (i:Nat) (q:Sigma Den) (h:qbS s x i=some q):∃ y',qbS s x' i=some ⟨q.1,y'⟩:=by
 cases s with
 | arr n e =>
  simp only[qbS,ya] at h ⊢;subst h;exact⟨_,rfl⟩
 | pair a b=>exact qir (.pair a b) x x' i q h
 | _=>simp[qbS] at h
theorem qgN:∀ (p:List Nat) (s:Sh) (x x':Den s) (q:Sigma Den),qao s x p=some q→∃ q',qao s x' p=some q'
 | [],s,x,x',q,_=>⟨⟨s,x'⟩,rfl⟩
 | i :: p,s,x,x',q,h=>by
  simp only[qao] at h;split at h
  ·rename_i t z hz;obtain⟨y',h1⟩:=qmy s x x' i _ hz;obtain⟨q',h2⟩:=qgN p t z y' q h;exact⟨q',by simp only[qao,h1,h2]⟩
  ·cases h
section
theorem R.rebox (h:R base w0 S0 S fr a w) {b g:Nat} {s:Sh} {q q':Den s} (hb:fr b=.box s q) (hp:a.tmps.getD b undef=.pointer (some ⟨g,0,none⟩)) {w':World} (hg:w.grownBy w' (some g))
 {c:Array Value} {T:TypeId} (hc:w'.heap[g]? = some (.cells c T (0,0))) (hr:RdC w S s q' c.toList):R base w0 S0 S (fr.rebox b (.box s q')) a w'∧Keeps w S w' S:=by
 obtain⟨g',⟨hge,hns,c0,T0,hc0,hr0⟩,e0⟩:=h.box b s q hb;rw[hp] at e0;obtain rfl:g=g':=by simpa using e0
 have hkeep:Keeps w S w' S:=fun b1 o hs=>⟨hs,qj (hg.block b1 (h.slt b1 o hs) (fun e=>by
  have:=yp e;subst this;exact hns o hs)) o⟩
 have other:∀ t,(t=b∧(fr.rebox b (.box s q')) t=.box s q')∨(t≠b∧(fr.rebox b (.box s q')) t=fr t):=fun t=>by
  unfold Fr.rebox
  by_cases ht:t=b
  ·exact .inl ⟨ht,by rw[if_pos ht]⟩
  ·exact .inr ⟨ht,by rw[if_neg ht]⟩
 have hlab:∀ t l e,((fr.rebox b (.box s q')) t).lab=some (l,e)→t≠b∧(fr t).lab=some (l,e):=fun t l e he=>by
  rcases other t with ⟨_,e1⟩ | ⟨hne,e1⟩
  ·rw[e1] at he;simp[AV.lab] at he
  ·rw[e1] at he;exact⟨hne,he⟩
 refine⟨{
  below:=h.below.grown hg h.base_le (fun k hk=>by cases hk;exact hge)
  base_le:=fun k hk=>yH (h.base_le k hk) hg.size
  old:=h.old
  kp:=h.kp.trans hkeep
  slt:=fun b1 o hs=>yH (h.slt b1 o hs) hg.size
  dfr:=h.dfr
  rd:=fun t=>by
   rcases other t with ⟨_,e1⟩ | ⟨_,e1⟩
   ·rw[e1];exact .box _ _ _
   ·rw[e1];exact(h.rd t).keeps hkeep
  sls:=fun t s1 x l he=>by
   rcases other t with ⟨_,e1⟩ | ⟨_,e1⟩
   ·rw[e1] at he;cases he
   ·rw[e1] at he;exact h.sls t s1 x l he
  cp:=fun t l e he=>by
   obtain⟨hne,he'⟩:=hlab t l e he;obtain⟨k1,k2⟩:=h.cp t l e he';have hl:l≠b:=by
    rintro rfl;rw[hb] at k1;rw[← k1] at he';simp[AV.lab] at he'
   exact⟨by unfold Fr.rebox;rw[if_neg hl,if_neg hne];exact k1,k2⟩
  own:=fun t e x te he=>by
   rcases other t with ⟨_,e1⟩ | ⟨_,e1⟩
   ·rw[e1] at he;cases he
   ·rw[e1] at he;exact(h.own t e x te he).step hkeep hg (fun b1 hb1 e2=>by
     have:=yp e2;subst this;exact h.boxo b s q g t te hb hp (by rw[he];rfl) hb1) (fun _ _ _ _=>Iff.rfl)
  dist:=fun l l' e e' b1 h1 h2 hne hb1=>h.dist l l' e e' b1 (hlab l l e h1).2 (hlab l' l' e' h2).2 hne hb1
  box:=fun t s1 x he=>by
   rcases other t with ⟨rfl,e1⟩ | ⟨hne,e1⟩
   ·rw[e1] at he;obtain⟨rfl,he⟩:=AV.box.inj he;obtain rfl:=eq_of_heq he;exact⟨g,⟨hge,hns,c,T,hc,RdC.keeps hkeep _ _ _ hr⟩,hp⟩
   ·rw[e1] at he;obtain⟨b1,k1,k2⟩:=h.box t s1 x he;exact⟨b1,k1.step hkeep hg (fun e2=>by
     have:=yp e2;subst this;exact h.boxd b t s s1 q x g hb he (Ne.symm hne) hp k2) (fun _ _ _ _=>Iff.rfl),k2⟩
  boxd:=fun t t' s1 s2 x x' b1 h1 h2 hne hb1=>by
   rcases other t with ⟨rfl,e1⟩ | ⟨hn1,e1⟩
   ·rcases other t' with ⟨rfl,e2⟩ | ⟨hn2,e2⟩
    ·exact absurd rfl hne
    ·rw[e2] at h2;exact h.boxd t t' s s2 q x' b1 hb h2 hne hb1
   ·rw[e1] at h1;rcases other t' with ⟨rfl,e2⟩ | ⟨hn2,e2⟩
    ·exact h.boxd t t' s1 s x q b1 h1 hb hne hb1
    ·rw[e2] at h2;exact h.boxd t t' s1 s2 x x' b1 h1 h2 hne hb1
  boxo:=fun t s1 x b1 l e h1 hb1 h2=>by
   rcases other t with ⟨rfl,e1⟩ | ⟨hn1,e1⟩
   ·exact h.boxo t s q b1 l e hb hb1 (hlab l l e h2).2
   ·rw[e1] at h1;exact h.boxo t s1 x b1 l e h1 hb1 (hlab l l e h2).2
  badr:=fun t s1 p he=>by
   rcases other t with ⟨_,e1⟩ | ⟨_,e1⟩
   ·rw[e1] at he;cases he
   ·rw[e1] at he;obtain⟨u,y,z,g1,k1,k2,k3,o,k4,k5⟩:=h.badr t s1 p he;rcases other s1 with ⟨e3,e2⟩ | ⟨_,e2⟩
    ·subst e3;rw[hb] at k1;obtain⟨k0,k1⟩:=AV.box.inj k1;subst k0;obtain rfl:=eq_of_heq k1;obtain⟨z',k6⟩:=qgN p _ _ q' _ k3;exact⟨_,q',z',g1,e2,k2,k6,o,k4,k5⟩
    ·exact⟨u,y,z,g1,by rw[e2];exact k1,k2,k3,o,k4,k5⟩
  clm:=fun t f ss he=>by
   rcases other t with ⟨_,e1⟩ | ⟨_,e1⟩
   ·rw[e1] at he;cases he
   ·rw[e1] at he;exact h.clm t f ss he },hkeep⟩
theorem qwi (h:R base w0 S0 S fr a w) (hT:TyOk P E) {o:Oper} (hdst:o.dst=none) {t:TypeId} {x y:Operand} {b:Nat} {p:List Nat} {s u:Sh} {q q':Den s} {z:Den u} {oz:Lab} (hop:o.op=.store t x y)
 (hx:rdo E fr true 0 x=(true,.badr b p)) (hy:rdo E fr true t y=(true,.dat u z oz)) (hb:fr b=.box s q) (hset:qjD s q p u z=some q') (ht:(E.ti t).sh=some u) :
 qh P o a w (RK base w0 S0 a.tmps.size w S (fr.rebox b (.box s q'))):=by
 obtain⟨s',y',r,g,e1,e2,e3,off,e4,e5⟩:=(qt h hx).2.bd b p rfl;rw[hb] at e1;obtain⟨rfl,e1⟩:=AV.box.inj e1;obtain rfl:=eq_of_heq e1;obtain⟨g',⟨hge,hns,c0,T0,hc0,hr0⟩,e0⟩:=h.box b s q hb;rw[e2] at e0;obtain rfl:g=g':=by simpa using e0
 have hz:=qdb (qt h hy).1;have hzl:=RdC.length _ _ _ hz;obtain⟨k2,k3⟩:=qmx p s q u z q' _ _ off hr0 hset hz e4;have hcl:=RdC.length _ _ _ hr0;have hst:=run_storeCells_at P g off T0 (a.eval y).cells.toList 0 c0 w hc0 (by rw[Nat.add_zero,hzl];simp only[Array.length_toList] at hcl;omega) (RdC.oneCell _ _ _ hz);rw[Nat.add_zero,hzl] at hst;have hrun:(execOp a.eval o).run P w=.ok .skip (w.setRow g (c0.toList.take off++(a.eval y).cells.toList++c0.toList.drop (off+u.size)).toArray):=by
  have h1:(Instr.storeAt t (a.eval x) (a.eval y)).run P w=.ok () (w.setRow g (c0.toList.take off++(a.eval y).cells.toList++c0.toList.drop (off+u.size)).toArray):=by
   rw[e5];unfold Instr.storeAt Instr.sureAddr;simp only;show ((pure (⟨g,off,none⟩:Addr):Sem Addr).bind _).run P w=_;rw[Sem.run_bind',yu,ye];unfold storeVar;rw[yh,(hT t u ht).sizeOf,ye];have hz2:(a.eval y).cells.size=u.size:=by simpa using hzl
   rw[if_neg (by omega)];exact hst
  unfold execOp;simp only[hop];rw[yh,h1];rfl
 refine qh.skip hrun ⟨by rw[hdst];rfl,S,?_⟩;rw[hdst];exact h.rebox hb e2 (w':=w.setRow g _) ⟨rfl,rfl,rfl,by simp,fun k _ hk=>setRow_other w g k _ (fun e=>hk (by rw[e]))⟩ (setRow_heap w g c0 _ T0 (0,0) hc0) (by simpa using k2)
end
end
section
open Go.RowKit Go.Lib
variable {v:AV} {ops:Array Oper} {o:Oper} {d n:Nat} {fr' fr2:Fr}
section
theorem getD_of_getElem? {l:Array Value} {t:Nat} {v:Value} (h:l.getD t undef=v) (hv:v≠undef):l[t]? = some v:=by
 unfold Array.getD at h;split at h
 ·rename_i hlt;rw[Array.getElem?_eq_getElem hlt];exact congrArg some h
 ·exact absurd h.symm hv
theorem qNx {v:Value} {av:AV} (h:Rd w S v (.cnd false av)):v=undef:=by
 cases h with
 | cnd _ _ _ h0 _=>exact h0 rfl
theorem qin (h:R base w0 S0 S fr a w) {j:Nat} {want G:Bool} (hg:o.guard=some (j,want)) (he:qmn ops fr j want=some G) :
 Region.wanted o (yielded ops a.tmps)=G:=by
 unfold qmn at he;unfold Region.wanted;rw[hg];simp only;split at he
 ·rename_i t ht;have hr:=h.rd t;have hy:∀ b:Bool,a.tmps.getD t undef=.bool b→yielded ops a.tmps j=some b:=fun b hb=>by
   unfold yielded;rw[ht];simp only[Option.bind_some];rw[getD_of_getElem? hb (by simp[undef])]
  split at he
  ·rename_i b o' hf;rw[hf] at hr;simp only[ya] at he;subst he;rw[hy _ (qbD hr)];cases b <;> cases want <;> rfl
  ·rename_i v hf;rw[hf] at hr;simp only[ya] at he;subst he;have hu:a.tmps.getD t undef=undef:=qNx hr;have:yielded ops a.tmps j=none:=by
    unfold yielded;rw[ht];simp only[Option.bind_some];rcases Nat.lt_or_ge t a.tmps.size with hlt | hge
    ·rw[Array.getElem?_eq_getElem hlt];unfold Array.getD at hu;rw[dif_pos hlt] at hu;have hu':a.tmps[t]=undef:=hu;rw[hu'];rfl
    ·rw[Array.getElem?_eq_none hge]
   rw[this];rfl
  ·rename_i b o' hf;rw[hf] at hr;simp only[ya] at he;subst he;rw[hy _ (qbD (qNA hr rfl))];cases b <;> cases want <;> rfl
  ·cases he
 ·cases he
theorem qov (hn:a.tmps.size=E.nt) (h:R base w0 S0 S fr a w) (hT:TyOk P E) (hF:FnsOk P E w S) (hdst:o.dst=some d) (hd:d < a.tmps.size) (he:stepU E fr o d=some (true,fr')) :
 qh P o a w (RK base w0 S0 E.nt w S fr'):=by
 unfold stepU at he;split at he
 ·rename_i ok v hst;split at he
  ·rename_i hok;simp only[ya,yb] at he;obtain⟨rfl,rfl⟩:=he;obtain⟨val,k1,k2,k3⟩:=qoE h hT hst (bx:=true) (.inl rfl);refine qh.value (k1 w (Like.refl _ _ _ _ _)) ⟨by rw[qg,hn],S,?_,Keeps.refl w S⟩;rw[hdst];exact h.put_copy hd k2 k3 hok
  ·cases he
 ·split at he
  ·rename_i ok v hef;simp only[ya,yb] at he;obtain⟨rfl,rfl⟩:=he;refine(qMX h hT hF hef).mono fun a' w' ⟨S',val,g,hr,ha⟩=>?_;rw[ha,hdst];exact⟨by rw[qg,hn],S',h.called hd g hr,g.keeps h.slt⟩
  ·have:=qwe h hT hF hdst hd he;rw[hn] at this;exact this
theorem qwa (hn:a.tmps.size=E.nt) (h:R base w0 S0 S fr a w) (hT:TyOk P E) (hF:FnsOk P E w S) (he:qjo E ops fr o=some (true,fr')) :
 (Region.wanted o (yielded ops a.tmps)=true∧qh P o a w (RK base w0 S0 E.nt w S fr'))∨(Region.wanted o (yielded ops a.tmps)=false∧RK base w0 S0 E.nt w S fr' (a.put o.dst undef) w):=by
 unfold qjo at he;split at he
 ·rename_i d hdst;split at he
  ·cases he
  rename_i hlt;have hd:d < a.tmps.size:=by rw[hn];exact Nat.lt_of_not_le hlt
  split at he
  ·rename_i hg;have hw:Region.wanted o (yielded ops a.tmps)=true:=by simp[Region.wanted,hg]
   exact .inl ⟨hw,qov hn h hT hF hdst hd he⟩
  ·rename_i j want hg;split at he
   ·rename_i hG;exact .inl ⟨qin h hg hG,qov hn h hT hF hdst hd he⟩
   ·rename_i hG;simp only[ya,yb,true_and] at he;subst he;refine .inr ⟨qin h hg hG,?_⟩;rw[hdst];exact⟨by rw[qg,hn],S,h.put_plain hd (.cnd _ _ _ (fun _=>rfl) (fun e=>by cases e)) rfl,Keeps.refl w S⟩
   ·cases he
 ·rename_i hdst;split at he
  ·rename_i t x y hg hop;have hw:Region.wanted o (yielded ops a.tmps)=true:=by simp[Region.wanted,hg]
   refine .inl ⟨hw,?_⟩;split at he
   ·rename_i okx b p oky u z oz hx hy;split at he
    ·rename_i s q hb;split at he
     ·rename_i q' hset;split at he
      ·rename_i ht;simp only[ya,yb,yf] at he;obtain⟨⟨rfl,rfl⟩,rfl⟩:=he;have:=qwi h hT hdst hop hx hy hb hset ht;rw[hn] at this;exact this
      ·cases he
     ·cases he
    ·cases he
   ·cases he
  ·cases he
theorem RK.rr {wi:World} {Si:qa} {fr:Fr} {a:Act} {w:World} (h:RK base w0 S0 n wi Si fr a w):RR base w0 S0 n fr a w:=⟨h.1,h.2.choose,h.2.choose_spec.1⟩
theorem qkS (fr:Fr) (d:Nat) (v:AV) (h:fr d=v):fr.set d v=fr:=by
 funext x;unfold Fr.set;split
 ·rename_i e;rw[e,h]
 ·rfl
def AV.res:AV→AV→Prop
 | .ite b x y,v=>(b=true∧x.res v)∨(b=false∧y.res v)
 | u,v=>u=v∧u.simple=true
theorem qow {k:AV→Option AV} {r:AV}:∀ (x:AV),x.split k=some r→∃ v,x.res v∧v.simple=true∧k v=some r
 | .ite true x y,h=>by
  simp only[AV.split,yc] at h;obtain⟨v,h1,h2⟩:=qow x h;exact⟨v,.inl ⟨rfl,h1⟩,h2⟩
 | .ite false x y,h=>by
  simp only[AV.split,yd] at h;obtain⟨v,h1,h2⟩:=qow y h;exact⟨v,.inr ⟨rfl,h1⟩,h2⟩
 | .bad,h=>⟨_,⟨rfl,rfl⟩,rfl,h⟩
 | .tup _,h=>⟨_,⟨rfl,rfl⟩,rfl,h⟩
 | .fn _ _,h=>⟨_,⟨rfl,rfl⟩,rfl,h⟩
 | .nilIface,h=>⟨_,⟨rfl,rfl⟩,rfl,h⟩
 | .iface _ _,h=>⟨_,⟨rfl,rfl⟩,rfl,h⟩
 | .dat _ _ none,h=>⟨_,⟨rfl,rfl⟩,rfl,h⟩
 | .dat _ _ (some _),h=>by simp[AV.split,AV.simple] at h
 | .adr _ _,h=>by simp[AV.split,AV.simple] at h
 | .box _ _,h=>by simp[AV.split,AV.simple] at h
 | .badr _ _,h=>by simp[AV.split,AV.simple] at h
 | .cnd _ _,h=>by simp[AV.split,AV.simple] at h
 | .pv _ _ _,h=>by simp[AV.split,AV.simple] at h
 | .pbox _ _ _,h=>by simp[AV.split,AV.simple] at h
 | .padr _ _,h=>by simp[AV.split,AV.simple] at h
 | .pval _ _,h=>by simp[AV.split,AV.simple] at h
 | .itr _ _,h=>by simp[AV.split,AV.simple] at h
 | .abs _ _ _,h=>by simp[AV.split,AV.simple] at h
theorem qIU {w:World} {S:qa} {v:Value}:∀ (x u:AV),x.res u→Rd w S v x→Rd w S v u
 | .ite b x y,u,h,hr=>by
  cases hr with
  | ite _ _ _ _ h1 h2 =>
   rcases h with ⟨hb,h⟩ | ⟨hb,h⟩
   ·exact qIU x u h (h1 hb)
   ·exact qIU y u h (h2 hb)
 | .bad,_,⟨rfl,_⟩,hr=>hr
 | .tup _,_,⟨rfl,_⟩,hr=>hr
 | .fn _ _,_,⟨rfl,_⟩,hr=>hr
 | .nilIface,_,⟨rfl,_⟩,hr=>hr
 | .iface _ _,_,⟨rfl,_⟩,hr=>hr
 | .dat _ _ _,_,⟨rfl,_⟩,hr=>hr
 | .adr _ _,_,⟨rfl,_⟩,hr=>hr
 | .box _ _,_,⟨rfl,_⟩,hr=>hr
 | .badr _ _,_,⟨rfl,_⟩,hr=>hr
 | .cnd _ _,_,⟨rfl,_⟩,hr=>hr
 | .pv _ _ _,_,⟨rfl,_⟩,hr=>hr
 | .pbox _ _ _,_,⟨rfl,_⟩,hr=>hr
 | .padr _ _,_,⟨rfl,_⟩,hr=>hr
 | .pval _ _,_,⟨rfl,_⟩,hr=>hr
 | .itr _ _,_,⟨rfl,_⟩,hr=>hr
 | .abs _ _ _,_,⟨rfl,_⟩,hr=>hr
def Res1 (fr fr2:Fr):Prop:=fr2=fr∨∃ d b x y v,fr d=.ite b x y∧(AV.ite b x y).res v∧v.simple=true∧fr2=fr.set d v
theorem qbk {o:Option Nat} {fr:Fr} {K:Fr→Option AV} {r:AV} (h:qjp ops o fr K=some r):∃ fr2,K fr2=some r∧Res1 fr fr2:=by
 unfold qjp at h;split at h
 ·exact⟨fr,h,.inl rfl⟩
 ·rename_i d;split at h
  ·split at h
   ·rename_i b x y hd;obtain⟨v,h1,h2,h3⟩:=qow _ h;exact⟨_,h3,.inr ⟨d,b,x,y,v,hd,h1,h2,rfl⟩⟩
   ·exact⟨fr,h,.inl rfl⟩
  ·split at h
   ·rename_i b o hd;cases b with
    | true=>simp only[yc] at h;rw[qkS _ _ _ hd] at h;exact⟨fr,h,.inl rfl⟩
    | false=>simp only[yd] at h;rw[qkS _ _ _ hd] at h;exact⟨fr,h,.inl rfl⟩
   ·rename_i b o hd;cases b with
    | true=>simp only[yc] at h;rw[qkS _ _ _ hd] at h;exact⟨fr,h,.inl rfl⟩
    | false=>simp only[yd] at h;rw[qkS _ _ _ hd] at h;exact⟨fr,h,.inl rfl⟩
   ·exact⟨fr,h,.inl rfl⟩
def AV.inert:AV→Bool
 | .ite _ _ _=>true
 | v=>v.simple
theorem qre (h:v.inert=true):v.lab=none:=by
 cases v with
 | dat s x o=>cases o <;> first | rfl | cases h
 | _=>first | rfl | cases h
theorem qox (h:v.simple=true):v.inert=true:=by
 cases v <;> first | exact h | cases h
theorem R.settle (h:R base w0 S0 S fr a w) (hd:(fr d).inert=true) (hv:v.inert=true) (hr:Rd w S (a.tmps.getD d undef) v):R base w0 S0 S (fr.set d v) a w:=by
 have at_:∀ t,fr.set d v t=if t=d then v else fr t:=fun t=>rfl
 have nd:∀ t,t≠d→fr.set d v t=fr t:=fun t ht=>by rw[at_,if_neg ht]
 have lab':∀ t l e,(fr.set d v t).lab=some (l,e)→t≠d∧(fr t).lab=some (l,e):=fun t l e he=>by
  rw[at_] at he;split at he
  ·rw[qre hv] at he;cases he
  ·rename_i ht;exact⟨ht,he⟩
 have lnd:∀ l e,(fr l).lab=some (l,e)→l≠d:=fun l e he hld=>by rw[hld,qre hd] at he;cases he
 have box':∀ t s (x:Den s),fr.set d v t=.box s x→t≠d∧fr t=.box s x:=fun t s x he=>by
  rw[at_] at he;split at he
  ·rw[he] at hv;cases hv
  ·rename_i ht;exact⟨ht,he⟩
 exact {
  below:=h.below
  base_le:=h.base_le
  old:=h.old
  kp:=h.kp
  slt:=h.slt
  dfr:=h.dfr
  rd:=fun t=>by
   rw[at_];split
   ·rename_i ht;rw[ht];exact hr
   ·exact h.rd t
  cp:=fun t l e he=>by
   obtain⟨ht,he⟩:=lab' t l e he;obtain⟨k1,k2⟩:=h.cp t l e he;exact⟨by rw[nd t ht,nd l (lnd l e (by rw[k1];exact he)),k1],k2⟩
  sls:=fun t s x l he=>by
   rw[at_] at he;split at he
   ·rw[he] at hv;cases hv
   ·exact h.sls t s x l he
  own:=fun t e x te he=>by
   rw[at_] at he;split at he
   ·rw[he] at hv;cases hv
   ·exact h.own t e x te he
  dist:=fun l l' e e' b h1 h2=>h.dist l l' e e' b (lab' _ _ _ h1).2 (lab' _ _ _ h2).2
  box:=fun t s x he=>h.box t s x (box' t s x he).2
  boxd:=fun t t' s s' x x' b h1 h2=>h.boxd t t' s s' x x' b (box' _ _ _ h1).2 (box' _ _ _ h2).2
  boxo:=fun t s x b l e h1 hb h2=>h.boxo t s x b l e (box' _ _ _ h1).2 hb (lab' _ _ _ h2).2
  badr:=fun t s p he=>by
   rw[at_] at he;split at he
   ·rw[he] at hv;cases hv
   ·obtain⟨u,y,z,g,k1,k2⟩:=h.badr t s p he;exact⟨u,y,z,g,by rw[nd s (fun e=>by rw[e] at k1;rw[k1] at hd;cases hd)];exact k1,k2⟩
  clm:=fun t f ss he=>by
   rw[at_] at he;split at he
   ·rw[he] at hv;cases hv
   ·exact h.clm t f ss he }
theorem R.res1 (h:R base w0 S0 S fr a w) (hr:Res1 fr fr2):R base w0 S0 S fr2 a w:=by
 rcases hr with rfl | ⟨d,b,x,y,v,h1,h2,h3,rfl⟩
 ·exact h
 ·have hd:=h.rd d;rw[h1] at hd;exact h.settle (by rw[h1];rfl) (qox h3) (qIU _ _ h2 hd)
theorem RR.res1 (hr:Res1 fr fr2) (h:RR base w0 S0 n fr a w):RR base w0 S0 n fr2 a w:=⟨h.1,h.2.choose,h.2.choose_spec.res1 hr⟩
theorem qoy (hT:TyOk P E) (hF:∀ w S,FnsOk P E w S) {ops:Array Oper} {Q:Exit→Act→World→Prop} {K:Fr→Option AV} {r:AV}
 (hK:∀ fr' a' w',K fr'=some r→RR base w0 S0 E.nt fr' a' w'→Q .normal a' w'):∀ (l:List Oper) (fr:Fr) (a:Act) (w:World),evOps E ops l fr K=some r→RR base w0 S0 E.nt fr a w→wpList P ops Q l a w
 | [],fr,a,w,he,hR=>hK fr a w he hR
 | o :: rest,fr,a,w,he,⟨hn,S,h⟩=>by
  simp only[evOps] at he;cases hs:qjo E ops fr o with
  | none=>rw[hs] at he;cases he
  | some p =>
   obtain⟨ok,fr'⟩:=p;rw[hs] at he;simp only at he;cases ok with
   | false=>cases he
   | true =>
    simp only[yc] at he;obtain⟨fr2,he,hr2⟩:=qbk he;unfold wpList;rcases qwa hn h hT (hF _ _) hs with ⟨hw,hd⟩ | ⟨hw,hR'⟩
    ·rw[if_pos hw];exact .inl (hd _ _ fun a' w' hR'=>qoy hT hF hK rest fr2 a' w' he (hR'.rr.res1 hr2))
    ·rw[hw];exact qoy hT hF hK rest fr2 _ w he (hR'.rr.res1 hr2)
end
end
section
open Go.RowKit Go.Lib
variable {ops:Array Oper} {o:Oper} {l:List Nat} {s:Nat} {v:AV}
section
theorem qjz {ops:Array Oper} {Q:Exit→Act→World→Prop} {md:Region.Mode} {A B:World→Prop} (h:∀ w,A w→B w):∀ (n:Nat) (listed:Array Bool) (a:Act) (w:World),wpAnyH P md ops Q A n listed a w→wpAnyH P md ops Q B n listed a w
 | 0,_,_,_,k=>k
 | n+1,_,_,_,k=>⟨k.1,fun i hi=>wpOp_mono (fun a' w' k'=>⟨h _ k'.1,qjz h n _ a' w' k'.2⟩) (k.2 i hi)⟩
theorem qod {Q:Exit→Act→World→Prop} {i:Nat} (hi:ops[i]? = some o) {Post K:Act→World→Prop}
 (h:(Region.wanted o (yielded ops a.tmps)=true∧qh P o a w Post)∨(Region.wanted o (yielded ops a.tmps)=false∧Post (a.put o.dst undef) w)) (hK:∀ a' w',Post a' w'→K a' w') :
 wpOp P ops Q i K a w:=by
 unfold wpOp;simp only[hi];rcases h with ⟨h1,h2⟩ | ⟨h1,h2⟩
 ·rw[if_pos h1];exact .inl (h2 _ _ hK)
 ·rw[h1];exact hK _ _ h2
theorem qji (hn:a.tmps.size=E.nt) (h:R base w0 S0 S fr a w) (hT:TyOk P E) {fr':Fr} (he:qjo E ops fr o=some (true,fr')) (ht:takes E fr ops o=true) :
 ∃ v,YieldsIf P ops (fun w'=>Keeps w S w' S) o v a∧R base w0 S0 S fr' (a.put o.dst v) w:=by
 unfold takes at ht;simp only[yf] at ht;obtain⟨_,ht⟩:=ht;unfold qjo at he;split at he
 ·rename_i d hdst;split at he
  ·cases he
  rename_i hlt;have hd:d < a.tmps.size:=by rw[hn];exact Nat.lt_of_not_le hlt
  have go:Region.wanted o (yielded ops a.tmps)=true→(still E fr true o).isSome=true→qdl E fr true o=true→stepU E fr o d=some (true,fr') →
   ∃ v,YieldsIf P ops (fun w'=>Keeps w S w' S) o v a∧R base w0 S0 S fr' (a.put o.dst v) w:=by
   intro hw h1 h2 he;unfold stepU at he;split at he
   ·rename_i ok v hst;split at he
    ·rename_i hok;simp only[ya,yb] at he;obtain⟨rfl,rfl⟩:=he;obtain⟨val,k1,k2,k3⟩:=qoE h hT hst (bx:=false) (.inr h2);refine⟨val,.inl ⟨hw,fun w' hk=>k1 w' ⟨hk,fun e=>by cases e⟩⟩,?_⟩;rw[hdst];exact h.put_copy hd k2 k3 hok
    ·cases he
   ·rename_i hst;rw[hst] at h1;simp at h1
  split at he
  ·rename_i hg;rw[hg] at ht;simp only[yf] at ht;exact go (by simp[Region.wanted,hg]) ht.1 ht.2 he
  ·rename_i j want hg;rw[hg] at ht;simp only at ht;split at he
   ·rename_i hG;rw[hG] at ht;simp only[yf] at ht;exact go (qin h hg hG) ht.1 ht.2 he
   ·rename_i hG;simp only[ya,yb,true_and] at he;subst he;refine⟨undef,.inr ⟨qin h hg hG,rfl⟩,?_⟩;rw[hdst];exact h.put_plain hd (.cnd _ _ _ (fun _=>rfl) (fun e=>by cases e)) rfl
   ·cases he
 ·rename_i hdst;split at he
  ·rename_i t x y hg hop;rw[hg] at ht;simp only[yf] at ht;have:still E fr true o=none:=by unfold still;rw[hop]
   rw[this] at ht;simp at ht
  ·cases he
def Held (w:World) (S:qa) (W:World→Prop):Prop:=∀ w',Keeps w S w' S→W w'
theorem qkt (hT:TyOk P E) (hF:∀ w S,FnsOk P E w S) {ops:Array Oper} (hsel:Region.noSelect ops=true) {Q:Exit→Act→World→Prop} (hQ:∀ c a w,¬ Q (.panic c) a w) {K:Fr→Option AV} {r:AV}
 (hK:∀ fr' a' w',K fr'=some r→RR base w0 S0 E.nt fr' a' w'→Q .normal a' w') :
 ∀ (n m:Nat) (listed:Array Bool) (fr:Fr) (a:Act) (w:World) (S:qa) (W:World→Prop),qmp E ops n listed fr K=some r→a.tmps.size=E.nt→R base w0 S0 S fr a w→Held w S W→n≤m+1 →
  wpAnyH P .any ops Q W m listed a w
 | 0,m,listed,fr,a,w,S,W,he,_,_,_,_=>by simp[qmp] at he
 | n+1,m,listed,fr,a,w,S,W,he,hn,h,hW,hle=>by
  simp only[qmp] at he;split at he
  ·rename_i hr;exact wpAnyH_done hr (hK fr a w he ⟨hn,S,h⟩) m
  ·rename_i i rs hr;cases m with
   | zero =>
    exfalso;obtain rfl:n=0:=by omega
    split at he
    ·split at he
     ·rename_i ok fr' _;cases ok with
      | false=>cases he
      | true=>simp only[yc] at he;obtain⟨_,he,_⟩:=qbk he;simp[qmp] at he
     ·cases he
    ·split at he
     ·split at he
      ·rename_i ok fr' _;cases ok with
       | false=>cases he
       | true=>simp only[yc] at he;obtain⟨_,he,_⟩:=qbk he;simp[qmp] at he
      ·cases he
     ·cases he
   | succ m =>
    split at he
    ·
     rename_i k hk;have hmem:=List.mem_of_find?_eq_some hk;have hprop:=List.find?_some hk;simp only[yf] at hprop;rw[← hr] at hmem;obtain⟨_,o,ho,_⟩:=mem_ready.1 hmem;have hget:ops.getD k default=o:=by
      obtain⟨hlt,e⟩:=Array.getElem?_eq_some_iff.1 ho;unfold Array.getD;rw[dif_pos hlt];exact e
     rw[hget] at he hprop;split at he
     ·rename_i ok fr' hs;cases ok with
      | false=>cases he
      | true =>
       simp only[yc] at he;obtain⟨fr2,he,hr2⟩:=qbk he;obtain⟨v,hy,hR⟩:=qji hn h hT hs hprop.2;have hrest:=qkt hT hF hsel hQ hK n m (listed.setIfInBounds k true) fr2 (a.put o.dst v) w S (fun w'=>W w'∧Keeps w S w' S) he (by rw[qg,hn]) (hR.res1 hr2) (fun w' hk'=>⟨hW w' hk',hk'⟩) (by omega);refine qjz (A:=fun w'=>W w'∧Keeps w S w' S) (fun _ hh=>hh.1) _ _ _ _ ?_;refine wpAnyH_take ho hsel hprop.1 (by simpa using hmem) (fun c a w hq=>absurd hq (hQ c _ w)) ?_ ⟨hW w (Keeps.refl w S),Keeps.refl w S⟩ hrest;rcases hy with ⟨h1,h2⟩ | h1
       ·exact .inl ⟨h1,fun w' hh=>h2 w' hh.2⟩
       ·exact .inr h1
     ·cases he
    ·split at he
     ·
      rename_i hnone;refine wpAnyH_all hr (by simp) (fun j hj=>?_);simp only[List.mem_singleton] at hj;subst hj;have hmem:j∈Region.ready .any ops listed:=by rw[hr];simp
      obtain⟨_,o,ho,_⟩:=mem_ready.1 hmem;have hget:ops.getD j default=o:=by
       obtain⟨hlt,e⟩:=Array.getElem?_eq_some_iff.1 ho;unfold Array.getD;rw[dif_pos hlt];exact e
      rw[hget] at he;split at he
      ·rename_i ok fr' hs;cases ok with
       | false=>cases he
       | true =>
        simp only[yc] at he;obtain⟨fr2,he,hr2⟩:=qbk he;refine qod ho (qwa hn h hT (hF _ _) hs) (fun a' w' ⟨hn',S',hR,hk⟩=>?_);have hW':Held w' S' W:=fun w2 hk2=>hW w2 (fun b o hs=>⟨hs,((hk2 b o (hk b o hs).1).2).trans (hk b o hs).2⟩);exact⟨hW w' (fun b o hs=>⟨hs,(hk b o hs).2⟩),qkt hT hF hsel hQ hK n m (listed.setIfInBounds j true) fr2 a' w' S' W he hn' (hR.res1 hr2) hW' (by omega)⟩
      ·cases he
     ·cases he
theorem qcY (w:World) (S:qa):Keeps w S { w with drawn:=w.drawn+1 } S:=fun _ _ hs=>⟨hs,rfl⟩
theorem R.drew (h:R base w0 S0 S fr a w):R base w0 S0 S fr a { w with drawn:=w.drawn+1 } where
 below:=⟨h.below.os,h.below.tape,h.below.output,h.below.size,h.below.block⟩
 base_le:=h.base_le
 old:=h.old
 kp:=h.kp.trans (qcY w S)
 slt:=h.slt
 dfr:=h.dfr
 rd:=fun t=>(h.rd t).keeps (qcY w S)
 sls:=h.sls
 cp:=h.cp
 own:=fun t e x te he=>by
  obtain⟨xs,h1,h2,h3⟩:=h.own t e x te he;exact⟨xs,h1,h2.mono (RdC.keeps (qcY w S) e),h3⟩
 dist:=h.dist
 box:=fun t s x he=>by
  obtain⟨b,⟨h1,h2,c,T,h3,h4⟩,h5⟩:=h.box t s x he;exact⟨b,⟨h1,h2,c,T,h3,RdC.keeps (qcY w S) _ _ _ h4⟩,h5⟩
 boxd:=h.boxd
 boxo:=h.boxo
 badr:=h.badr
 clm:=h.clm
def exOf:Ex→Exit
 | .normal=>.normal
 | .exit id=>.exit id
 | .ret=>.ret
structure Goes (E:Env) (base:Nat→Prop) (w0:World) (S0:qa) (K:Ex→Fr→Option AV) (r:AV) (Q:Exit→Act→World→Prop):Prop where
 panics:∀ c a w,¬ Q (.panic c) a w
 go:∀ ex fr a w,K ex fr=some r→RR base w0 S0 E.nt fr a w→Q (exOf ex) a w
theorem qoe (fr:Fr) (l0:List Nat):∀ (l:List Nat) (t:Nat),frOf (l.map fun s=>(s % 1000000,cutV l0 (fr (s % 1000000)))) t=if (l.map (· % 1000000)).contains t then cutV l0 (fr t) else .bad
 | [],t=>rfl
 | s :: l,t=>by
  simp only[yI,frOf,List.contains_cons]
  by_cases e:t=s % 1000000
  ·subst e;simp
  ·rw[if_neg e,qoe fr l0 l t];simp[e]
theorem qhi (h:qjq l s=true):(l.map (· % 1000000)).contains s=true:=by
 simp only[qjq,yf,ym,List.contains_iff_mem] at h;simp only[List.contains_iff_mem,List.mem_map];exact⟨s,h.1,Nat.mod_eq_of_lt h.2⟩
theorem qIo {s:Sh} {x:Den s} {o:Lab} (h:cutV l v=.dat s x o):∃ o',v=.dat s x o'∧(o=none∨o=o'∧∀ lb te,o=some (lb,te)→qjq l lb=true):=by
 cases v with
 | dat s' x' o' =>
  cases o' with
  | none =>
   simp only[cutV,AV.dat.injEq] at h;obtain⟨rfl,h2,h3⟩:=h;obtain rfl:=eq_of_heq h2;exact⟨none,rfl,.inl h3.symm⟩
  | some p =>
   obtain⟨lb,te⟩:=p;simp only[cutV] at h;split at h
   ·rename_i hc;simp only[AV.dat.injEq] at h;obtain⟨rfl,h2,h3⟩:=h;obtain rfl:=eq_of_heq h2;subst h3;exact⟨_,rfl,.inr ⟨rfl,fun lb' te' e=>by cases e;exact hc⟩⟩
   ·simp only[AV.dat.injEq] at h;obtain⟨rfl,h2,h3⟩:=h;obtain rfl:=eq_of_heq h2;exact⟨_,rfl,.inl h3.symm⟩
 | badr s' p =>
  simp only[cutV] at h;split at h <;> cases h
 | _=>cases h
theorem Rd.cut {w:World} {S:qa} {v:Value} {av:AV} (h:Rd w S v av) (l:List Nat):Rd w S v (cutV l av):=by
 cases av with
 | dat s x o =>
  cases o with
  | none=>exact h
  | some p =>
   simp only[cutV];split
   ·exact h
   ·exact h.relab none
 | badr s p =>
  simp only[cutV];split
  ·exact h
  ·exact .bad v
 | _=>exact h
theorem qIp {s:Sh} {x:Den s} (h:cutV l v=.box s x):v=.box s x:=by
 cases v with
 | dat s' x' o' =>
  cases o' with
  | none=>cases h
  | some p=>simp only[cutV] at h;split at h <;> cases h
 | badr s' p=>simp only[cutV] at h;split at h <;> cases h
 | _=>exact h
theorem qAX {p:List Nat} (h:cutV l v=.badr s p):v=.badr s p∧qjq l s=true:=by
 cases v with
 | dat s' x' o' =>
  cases o' with
  | none=>cases h
  | some p=>simp only[cutV] at h;split at h <;> cases h
 | badr s' p' =>
  simp only[cutV] at h;split at h
  ·rename_i hc;cases h;exact⟨rfl,hc⟩
  ·cases h
 | _=>cases h
theorem qAY {f:FuncId} {ss:List Nat} (h:cutV l v=.clom f ss):v=.clom f ss:=by
 cases v with
 | dat s' x' o' =>
  cases o' with
  | none=>cases h
  | some p=>simp only[cutV] at h;split at h <;> cases h
 | badr s' p=>simp only[cutV] at h;split at h <;> cases h
 | _=>exact h
theorem R.cut (h:R base w0 S0 S fr a w) (o:Option (List Nat)):R base w0 S0 S (cutF o fr) a w:=by
 cases o with
 | none=>exact h
 | some l =>
  have hat:∀ t,cutF (some l) fr t=if (l.map (· % 1000000)).contains t then cutV l (fr t) else .bad:=qoe fr l l
  have hdat:∀ t s (x:Den s) lb te,cutF (some l) fr t=.dat s x (some (lb,te))→fr t=.dat s x (some (lb,te))∧(l.map (· % 1000000)).contains lb=true∧(l.map (· % 1000000)).contains t=true:=fun t s x lb te e=>by
   rw[hat] at e;split at e
   ·rename_i hc;obtain⟨o',e1,e2⟩:=qIo e;rcases e2 with e2 | ⟨e2,e3⟩
    ·cases e2
    ·subst e2;exact⟨e1,qhi (e3 _ _ rfl),hc⟩
   ·cases e
  have hlab:∀ t lb te,(cutF (some l) fr t).lab=some (lb,te)→(fr t).lab=some (lb,te)∧cutF (some l) fr lb=cutF (some l) fr t∧cutF (some l) fr t=fr t:=fun t lb te e=>by
   cases hv:cutF (some l) fr t with
   | dat s x o =>
    rw[hv] at e;simp only[AV.lab] at e;subst e;obtain⟨e1,e2,e3⟩:=hdat t s x lb te hv;have e4:=(h.cp t lb te (by rw[e1];rfl)).1;refine⟨by rw[e1];rfl,?_,e1.symm⟩;rw[← hv,hat lb,hat t,if_pos e2,if_pos e3,e4]
   | _=>rw[hv] at e;simp[AV.lab] at e
  have hbox:∀ t s (x:Den s),cutF (some l) fr t=.box s x→fr t=.box s x:=fun t s x e=>by
   rw[hat] at e;split at e
   ·exact qIp e
   ·cases e
  exact {
   below:=h.below
   base_le:=h.base_le
   old:=h.old
   kp:=h.kp
   slt:=h.slt
   dfr:=h.dfr
   rd:=fun t=>by
    rw[hat];split
    ·exact(h.rd t).cut l
    ·exact .bad _
   cp:=fun t lb te e=>⟨(hlab t lb te e).2.1,(h.cp t lb te (hlab t lb te e).1).2⟩
   sls:=fun t s x o e=>h.sls t s x o (hdat t s x o.1 o.2 e).1
   own:=fun t e x te he=>h.own t e x te (hdat t (.sl e) x t te he).1
   dist:=fun lb lb' e e' b h1 h2=>h.dist lb lb' e e' b (hlab _ _ _ h1).1 (hlab _ _ _ h2).1
   box:=fun t s x e=>h.box t s x (hbox t s x e)
   boxd:=fun t t' s s' x x' b h1 h2=>h.boxd t t' s s' x x' b (hbox _ _ _ h1) (hbox _ _ _ h2)
   boxo:=fun t s x b lb e h1 h2 h3=>h.boxo t s x b lb e (hbox _ _ _ h1) h2 (hlab _ _ _ h3).1
   badr:=fun t s p e=>by
    rw[hat] at e;split at e
    ·obtain⟨e1,e2⟩:=qAX e;obtain⟨u,y,z,b,k1,k2⟩:=h.badr t s p e1;refine⟨u,y,z,b,?_,k2⟩;rw[hat,if_pos (qhi e2),k1];rfl
    ·cases e
   clm:=fun t f ss e=>by
    rw[hat] at e;split at e
    ·exact h.clm t f ss (qAY e)
    ·cases e }
theorem RR.cut {n:Nat} (h:RR base w0 S0 n fr a w) (o:Option (List Nat)):RR base w0 S0 n (cutF o fr) a w:=by
 obtain⟨hn,S,h⟩:=h;exact⟨hn,S,h.cut o⟩
theorem qof (hT:TyOk P E) (hF:∀ w S,FnsOk P E w S) (hm:P.follows .mixedOrders=true) {r:AV} {N:Nat} {lp:Code→(Ex→Fr→Option AV)→Fr→Option AV}
 (hlp:∀ c K Q fr a w,lp c K fr=some r→Goes E base w0 S0 K r Q→RR base w0 S0 E.nt fr a w→Code.rounds P c Q N a w) :
 ∀ (c:Code) (K:Ex→Fr→Option AV) (Q:Exit→Act→World→Prop) (fr:Fr) (a:Act) (w:World),evC E lp c K fr=some r→Goes E base w0 S0 K r Q→RR base w0 S0 E.nt fr a w→c.wp P Q a w
 | .skip,K,Q,fr,a,w,he,hK,hR=>wp_skip (hK.go .normal fr a w he hR)
 | .region id ops false,K,Q,fr,a,w,he,hK,hR =>
  wp_region_list (qoy hT hF (fun fr' a' w' h1 h2=>hK.go .normal fr' a' w' h1 h2) ops.toList fr a w he hR)
 | .region id ops true,K,Q,fr,a,w,he,hK,hR=>by
  simp only[evC] at he;split at he
  ·rename_i hsel;obtain⟨hn,S,h⟩:=hR;exact wp_region_held (S:=fun w'=>Keeps { w with drawn:=w.drawn+1 } S w' S) hm (qkt hT hF hsel hK.panics (fun fr' a' w' h1 h2=>hK.go .normal fr' a' w' h1 h2) _ _ _ fr a _ S _ he hn h.drew (fun _ hk=>hk) (yv _))
  ·cases he
 | .seq x y,K,Q,fr,a,w,he,hK,hR=>by
  refine wp_seq (qof hT hF hm hlp x _ _ fr a w he ⟨fun c a w=>hK.panics c a w,fun ex fr' a' w' h1 h2=>?_⟩ hR);cases ex with
  | normal=>exact qof hT hF hm hlp y K Q fr' a' w' h1 hK h2
  | exit id=>exact hK.go (.exit id) fr' a' w' h1 h2
  | ret=>exact hK.go .ret fr' a' w' h1 h2
 | .cond c x y,K,Q,fr,a,w,he,hK,hR=>by
  simp only[evC] at he;split at he
  ·rename_i ok t o hc;cases ok with
   | false=>cases he
   | true =>
    simp only[yc] at he;obtain⟨hn,S,h⟩:=hR;have hb:=qbD (qt h hc).1;cases t with
    | true=>exact wp_cond hb (qof hT hF hm hlp x K Q fr a w he hK ⟨hn,S,h⟩)
    | false=>exact wp_cond hb (qof hT hF hm hlp y K Q fr a w he hK ⟨hn,S,h⟩)
  ·cases he
 | .block id c,K,Q,fr,a,w,he,hK,hR=>by
  refine wp_block (qof hT hF hm hlp c _ _ fr a w he ⟨fun c a w=>hK.panics c a w,fun ex fr' a' w' h1 h2=>?_⟩ hR);cases ex with
  | normal=>exact hK.go .normal _ a' w' h1 (h2.cut _)
  | exit i =>
   simp only[exOf,Exit.inBlock];simp only[qNz] at h1;split at h1
   ·rename_i hi;rw[if_pos hi];exact hK.go .normal fr' a' w' h1 h2
   ·rename_i hi;rw[if_neg hi];exact hK.go (.exit i) fr' a' w' h1 h2
  | ret=>exact hK.go .ret fr' a' w' h1 h2
 | .loop c,K,Q,fr,a,w,he,hK,hR=>wp_loop_rounds N (hlp c K Q _ a w he hK (hR.cut _))
 | .exit id,K,Q,fr,a,w,he,hK,hR=>wp_exit (hK.go (.exit id) _ a w he (hR.cut _))
 | .ret,K,Q,fr,a,w,he,hK,hR=>wp_ret (hK.go .ret _ a w he (hR.cut _))
 | .rangeFunc _ _ _ _,K,Q,fr,a,w,he,hK,hR=>by simp[evC] at he
 | .scope _,K,Q,fr,a,w,he,hK,hR=>by simp[evC] at he
 | .label _,K,Q,fr,a,w,he,hK,hR=>by simp[evC] at he
 | .goto _,K,Q,fr,a,w,he,hK,hR=>by simp[evC] at he
 | .refuse _,K,Q,fr,a,w,he,hK,hR=>by simp[evC] at he
theorem qIq (hT:TyOk P E) (hF:∀ w S,FnsOk P E w S) (hm:P.follows .mixedOrders=true) {r:AV} :
 ∀ (n:Nat) (c:Code) (K:Ex→Fr→Option AV) (Q:Exit→Act→World→Prop) (fr:Fr) (a:Act) (w:World),evL E n c K fr=some r→Goes E base w0 S0 K r Q→RR base w0 S0 E.nt fr a w→Code.rounds P c Q n a w
 | 0,c,K,Q,fr,a,w,he,_,_=>by simp[evL] at he
 | n+1,c,K,Q,fr,a,w,he,hK,hR=>by
  rw[rounds_succ];simp only[evL] at he;refine qof hT hF hm (qIq hT hF hm n) c _ _ fr a w he ⟨fun c a w=>hK.panics c a w,fun ex fr' a' w' h1 h2=>?_⟩ hR;cases ex with
  | normal=>exact qIq hT hF hm n c K Q _ a' w' h1 hK (h2.cut _)
  | exit id=>exact hK.go (.exit id) fr' a' w' h1 h2
  | ret=>exact hK.go .ret fr' a' w' h1 h2
theorem qGH (h:R base w0 S0 S fr a w) (hT:TyOk P E) {rv:ResultVar} (he:resV E fr rv=(true,v)) :
 ∃ val,(match rv with | .tmp t=>(pure (a.tmps.getD t undef):Sem Value) | .cell t ty=>(do loadVar ty (← asAddr (a.tmps.getD t undef)))).run P w=.ok val w∧Rd w S val v∧Cpy fr a v val:=by
 cases rv with
 | tmp t =>
  simp only[resV] at he;split at he
  ·simp at he
  ·simp at he
  ·simp at he
  ·rename_i hb hp hc;simp only[yb,true_and] at he;subst he;exact⟨_,rfl,h.rd t,h.cpy t (fun s x e=>hb s x e)⟩
 | cell t ty =>
  simp only[resV] at he;split at he
  ·rename_i s x hf;split at he
   ·rename_i hs;simp only[yb,true_and] at he;subst he;obtain⟨b,⟨_,_,c,T,hc,hr⟩,e⟩:=h.box t s x hf;have hl:=RdC.length _ _ _ hr;have hall:∀ (i:Nat) (v:Value),c.toList[i]? = some v→w.cell? ⟨b,0+i,none⟩=some v:=fun i v hv=>by
     simp only[World.cell?,hc,Option.isSome_none,yq,if_false,yE];simpa using hv
    have hld:=qG (hT ty s hs) hr (ad:=⟨b,0,none⟩) rfl hall;refine⟨_,?_,.dat _ _ _ _ hld.2,Cpy.of_plain rfl⟩;show (do loadVar ty (← asAddr (a.tmps.getD t undef)):Sem Value).run P w=_;rw[e];exact hld.1
   ·simp at he
  ·rename_i s x hf;split at he
   ·rename_i hs;simp only[yb,true_and] at he;subst he;have hr:=h.rd t;rw[hf] at hr;obtain⟨ad,cs,e,hc,hsp,hm⟩:=qtP hr;have hld:=qG (hT ty s hs) hc (w':=w) hsp (fun i v hv=>((hm (by rintro rfl;simp at hv)).2 i v hv).2);refine⟨_,?_,.dat _ _ _ _ hld.2,Cpy.of_plain rfl⟩;show (do loadVar ty (← asAddr (a.tmps.getD t undef)):Sem Value).run P w=_;rw[e];exact hld.1
   ·simp at he
  ·simp at he
def resOf (a:Act):ResultVar→Sem Value
 | .tmp t=>pure (a.tmps.getD t undef)
 | .cell t ty=>do loadVar ty (← asAddr (a.tmps.getD t undef))
theorem qGI (h:R base w0 S0 S fr a w) (hT:TyOk P E):∀ (rs:List ResultVar) (vs:List AV),resL E fr rs=(true,vs) →
 ∃ vals:List Value,(rs.mapM (resOf a)).run P w=.ok vals w∧vals.length=vs.length∧vals.length=rs.length∧∀ (i:Nat) (c:AV),vs[i]? = some c→∃ v,vals[i]? = some v∧Rd w S v c
 | [],vs,he=>by
  simp only[resL,yb,true_and] at he;subst he;exact⟨[],by simp[yu],rfl,rfl,fun i c hc=>by simp at hc⟩
 | rv :: rs,vs,he=>by
  simp only[resL] at he;cases h1:resV E fr rv with
  | mk ok v =>
   cases h2:resL E fr rs with
   | mk oks vs' =>
    rw[h1,h2] at he;simp only[yb,yf] at he;obtain⟨⟨rfl,rfl⟩,rfl⟩:=he;obtain⟨val,k1,k2,_⟩:=qGH h hT h1;obtain⟨vals,j1,j2,j3,j4⟩:=qGI h hT rs vs' h2;have k1':(resOf a rv).run P w=.ok val w:=by cases rv <;> exact k1
    refine⟨val :: vals,?_,by simp[j2],by simp[j3],fun i c hc=>?_⟩
    ·rw[List.mapM_cons,yh,k1',ye,yh,j1,ye];rfl
    ·cases i with
     | zero =>
      simp only[y3,ya] at hc;subst hc;exact⟨val,rfl,k2.strip⟩
     | succ i =>
      simp only[yZ] at hc ⊢;exact j4 i c hc
theorem qeG (h:R base w0 S0 S fr a w) (hT:TyOk P E) {fn:Func} {r:AV} (he:qfU E fn.results fr=some r):∃ v,(results fn a.tmps).run P w=.ok v w∧ResRd base w S v r:=by
 have hrun:∀ vals:List Value,(fn.results.toList.mapM (resOf a)).run P w=.ok vals w→(results fn a.tmps).run P w=.ok (if h:vals.toArray.size=1 then vals.toArray[0] else .tuple vals.toArray) w:=fun vals hv=>by
  have h2:results fn a.tmps=(do let vs ← fn.results.mapM (resOf a);pure (if h:vs.size=1 then vs[0] else .tuple vs)):=by
   unfold results;congr 1
  rw[h2,yh];have:(fn.results.mapM (resOf a):Sem (Array Value)).run P w=.ok vals.toArray w:=by
   rw[Array.mapM_eq_mapM_toList];simp only[Sem.run_map];rw[hv];rfl
  rw[this,ye];rfl
 unfold qfU at he;split at he
 ·rename_i rv hrs;cases h1:resV E fr rv with
  | mk ok v =>
   rw[h1] at he;cases ok with
   | false=>cases he
   | true =>
    simp only[yc,ya] at he;subst he;obtain⟨val,k1,k2,k3⟩:=qGH h hT h1;have k1':(resOf a rv).run P w=.ok val w:=by cases rv <;> exact k1
    have:=hrun [val] (by rw[hrs,List.mapM_cons,yh,k1',ye];simp[yu]);refine⟨val,this,k2,k3.nb,fun s p e=>?_,fun l te hl=>?_⟩
    ·subst e;cases rv with
     | tmp t =>
      simp only[resV] at h1;split at h1
      ·simp at h1
      ·simp at h1
      ·simp at h1
      ·rename_i hb hp hc;simp only[yb,true_and] at h1;exact hp _ _ h1
     | cell t ty =>
      simp only[resV] at h1;split at h1 <;> (try split at h1) <;> simp at h1
    ·obtain⟨e1,e2⟩:=k3.cp l te hl;cases v with
     | dat s x o =>
      simp only[AV.lab] at hl;subst hl;obtain⟨e,rfl⟩:=h.sls l s x _ e1;exact⟨e,x,rfl,by rw[← e2];exact h.own l e x te e1⟩
     | _=>simp[AV.lab] at hl
 ·rename_i hrs;cases h1:resL E fr fn.results.toList with
  | mk ok vs =>
   rw[h1] at he;cases ok with
   | false=>cases he
   | true =>
    simp only[yc,ya] at he;subst he;obtain⟨vals,k1,k2,k3,k4⟩:=qGI h hT _ _ h1;have:=hrun vals k1;have hne:¬ (vals.toArray.size=1):=by
     intro h2;have h3:fn.results.toList.length=1:=by rw[← k3];simpa using h2
     obtain⟨rv,hrv⟩:=List.length_eq_one_iff.1 h3;exact hrs rv hrv
    rw[dif_neg hne] at this;refine⟨_,this,.tup _ _ (fun i c hc=>.inl (by have e:vals.toArray.size=_:=(by simpa using k2);rw[e];exact(List.getElem?_eq_some_iff.1 hc).1)) (fun i c hc=>?_),fun s x e=>(by cases e),fun s p e=>(by cases e),fun l te e=>(by simp[AV.lab] at e)⟩;obtain⟨v,hv,hr⟩:=k4 i c hc;have:vals.toArray.getD i undef=v:=by
     have h4:vals.toArray[i]? = some v:=by simpa using hv
     obtain⟨hlt,e⟩:=Array.getElem?_eq_some_iff.1 h4;unfold Array.getD;rw[dif_pos hlt];exact e
    rw[this];exact hr
theorem qdz (v:AV):v.strip.lab=none:=by cases v <;> rfl
theorem R.start {S:qa} (hS:∀ b o,S b o→b < w.heap.size) {vals:List Value} {avs:List AV} (ha:qav w S vals avs) (k:Nat) :
 R (· < w.heap.size) w S S (fun t=>(avs.getD t .bad).strip) { tmps:=vals.toArray++Array.replicate k undef,defers:=[] } w where
 below:=Kept.refl _ _
 base_le:=fun _ hk=>hk
 old:=fun _ _ _=>Iff.rfl
 kp:=Keeps.refl _ _
 slt:=hS
 dfr:=rfl
 rd:=fun t=>by
  cases h1:avs[t]? with
  | none=>simp only[List.getD,h1,Option.getD_none,AV.strip];exact .bad _
  | some av =>
   have hlt:t < vals.length:=by rw[ha.1];exact(List.getElem?_eq_some_iff.1 h1).1
   have h2:vals[t]? = some vals[t]:=yO hlt;have h3:(vals.toArray++Array.replicate k undef).getD t undef=vals[t]:=by
    have:(vals.toArray++Array.replicate k undef)[t]? = some vals[t]:=by
     rw[Array.getElem?_append_left (by simpa using hlt)];simp[h2]
    obtain⟨hlt',e⟩:=Array.getElem?_eq_some_iff.1 this;unfold Array.getD;rw[dif_pos hlt'];exact e
   simp only[List.getD,h1,Option.getD_some];rw[h3];exact(ha.2 t _ _ h2 h1).strip
 sls:=fun t s x l he=>by
  have:=qdz (avs.getD t .bad);rw[he] at this;cases this
 cp:=fun t l e he=>by rw[qdz] at he;cases he
 own:=fun t e x te he=>by
  have:=qdz (avs.getD t .bad);rw[he] at this;cases this
 dist:=fun l l' e e' b h1 _ _ _=>by rw[qdz] at h1;cases h1
 box:=fun t s x he=>by cases h1:avs.getD t .bad <;> rw[h1] at he <;> cases he
 boxd:=fun t t' s s' x x' b he _ _ _=>by cases h1:avs.getD t .bad <;> rw[h1] at he <;> cases he
 boxo:=fun t s x b l e he _ _=>by cases h1:avs.getD t .bad <;> rw[h1] at he <;> cases he
 badr:=fun t s p he=>by cases h1:avs.getD t .bad <;> rw[h1] at he <;> cases he
 clm:=fun t f ss he=>by cases h1:avs.getD t .bad <;> rw[h1] at he <;> cases he
end
end
section
open Go.RowKit
variable {s:Sh} {P:Program} {E:Env} {t:TypeId}
theorem qwj {e:Sh} (hf:∀ vs r,zeroC e vs=some r→∃ us,vs=us++r∧∀ w S,RdC w S e (dflt e) us) :
 ∀ (n:Nat) (vs r:List Value),zeroN (zeroC e) n vs=some r→∃ us,vs=us++r∧∀ w S,qd (RdC w S e) (List.replicate n (dflt e)) us
 | 0,vs,r,h=>by
  simp only[zeroN,ya] at h;exact⟨[],by simp[h],fun _ _=>rfl⟩
 | n+1,vs,r,h=>by
  simp only[zeroN] at h;split at h
  ·rename_i r1 h1;obtain⟨us,e1,k1⟩:=hf _ _ h1;obtain⟨us2,e2,k2⟩:=qwj hf n _ _ h;exact⟨us++us2,by rw[e1,e2,yl],fun w S=>⟨us,us2,rfl,k1 w S,k2 w S⟩⟩
  ·cases h
theorem qcd:∀ (s:Sh) (vs r:List Value),zeroC s vs=some r→∃ us,vs=us++r∧∀ w S,RdC w S s (dflt s) us
 | .bool,vs,r,h=>by
  simp only[zeroC] at h;split at h
  ·cases h;exact⟨[_],rfl,fun w S=>by simp[RdC,dflt]⟩
  ·cases h
 | .byte,vs,r,h=>by
  simp only[zeroC] at h;split at h
  ·split at h
   ·rename_i hn;subst hn;cases h;exact⟨[_],rfl,fun w S=>by simp[RdC,dflt]⟩
   ·cases h
  ·cases h
 | .int k,vs,r,h=>by
  simp only[zeroC] at h;split at h
  ·split at h
   ·rename_i hn;obtain⟨rfl,rfl⟩:=hn;cases h;exact⟨[_],rfl,fun w S=>by simp[RdC,dflt]⟩
   ·cases h
  ·cases h
 | .str,vs,r,h=>by
  simp only[zeroC] at h;split at h
  ·split at h
   ·rename_i hn;cases h;exact⟨[_],rfl,fun w S=>by simp only[RdC];exact⟨_,rfl,hn⟩⟩
   ·cases h
  ·cases h
 | .sl e,vs,r,h=>by
  simp only[zeroC] at h;split at h
  ·cases h;exact⟨[_],rfl,fun w S=>by simp only[RdC];exact⟨none,0,[],by simp[dflt],by simp[dflt],rfl,fun h=>absurd rfl h⟩⟩
  ·cases h
 | .unit,vs,r,h=>by
  simp only[zeroC,ya] at h;exact⟨[],by simp[h],fun w S=>by simp[RdC]⟩
 | .pair a b,vs,r,h=>by
  simp only[zeroC] at h;split at h
  ·rename_i r1 h1;obtain⟨us,e1,k1⟩:=qcd a _ _ h1;obtain⟨us2,e2,k2⟩:=qcd b _ _ h;exact⟨us++us2,by rw[e1,e2,yl],fun w S=>by simp only[RdC];exact⟨us,us2,rfl,k1 w S,k2 w S⟩⟩
  ·cases h
 | .arr n e,vs,r,h=>by
  simp only[zeroC] at h;obtain⟨us,e1,k1⟩:=qwj (qcd e) n vs r h;exact⟨us,e1,fun w S=>by simp only[RdC,dflt];exact⟨List.length_replicate,k1 w S⟩⟩
theorem qJb {z:Value} (h:zeroV s z=true) (w:World) (S:qa):RdV w S s (dflt s) z:=by
 unfold zeroV at h;unfold RdV;split at h
 ·rename_i cs hs;rw[hs];split at h
  ·rename_i hz;obtain⟨us,e,k⟩:=qcd _ _ _ hz;rw[yG] at e;subst e;exact⟨cs,rfl,k w S⟩
  ·cases h
 ·cases h
 ·rename_i hs;rw[hs];split at h
  ·rename_i hz;obtain⟨us,e,k⟩:=qcd _ _ _ hz;rw[yG] at e;subst e;exact k w S
  ·cases h
def Sh.nf:Sh→Nat
 | .pair _ b=>b.nf+1
 | _=>0
theorem qND:∀ (s:Sh) (i:Nat) (u:Sh),s.fld i=some u→i < s.nf
 | .pair a b,0,u,_=>by simp[Sh.nf]
 | .pair a b,i+1,u,h=>by
  have:=qND b i u (by simpa [Sh.fld] using h);simp only[Sh.nf];omega
 | .bool,i,u,h=>by cases i <;> simp[Sh.fld] at h
 | .byte,i,u,h=>by cases i <;> simp[Sh.fld] at h
 | .int _,i,u,h=>by cases i <;> simp[Sh.fld] at h
 | .str,i,u,h=>by cases i <;> simp[Sh.fld] at h
 | .sl _,i,u,h=>by cases i <;> simp[Sh.fld] at h
 | .unit,i,u,h=>by cases i <;> simp[Sh.fld] at h
 | .arr _ _,i,u,h=>by cases i <;> simp[Sh.fld] at h
def fldsB (T:TypeId→TI) (s:Sh):Nat→List Field→Bool
 | i,[]=>decide (i=s.nf)
 | i,f :: r=>decide (f.offset=qP s i)&&decide ((T f.type).sh=s.fld i)&&(s.fld i).isSome&&fldsB T s (i+1) r
theorem qwk {T:TypeId→TI} {s:Sh}:∀ (fs:List Field) (i:Nat),fldsB T s i fs=true →
 i+fs.length=s.nf∧∀ (j:Nat) (f:Field),fs[j]? = some f→f.offset=qP s (i+j)∧(T f.type).sh=s.fld (i+j)∧(s.fld (i+j)).isSome=true
 | [],i,h=>by
  simp only[fldsB,ym] at h;exact⟨by simpa using h,fun j f hf=>by simp at hf⟩
 | g :: r,i,h=>by
  simp only[fldsB,yf,ym] at h;obtain⟨⟨⟨h1,h2⟩,h3⟩,h4⟩:=h;obtain⟨k1,k2⟩:=qwk r (i+1) h4;refine⟨by simp only[yg];omega,fun j f hf=>?_⟩;cases j with
  | zero =>
   simp only[y3,ya] at hf;subst hf;exact⟨h1,h2,h3⟩
  | succ j =>
   simp only[yZ] at hf;have:=k2 j f hf;rw[show i+1+j=i+(j+1) by omega] at this;exact this
def descB (P:Program) (T:TypeId→TI) (t:TypeId) (s:Sh):Bool :=
 match s,P.underlying t with
 | .bool,some .bool=>true
 | .byte,some (.int k)=>decide (k=.u8)
 | .int k,some (.int k')=>decide (k'=k)&&decide (k≠.u8)
 | .str,some .string=>true
 | .sl e,some (.slice te)=>decide ((T te).sh=some e)&&decide (0 < e.size)&&decide (te=(T t).el)
 | .arr n e,some (.array m te)=>decide (m=n)&&decide ((T te).sh=some e)&&decide (te=(T t).el)
 | .unit,some (.struct fs)=>fldsB T .unit 0 fs.toList
 | .pair a b,some (.struct fs)=>fldsB T (.pair a b) 0 fs.toList
 | _,_=>false
def tyB (P:Program) (T:TypeId→TI) (t:TypeId):Bool :=
 match (T t).sh with
 | none=>true
 | some s=>descB P T t s&&(match P.info? t with
  | some i=>decide (i.size=s.size)&&decide (i.bytes=(T t).bytes)&&(match i.zero with | some z=>zeroV s z | none=>false)
  | none=>false)
theorem qrj {fs:Array Field} (hu:P.underlying t=some (.struct fs)) (h:fldsB E.ti s 0 fs.toList=true) :
 ∃ fs:Array Field,P.underlying t=some (.struct fs)∧(∀ (i:Nat) (f:Field),fs[i]? = some f→f.offset=qP s i∧(E.ti f.type).sh=s.fld i∧(s.fld i).isSome=true)∧∀ i u,s.fld i=some u→∃ f:Field,fs[i]? = some f:=by
 obtain⟨k1,k2⟩:=qwk _ _ h;refine⟨fs,hu,fun i f hf=>?_,fun i u hi=>?_⟩
 ·have:=k2 i f (by simpa using hf);simpa using this
 ·have h1:=qND s i u hi;have:i < fs.size:=by simp at k1;omega
  exact⟨fs[i],by simp[this]⟩
theorem qRN (hs:(E.ti t).sh=some s) (h:tyB P E.ti t=true):TyOk1 P E t s:=by
 unfold tyB at h;rw[hs] at h;simp only[yf] at h;obtain⟨h1,h2⟩:=h;have hi:∃ i z,P.info? t=some i∧i.size=s.size∧i.bytes=(E.ti t).bytes∧i.zero=some z∧∀ w S,RdV w S s (dflt s) z:=by
  split at h2
  ·rename_i i hi;simp only[yf,ym] at h2;obtain⟨⟨k1,k2⟩,k3⟩:=h2;split at k3
   ·rename_i z hz;exact⟨i,z,hi,k1,k2,hz,fun w S=>qJb k3 w S⟩
   ·cases k3
  ·cases h2
 have hz:∀ i z,P.info? t=some i→i.zero=some z→zeroV s z=true:=fun i z hi hz=>by
  rw[hi] at h2;simp only[yf,hz] at h2;exact h2.2
 have he:∀ n e m te,s=.arr n e→P.underlying t=some (.array m te)→te=(E.ti t).el:=fun n e m te hs hu=>by
  subst hs;unfold descB at h1;rw[hu] at h1;simp only[yf,ym] at h1;exact h1.2
 clear h2;cases s with
 | bool =>
  refine⟨hi,?_,hz,he⟩;unfold descB at h1;split at h1 <;> simp_all
 | byte =>
  refine⟨hi,?_,hz,he⟩;unfold descB at h1;split at h1 <;> simp_all
 | int k =>
  refine⟨hi,?_,hz,he⟩;unfold descB at h1;split at h1 <;> simp_all
 | str =>
  refine⟨hi,?_,hz,he⟩;unfold descB at h1;split at h1 <;> simp_all
 | sl e =>
  refine⟨hi,?_,hz,he⟩;unfold descB at h1;split at h1;all_goals first | (rename_i e1 hu;cases e1;simp only[yf,ym] at h1;exact⟨_,hu,h1.1.1,h1.1.2,h1.2⟩) | simp_all
 | arr n e =>
  refine⟨hi,?_,hz,he⟩;unfold descB at h1;split at h1 <;> simp_all
 | unit =>
  refine⟨hi,?_,hz,he⟩;unfold descB at h1;split at h1 <;> first | (rename_i e1 hu;cases e1;done) | skip
  all_goals first | exact qrj (by assumption) h1 | simp_all
 | pair a b =>
  refine⟨hi,?_,hz,he⟩;unfold descB at h1;split at h1;all_goals first | (rename_i e1 hu;cases e1;exact qrj hu h1) | simp_all
def tiOf:List (TypeId×TI)→TypeId→TI
 | [],_=>⟨none,0,0⟩
 | (k,i) :: r,t=>if t=k then i else tiOf r t
theorem qwl:∀ (l:List (TypeId×TI)) (t:TypeId) (s:Sh),(tiOf l t).sh=some s→∃ p∈l,p.1=t
 | [],t,s,h=>by simp[tiOf] at h
 | (k,i) :: r,t,s,h=>by
  simp only[tiOf] at h;split at h
  ·rename_i e;exact⟨_,List.mem_cons_self,e.symm⟩
  ·obtain⟨p,hp,e⟩:=qwl r t s h;exact⟨p,List.mem_cons_of_mem _ hp,e⟩
theorem qq {l:List (TypeId×TI)} (hE:E.ti=tiOf l) (h:(l.all fun p=>tyB P (tiOf l) p.1)=true):TyOk P E:=by
 intro t s hs;rw[hE] at hs;obtain⟨p,hp,rfl⟩:=qwl l t s hs;have:=List.all_eq_true.1 h p hp;exact qRN (by rw[hE];exact hs) (by rw[hE];exact this)
end
section
open Go.RowKit
variable {P:Program} {w:World} {S:qa} {f:FuncId} {spec spec':List AV→Bool×AV}
def fnsOf:List (FuncId×(List AV→Bool×AV))→FuncId→List AV→Bool×AV
 | [],_=>fun _=>(false,.bad)
 | (k,s) :: r,f=>if f=k then s else fnsOf r f
theorem qJ:∀ f,qaT P f (fnsOf [] f) w S:=fun _ _ _ _ h=>by cases h
theorem qv {k:FuncId} {s:List AV→Bool×AV} {r:List (FuncId×(List AV→Bool×AV))} (h:qaT P k s w S) (hr:∀ f,qaT P f (fnsOf r f) w S):∀ f,qaT P f (fnsOf ((k,s) :: r) f) w S:=fun f=>by
 unfold fnsOf;split
 ·rename_i e;subst e;exact h
 ·exact hr f
theorem Ran.mono {vals:Array Value} {Post Post':Value→World→Prop} (h:Ran P f vals w Post) (hp:∀ v w',Post v w'→Post' v w'):Ran P f vals w Post':=by
 rcases h with ⟨h1,h2⟩ | ⟨v,w',h1,h2⟩
 ·exact .inl ⟨h1,h2.mono fun e w' ⟨v,he,hq⟩=>⟨v,he,hp _ _ hq⟩⟩
 ·exact .inr ⟨v,w',h1,hp _ _ h2⟩
theorem ResRd.strip {n:Nat→Prop} {w':World} {S':qa} {v:Value} {r:AV} (h:ResRd n w' S' v r):ResRd n w' S' v r.strip where
 rd:=h.rd.strip
 nb:=fun s x e=>by cases r <;> simp[AV.strip] at e
 np:=fun s p e=>by cases r <;> simp[AV.strip] at e
 own:=fun l te e=>by rw[qdz] at e;cases e
theorem qaT.strip (h:qaT P f spec w S) (he:∀ avs r,spec' avs=(true,r)→∃ r',spec avs=(true,r')∧(r'=r∨r'.strip=r)):qaT P f spec' w S:=by
 intro vals avs r h1 h2 h3;obtain⟨r',k1,k2⟩:=he avs r h1;refine(h vals avs r' k1 h2 h3).mono fun v w' ⟨S',g,hr⟩=>⟨S',g,?_⟩;rcases k2 with rfl | rfl
 ·exact hr
 ·exact hr.strip
def Any:World→qa→Prop:=fun _ _=>True
theorem qBa:Stays Any:=fun _ _ _ _ _ _=>trivial
theorem Sound.g {G:World→qa→Prop} (h:Sound P f spec):qcZ G P f spec:=fun w S _=>h w S
theorem Sound.strip (h:Sound P f spec) (he:∀ avs r,spec' avs=(true,r)→∃ r',spec avs=(true,r')∧(r'=r∨r'.strip=r)):Sound P f spec' :=
 fun w S=>(h w S).strip he
end
section
open Go.RowKit Go.Lib
def evFnC (E:Env) (n:Nat) (c:Code) (rs:Array ResultVar) (avs:List AV):Option AV :=
 if E.nt < avs.length then none else evC E (evL E n) c (kFn E rs) (fun t=>if t=0 then avs.getD 0 .bad else (avs.getD t .bad).strip)
section
variable {w:World} {S:qa} {P:Program} {E:Env}
theorem R.startC (hS:∀ b o,S b o→b < w.heap.size) {Pr:Nat→Prop} {v0:Value} {vals:List Value} {avs:List AV} {e:Sh} {x:List (Den e)} {te:TypeId}
 (hr0:Rd w S v0 (.dat (.sl e) x none)) (ho:qcb w S Pr te e v0 x) (ha:qav w S vals avs) (k:Nat) :
 R (fun k=>k < w.heap.size∧v0.ownBlock≠some k) w S S (fun t=>if t=0 then (.dat (.sl e) x (some (0,te)) :: avs).getD 0 .bad else ((.dat (.sl e) x (some (0,te)) :: avs).getD t .bad).strip)
  { tmps:=(v0 :: vals).toArray++Array.replicate k undef,defers:=[] } w:=by
 have h0:=R.start hS (vals:=v0 :: vals) (avs:=.dat (.sl e) x (some (0,te)) :: avs) (by
  refine⟨by simp[ha.1],fun i v av hv hav=>?_⟩;cases i with
  | zero =>
   simp only[y3,ya] at hv hav;subst hv hav;exact hr0.relab (some (0,te))
  | succ i =>
   simp only[yZ] at hv hav;exact ha.2 i v av hv hav) k
 have hst:∀ t,((AV.dat (.sl e) x (some (0,te)) :: avs).getD t .bad).strip.lab=none:=fun t=>qdz _;have hget:((v0 :: vals).toArray++Array.replicate k undef).getD 0 undef=v0:=by
  unfold Array.getD;rw[dif_pos (by simp;omega)];simp
 have hnb:∀ t s (y:Den s),((AV.dat (.sl e) x (some (0,te)) :: avs).getD t .bad).strip≠.box s y:=fun t s y he=>by
  cases h1:(AV.dat (.sl e) x (some (0,te)) :: avs).getD t .bad <;> rw[h1] at he <;> cases he
 have hnp:∀ t s p,((AV.dat (.sl e) x (some (0,te)) :: avs).getD t .bad).strip≠.badr s p:=fun t s p he=>by
  cases h1:(AV.dat (.sl e) x (some (0,te)) :: avs).getD t .bad <;> rw[h1] at he <;> cases he
 have hnl:∀ t f ss,((AV.dat (.sl e) x (some (0,te)) :: avs).getD t .bad).strip≠.clom f ss:=fun t f ss he=>by
  cases h1:(AV.dat (.sl e) x (some (0,te)) :: avs).getD t .bad <;> rw[h1] at he <;> cases he
 have hlab:∀ t l te',(if t=0 then (AV.dat (.sl e) x (some (0,te)) :: avs).getD 0 .bad else ((AV.dat (.sl e) x (some (0,te)) :: avs).getD t .bad).strip).lab=some (l,te')→t=0∧l=0∧te'=te:=fun t l te' he=>by
  split at he
  ·rename_i ht;simp only[List.getD_cons_zero,AV.lab,ya,yb] at he;exact⟨ht,he.1.symm,he.2.symm⟩
  ·rw[hst] at he;cases he
 refine⟨Kept.refl _ _,fun _ hk=>hk.1,fun _ _ _=>Iff.rfl,Keeps.refl _ _,hS,rfl,fun t=>?_,fun t l te' he=>?_,fun t s y l he=>?_,fun t e' y te' he=>?_,fun l l' e1 e2 b h1 h2 hne=>?_,fun t s y he=>?_,fun t t' s s' y y' b he=>?_,fun t s y b l e1 he=>?_,fun t s p he=>?_,fun t f ss he=>?_⟩
 ·split
  ·rename_i ht;subst ht;simp only[List.getD_cons_zero,hget];exact hr0.relab (some (0,te))
  ·exact h0.rd t
 ·obtain⟨rfl,rfl,_⟩:=hlab t l te' he;exact⟨rfl,rfl⟩
 ·split at he
  ·simp only[List.getD_cons_zero] at he;exact⟨e,(AV.dat.inj he).1.symm⟩
  ·have:=hst t;rw[he] at this;cases this
 ·split at he
  ·rename_i ht;subst ht;simp only[List.getD_cons_zero] at he;obtain⟨h4,h5,h6⟩:=AV.dat.inj he;obtain rfl:e=e':=by simpa using h4
   obtain rfl:=eq_of_heq h5;simp only[ya,yb,true_and] at h6;subst h6;obtain⟨xs,k1,k2,k3,k4⟩:=ho;simp only[hget];exact⟨xs,k1,k2,k3,fun b hb hp=>hp.2 hb⟩
  ·have:=hst t;rw[he] at this;cases this
 ·exact absurd ((hlab _ _ _ h1).1.trans (hlab _ _ _ h2).1.symm) hne
 ·split at he
  ·simp only[List.getD_cons_zero] at he;cases he
  ·exact absurd he (hnb t s y)
 ·split at he
  ·simp only[List.getD_cons_zero] at he;cases he
  ·exact absurd he (hnb t s y)
 ·split at he
  ·simp only[List.getD_cons_zero] at he;cases he
  ·exact absurd he (hnb t s y)
 ·split at he
  ·simp only[List.getD_cons_zero] at he;cases he
  ·exact absurd he (hnp t s p)
 ·split at he
  ·simp only[List.getD_cons_zero] at he;cases he
  ·exact absurd he (hnl t f ss)
theorem qek (hT:TyOk P E) (hF:∀ w S,FnsOk P E w S) (hm:P.follows .mixedOrders=true) {f:FuncId} {fn:Func} {c:Code} (hf:P.funcs[f]? = some fn) (hb:fn.body=some c) (hnt:fn.ntmps=E.nt)
 (hname:(fn.name == "runtime.NumGoroutine")=false) {spec:List AV→Bool×AV} (hspec:∀ avs r,spec avs=(true,r)→∃ n,evFnC E n c fn.results avs=some r):qlR P f spec:=by
 intro w S Pr v0 vals avs e x r te k hs hS hPr hr0 ho ha;obtain⟨n,he⟩:=hspec _ _ hs;unfold evFnC at he;split at he
 ·cases he
 rename_i hle;have fin:∀ (S':qa) (fr:Fr) (a:Act) (w':World) (v:Value),R (fun k=>k < w.heap.size∧v0.ownBlock≠some k) w S S' fr a w'→ResRd (fun k=>k < w.heap.size∧v0.ownBlock≠some k) w' S' v (.dat (.sl e) r (some (k,te))) →
  ∃ S',w.grownBy w' v0.ownBlock∧Keeps w S w' S'∧(∀ b o,b < w.heap.size→v0.ownBlock≠some b→(S' b o↔S b o))∧(∀ b o,S' b o→b < w'.heap.size) ∧
  Rd w' S' v (.dat (.sl e) r none)∧qcb w' S' Pr te e v r∧∀ b,v.ownBlock=some b→v0.ownBlock=some b∨w.heap.size≤b:=by
  intro S' fr a w' v h hr;obtain⟨e',y,h1,xs,k1,k2,k3,k4⟩:=hr.own k te rfl;obtain⟨h4,h5,_⟩:=AV.dat.inj h1;obtain rfl:e=e':=by simpa using h4
  obtain rfl:=eq_of_heq h5;have hnew:∀ b,v.ownBlock=some b→v0.ownBlock=some b∨w.heap.size≤b:=fun b hb=>by
   have:=k4 b hb
   by_cases hlt:b < w.heap.size
   ·exact .inl (Classical.byContradiction fun hne=>this ⟨hlt,hne⟩)
   ·exact .inr (Nat.le_of_not_lt hlt)
  refine⟨S',⟨h.below.os,h.below.tape,h.below.output,h.below.size,fun k hk hne=>h.below.block k ⟨hk,fun e=>hne e.symm⟩⟩,h.kp,fun b o hb hne=>h.old b o ⟨hb,hne⟩,h.slt,hr.rd.relab none,⟨xs,k1,k2,k3,fun b hb hp=>?_⟩,hnew⟩;rcases hnew b hb with h6 | h6
  ·obtain⟨_,_,_,_,k5⟩:=ho;exact k5 b h6 hp
  ·have:=hPr b hp;omega
 left;constructor
 ·unfold callFunc;rw[yh];have hname':¬ fn.name = "runtime.NumGoroutine" := by simpa using hname
  simp[program,Sem.run,hf,hname',hb]
 ·refine calls_of_wp hf hb ?_;have hsz:((v0 :: vals).toArray++Array.replicate (fn.ntmps - (v0 :: vals).toArray.size) undef).size=E.nt:=by
   have:=ha.1;simp at hle ⊢;omega
  have hstart:=R.startC hS hr0 ho ha (fn.ntmps - (v0 :: vals).toArray.size);refine qof hT hF hm (qIq hT hF hm n) c _ _ _ _ w he ⟨fun ch a w' hp=>?_,fun ex fr a w' h1 h2=>?_⟩ ⟨hsz,S,hstart⟩
  ·obtain⟨_,v,e,_⟩:=hp;cases e
  ·obtain⟨hn,S',h⟩:=h2;cases ex with
   | normal =>
    obtain⟨v,k1,k2⟩:=qeG h hT h1;exact⟨h.dfr,v,k1,v,rfl,fin S' fr a w' v h k2⟩
   | exit id=>cases h1
   | ret =>
    obtain⟨v,k1,k2⟩:=qeG h hT h1;exact⟨h.dfr,v,k1,v,rfl,fin S' fr a w' v h k2⟩
end
def cnsOf:List (FuncId×(List AV→Bool×AV))→FuncId→Option (List AV→Bool×AV)
 | [],_=>none
 | (k,s) :: r,f=>if f=k then some s else cnsOf r f
theorem qI {P:Program}:∀ f sp,cnsOf [] f=some sp→qlR P f sp:=fun _ _ h=>by cases h
theorem qog {P:Program} {k:FuncId} {s:List AV→Bool×AV} {r:List (FuncId×(List AV→Bool×AV))} (h:qlR P k s) (hr:∀ f sp,cnsOf r f=some sp→qlR P f sp) :
 ∀ f sp,cnsOf ((k,s) :: r) f=some sp→qlR P f sp:=fun f sp he=>by
 unfold cnsOf at he;split at he
 ·rename_i e;subst e;obtain rfl:=yp he;exact h
 ·exact hr f sp he
end
section
open Go.RowKit Go.WideShapes Go.ChangeShapes
variable {v:Value} {w:World} {S:qa} {avs:List AV} {n:Int}
section
variable {H:Type} {enc:TypeId×Value→H} {P:Program}
theorem post_of_below {f:Func} {s:ChangeSpec} {apart fresh handsOn again:Bool} {W W':World} {args:Array Value} {ds gs:List (DataW H)} {before pa pv:List MemPlace}
 (hW:DataW.Whole enc P f.params.toList s.vars apart W args.toList ds gs before)
 (hres:∀ (b:Nat) (sp:Nat→Bool) (hd:Bool),DataW.TrodAll enc P W' b sp hd f.resultTypes.toList (v.resultList f.resultTypes.size) (s.fn H (ds++gs)).results [])
 (hargs:∀ sp:Nat→Bool,(∀ p∈before,sp p.block=true)→DataW.TrodAll enc P W' 0 sp true f.params.toList args.toList (s.fn H (ds++gs)).args pa)
 (hvars:∀ sp:Nat→Bool,(∀ p∈before,sp p.block=true)→DataW.TrodVars enc P W' sp s.vars (s.fn H (ds++gs)).vars pv)
 (hps:before=pa++pv) (hb:Below W.heap.size W W')
 (hok:∀ (j:Nat) (t:TypeId) (r:Value),f.resultTypes[j]? = some t→(v.resultList f.resultTypes.size)[j]? = some r→Value.okWide P W' .any 0 t r) :
 s.post enc P f apart fresh handsOn again W args v W':=by
 have hlt:∀ p∈before,p.block < W.heap.size:=fun p hp=>hW.lt p hp;have hold:∀ p∈before,(fun b=>decide (b < W.heap.size)) p.block=true:=fun p hp=>by simpa using hlt p hp
 refine⟨ds,gs,before,[],pa,pv,hW,hres _ _ _,hargs _ hold,hvars _ hold,World.keptBut_mono (fun p hp=>⟨hp,?_⟩) (hb.frame (· ∈ before)),fun _=>?_⟩
 ·rw[hps,List.mem_append] at hp;exact Or.inr hp
 ·obtain⟨_,_,_,_,_,hz,hn⟩:=hW;refine⟨hok,_,_,([]++pa)++pv,⟨[]++pa,pv,trodAll_append (hargs _ (fun _ _=>rfl)) (hres _ _ _),hvars _ (fun _ _=>rfl),rfl,?_,?_⟩,?_⟩
  ·intro b off hp;have hin:MemPlace.cell b off∈before:=by rw[hps];simpa using hp
   rw[hb.frozen (hlt _ hin)];exact hz b off hin
  ·intro ha;have:=hn ha;rw[hps] at this;simpa using this
  ·intro p hp _;rw[hps];simpa using hp
end
theorem qBe {P:Program} {f:FuncId} {spec:List AV→Bool×AV} (h:qaT P f spec w S) {fn:Func} {c:Code} (hf:P.funcs[f]? = some fn) (hb:fn.body=some c)
 (hname:(fn.name == "runtime.NumGoroutine")=false) {vals:List Value} (hs:spec avs=(true,.bool true)) (hS:∀ b o,S b o→b < w.heap.size) (ha:qav w S vals avs) :
 Calls P f vals.toArray w fun e w'=>e=.returned (.bool true)∧Below w.heap.size w w':=by
 rcases h vals avs _ hs hS ha with ⟨_,h2⟩ | ⟨v,w',h1,_⟩
 ·exact h2.mono fun e w' ⟨v,he,S',g,hr⟩=>⟨by rw[he,qbD hr.rd],g.below⟩
 ·exfalso;have hname':¬ fn.name = "runtime.NumGoroutine" := by simpa using hname
  have:(callFunc f vals.toArray).run P w=.ok (.enter f vals.toArray) w:=by
   unfold callFunc;rw[yh];simp[program,Sem.run,hf,hname',hb]
  rw[this] at h1;cases h1
theorem qhS (w:World) (S:qa):qav w S [] []:=⟨rfl,fun i v av hv=>by simp at hv⟩
theorem qcg {av:AV} {vs:List Value} (h:Rd w S v av) (hr:qav w S vs avs):qav w S (v :: vs) (av :: avs):=by
 refine⟨by simp[hr.1],fun i u cv hu hc=>?_⟩;cases i with
 | zero =>
  simp only[y3,ya] at hu hc;subst hu hc;exact h
 | succ i =>
  simp only[yZ] at hu hc;exact hr.2 i u cv hu hc
theorem wf_u8 (h:(Lit.int .u8 n).wf=true):0≤n∧n≤255:=by
 have h:(decide ((0:Int)≤n)&&decide (n≤255))=true:=h;simpa using h
theorem qRB (h:(Lit.int .i32 n).wf=true) : -2147483648≤n∧n≤2147483647:=by
 have h:(decide ((-2147483648:Int)≤n)&&decide (n≤2147483647))=true:=h;simpa using h
theorem wf_i64 (h:(Lit.int .i64 n).wf=true) : -9223372036854775808≤n∧n≤9223372036854775807:=by
 have h:(decide ((-9223372036854775808:Int)≤n)&&decide (n≤9223372036854775807))=true:=h;simpa using h
def Was (w:World):qa:=fun b _=>b < w.heap.size
end
section
open Go.RowKit Go.Lib
def qY (w:World) (base:Nat) (e:TypeId) (size:Nat) (v:Value) (n:Nat) (xs:List Value):Prop :=
 xs.length=n*size ∧
 ((v=.slice none 0 0∧n=0) ∨
  ∃ g cap cur fz,v=.slice (some ⟨g,0,none⟩) n cap∧base≤g∧w.heap[g]? = some (.cells cur e fz)∧(fz=(0,0)∨cur.size≤fz.1)∧n≤cap∧cap≤maxLen∧cur.size=cap*size∧cur.toList.take (n*size)=xs)
section
variable {w:World} {base:Nat} {e:TypeId} {size:Nat} {v:Value} {n:Nat} {xs:List Value}
theorem qaV (h:w.ownsRow base e size v n xs):qY w base e size v n xs:=by
 refine⟨h.1,?_⟩;rcases h.2 with hn | ⟨g,cap,cur,hv,hb,hg,rest⟩
 ·exact .inl hn
 ·exact .inr ⟨g,cap,cur,(0,0),hv,hb,hg,.inl rfl,rest⟩
theorem qY.lt (h:qY w base e size v n xs):∀ k,v.ownBlock=some k→base≤k∧k < w.heap.size:=by
 intro k hk;rcases h.2 with ⟨rfl,_⟩ | ⟨g,cap,cur,fz,rfl,hb,hg,_⟩
 ·simp[Value.ownBlock] at hk
 ·simp[Value.ownBlock] at hk;subst hk;exact⟨hb,(Array.getElem?_eq_some_iff.1 hg).1⟩
theorem qY.cells (h:qY w base e size v n xs) {g:Nat} (hg:v.ownBlock=some g):∀ j u,xs[j]? = some u→w.cell? ((⟨g,0,none⟩:Addr).add j)=some u:=by
 intro j u hu;rcases h.2 with ⟨rfl,_⟩ | ⟨g',cap,cur,fz,rfl,_,hgg,_,_,_,_,htake⟩
 ·simp[Value.ownBlock] at hg
 ·simp[Value.ownBlock] at hg;subst hg;have hadd:(⟨g',0,none⟩:Addr).add j=⟨g',j,none⟩:=by unfold Addr.add;split <;> simp_all
  rw[hadd,cell_of_row w g' j cur e fz hgg];rw[← htake,List.getElem?_take] at hu;split at hu
  ·simpa using hu
  ·cases hu
theorem qkA {w':World} (h:qY w 0 e size v n xs) (hb:∀ b,v.ownBlock=some b→w'.heap[b]? = w.heap[b]?):qY w' 0 e size v n xs:=by
 refine⟨h.1,?_⟩;rcases h.2 with h | ⟨g,cap,cur,fz,rfl,h1,h2,h3⟩
 ·exact .inl h
 ·exact .inr ⟨g,cap,cur,fz,rfl,h1,(hb g rfl).trans h2,h3⟩
theorem qY.cases' (h:qY w base e size v n xs):w.ownsRow base e size v n xs ∨
 ∃ g cap cur fz,v=.slice (some ⟨g,0,none⟩) n cap∧base≤g∧w.heap[g]? = some (.cells cur e fz)∧cur.size≤fz.1∧n≤cap∧cap≤maxLen∧cur.size=cap*size∧cur.toList.take (n*size)=xs:=by
 rcases h.2 with hn | ⟨g,cap,cur,fz,hv,hb,hg,hf,rest⟩
 ·exact .inl ⟨h.1,.inl hn⟩
 ·rcases hf with rfl | hf
  ·exact .inl ⟨h.1,.inr ⟨g,cap,cur,hv,hb,hg,rest⟩⟩
  ·exact .inr ⟨g,cap,cur,fz,hv,hb,hg,hf,rest⟩
end
structure AppM (w:World) (base:Nat) (te:TypeId) (size:Nat) (v:Value) (n m:Nat) (xs news:List Value) (v':Value) (w':World):Prop where
 own:qY w' base te size v' (n+m) (xs++news)
 str:w.ownsRow base te size v n xs→w'.ownsRow base te size v' (n+m) (xs++news)
 loc:(v'.ownBlock=v.ownBlock∧w.grownBy w' v.ownBlock)∨(v'.ownBlock=some w.heap.size∧Below w.heap.size w w')
theorem App.toM {w w':World} {base:Nat} {te:TypeId} {size:Nat} {v v':Value} {n m:Nat} {xs news:List Value} (h:App w base te size v n m xs news v' w'):AppM w base te size v n m xs news v' w' :=
 ⟨qaV h.own,fun _=>h.own,h.loc⟩
theorem qaJ (P:Program) (g o:Nat) (t:TypeId) (fz:Nat×Nat):∀ (vs:List Value) (i:Nat) (cur:Array Value) (w:World),w.heap[g]? = some (.cells cur t fz)→cur.size≤fz.1→o+i+vs.length≤cur.size→(∀ v∈vs,v.oneCell'=true) →
 (storeCells ⟨g,o,none⟩ vs i).run P w=.ok () (w.setRow g (cur.toList.take (o+i)++vs++cur.toList.drop (o+i+vs.length)).toArray)
 | [],i,cur,w,hg,_,_,_=>by
  simp only[storeCells,yG,List.length_nil,Nat.add_zero,List.take_append_drop,Array.toArray_toList];rw[setRow_self w g cur t fz hg];rfl
 | v :: rest,i,cur,w,hg,hfz,hl,h1=>by
  have hi:o+i < cur.size:=by simp at hl;omega
  have hadd:(⟨g,o,none⟩:Addr).add i=⟨g,o+i,none⟩:=by unfold Addr.add;split <;> simp_all
  have hcell:w.cell? ⟨g,o+i,none⟩=some cur[o+i]:=by simp[World.cell?,hg,hi]
  have hfro:w.frozen? ⟨g,o+i,none⟩=false:=by
   obtain⟨lo,hi'⟩:=fz;simp only[World.frozen?,hg,Bool.and_eq_false_iff,decide_eq_false_iff_not];left;simp only at hfz;omega
  have hst:(store ((⟨g,o,none⟩:Addr).add i) v).run P w=.ok () (w.setRow g (cur.setIfInBounds (o+i) v)):=by
   rw[hadd,run_store P w _ v _ (h1 v (by simp)),hcell];simp[hfro,setCell_eq_setRow w g (o+i) cur t fz v hg]
  have ih:=qaJ P g o t fz rest (i+1) (cur.setIfInBounds (o+i) v) (w.setRow g (cur.setIfInBounds (o+i) v)) (setRow_heap w g cur _ t _ hg) (by simpa using hfz) (by simp at hl ⊢;omega) (fun x hx=>h1 x (by simp[hx]));simp only[storeCells,yh,hst,ye,ih,setRow_setRow];congr 3;have e:=list_seg_step cur.toList (o+i) v rest (by simp at hl ⊢;omega);simpa [Array.toList_setIfInBounds,yS] using e
section
variable {P:Program} (w:World)
theorem qel (t ty e:TypeId) (i:TypeInfo) (ht:P.underlying t=some (.slice e)) (hi:P.info? e=some i)
 (g sLen sCap:Nat) (cur:Array Value) (fz:Nat×Nat) (hg:w.heap[g]? = some (.cells cur e fz)) (hfz:cur.size≤fz.1)
 (a:Addr) (m c:Nat) (news:List Value) (hl:news.length=m*i.size) (hnews:∀ j u,news[j]? = some u→w.cell? (a.add j)=some u) (h1:∀ u∈news,u.oneCell'=true)
 (hroom:sLen+m≤sCap) (hfit:sLen*i.size+news.length≤cur.size) :
 (Builtin.append_ #[t,t] ty #[.slice (some ⟨g,0,none⟩) sLen sCap,.slice (some a) m c]).run P w =
  .ok (.slice (some ⟨g,0,none⟩) (sLen+m) sCap) (w.setRow g (cur.toList.take (sLen*i.size)++news++cur.toList.drop (sLen*i.size+news.length)).toArray):=by
 have hf:=run_firstCells_some (P:=P) w i.size m a m c news hl hnews;have hst:=qaJ P g (sLen*i.size) e fz news 0 cur w hg hfz (by simpa using hfit) h1;simp only[Nat.add_zero] at hst;simp[Builtin.append_,yr ht,sizeOf,typeInfo,hi,Builtin.lenOf,hroom,hf,Addr.add_lit,hst]
theorem qbO (t u ty e:TypeId) (i:TypeInfo) (ht:P.underlying t=some (.slice e)) (hu:P.underlying u=some .string) (hi:P.info? e=some i) (hs1:i.size=1)
 (g sLen sCap:Nat) (cur:Array Value) (fz:Nat×Nat) (hg:w.heap[g]? = some (.cells cur e fz)) (hfz:cur.size≤fz.1) (s:ByteArray)
 (hroom:sLen+s.size≤sCap) (hfit:sLen+s.size≤cur.size) :
 (Builtin.append_ #[t,u] ty #[.slice (some ⟨g,0,none⟩) sLen sCap,.string s]).run P w =
  .ok (.slice (some ⟨g,0,none⟩) (sLen+s.size) sCap) (w.setRow g (cur.toList.take sLen++strCells s++cur.toList.drop (sLen+s.size)).toArray):=by
 have hf:=run_firstCells_string (P:=P) w 1 s;have hst:=qaJ P g sLen e fz (strCells s) 0 cur w hg hfz (by simpa [strCells_length] using hfit) (strCells_oneCell s);simp only[Nat.add_zero,strCells_length] at hst;simp[Builtin.append_,yr ht,yr hu,sizeOf,typeInfo,hi,hs1,Builtin.lenOf,hroom,hf,Addr.add_lit,hst]
theorem qhT {base:Nat} {e:TypeId} {size g n cap m:Nat} {cur:Array Value} {fz:Nat×Nat} {xs news:List Value} (hbg:base≤g) (hg:w.heap[g]? = some (.cells cur e fz)) (hfz:cur.size≤fz.1) (hcm:cap≤maxLen)
 (hcs:cur.size=cap*size) (hxs:xs.length=n*size) (hl:news.length=m*size) (htake:cur.toList.take (n*size)=xs) (hroom:n+m≤cap) :
 AppM w base e size (.slice (some ⟨g,0,none⟩) n cap) n m xs news (.slice (some ⟨g,0,none⟩) (n+m) cap) (w.setRow g (cur.toList.take (n*size)++news++cur.toList.drop (n*size+news.length)).toArray):=by
 have hlen:(xs++news).length=(n+m)*size:=by rw[yn,hxs,hl,Nat.add_mul]
 have hfit:n*size+news.length≤cur.size:=by rw[hl,hcs,← Nat.add_mul];exact yC _ hroom
 have hsz:(cur.toList.take (n*size)++news++cur.toList.drop (n*size+news.length)).toArray.size=cur.size:=by
  simp only[List.size_toArray,yn,yz,yK,Array.length_toList];omega
 have htk:(cur.toList.take (n*size)++news++cur.toList.drop (n*size+news.length)).toArray.toList.take ((n+m)*size)=xs++news:=by
  rw[htake,← hlen];show List.take _ (xs++news++_)=_;exact List.take_left
 refine⟨⟨hlen,.inr ⟨g,cap,_,fz,rfl,hbg,setRow_heap w g cur _ e _ hg,.inr (by rw[hsz];exact hfz),hroom,hcm,by rw[hsz,hcs],htk⟩⟩,fun hs=>?_,.inl ⟨rfl,rfl,rfl,rfl,by simp,fun k _ hk=>setRow_other w g k _ (fun e=>hk (by simp[Value.ownBlock,e]))⟩⟩;refine⟨hlen,.inr ⟨g,cap,_,rfl,hbg,?_,hroom,hcm,by rw[hsz,hcs],htk⟩⟩;rw[setRow_heap w g cur _ e _ hg];rcases hs.2 with ⟨h,_⟩ | ⟨g',cap',cur',h1,_,h2,_⟩
 ·cases h
 ·simp only[Value.slice.injEq,ya,Addr.mk.injEq,and_true] at h1;obtain⟨rfl,_⟩:=h1;rw[hg] at h2;simp only[ya,Obj.cells.injEq] at h2;rw[h2.2.2]
theorem qvn (base:Nat) (t ty e:TypeId) (i:TypeInfo) (z:Value) (size bytes:Nat) (ht:P.underlying t=some (.slice e)) (hi:P.info? e=some i) (hz:i.zero=some z)
 (hsize:i.size=size) (hby:i.bytes=bytes) (hzs:z.cells.size=size) (hsz:0 < size)
 (v:Value) (n:Nat) (xs:List Value) (hown:qY w base e size v n xs)
 (a:Addr) (m c:Nat) (news:List Value) (hl:news.length=m*size) (hnews:∀ j u,news[j]? = some u→w.cell? (a.add j)=some u) (h1:∀ u∈news,u.oneCell'=true)
 (h63:n+m≤maxLen) (hbytes:(n+m)*bytes≤140737488355328) (hbase:base≤w.heap.size) :
 ∃ v' w',(Builtin.append_ #[t,t] ty #[v,.slice (some a) m c]).run P w=.ok v' w'∧AppM w base e size v n m xs news v' w':=by
 rcases hown.cases' with hs | ⟨g,cap,cur,fz,rfl,hbg,hg,hfz,hnc,hcm,hcs,htake⟩
 ·obtain⟨v',w',r1,r2⟩:=qks (P:=P) w base t ty e i z size bytes ht hi hz hsize hby hzs hsz v n xs hs a m c news hl hnews h1 h63 hbytes hbase;exact⟨v',w',r1,r2.toM⟩
 ·by_cases hroom:n+m≤cap
  ·have hfit:n*i.size+news.length≤cur.size:=by rw[hl,hcs,hsize,← Nat.add_mul];exact yC _ hroom
   have hx:=qel (P:=P) w t ty e i ht hi g n cap cur fz hg hfz a m c news (by rw[hsize];exact hl) hnews h1 hroom hfit;rw[hsize] at hx;exact⟨_,_,hx,qhT w hbg hg hfz hcm hcs hown.1 hl htake hroom⟩
  ·
   have holds:∀ j u,xs[j]? = some u→w.cell? ((⟨g,0,none⟩:Addr).add j)=some u:=hown.cells (g:=g) rfl;have hsmall:n+m≤9223372036854775807:=by simp only[maxLen] at h63;omega
   have hx:=run_append_grow (P:=P) w t ty e i z ht hi hz ⟨g,0,none⟩ n cap xs (by rw[hsize];exact hown.1) holds a m c news (by rw[hsize];exact hl) hnews (by omega) (by omega) (by rw[hby];exact growslice_fits (by omega) hbytes);refine⟨_,_,hx,?_⟩;have hcap:=grownCap_ge w (n+m) cap e;have hlen:(xs++news).length=(n+m)*size:=by rw[yn,hown.1,hl,Nat.add_mul]
   have hnew:∀ cs:Array Value,(w.drew.alloc (.cells cs e)).heap[w.heap.size]? = some (.cells cs e (0,0)):=fun cs=>by
    exact heap_alloc_new w.drew (.cells cs e)
   have hle:grownCap w (n+m) cap e≤maxLen:=grownCap_le_maxLen w (n+m) cap e h63;have hown':(w.drew.alloc (.cells (xs.toArray++news.toArray++Builtin.zeroCells z.cells (grownCap w (n+m) cap e - (n+m))) e)).ownsRow base e size (.slice (some ⟨w.heap.size,0,none⟩) (n+m) (grownCap w (n+m) cap e)) (n+m) (xs++news):=by
    refine⟨hlen,.inr ⟨w.heap.size,_,_,rfl,hbase,hnew _,hcap,hle,?_,?_⟩⟩
    ·simp only[Array.size_append,List.size_toArray,size_zeroCells,hzs];rw[hown.1,hl,← Nat.add_mul,← Nat.add_mul];congr 1;omega
    ·have:(xs.toArray++news.toArray++Builtin.zeroCells z.cells (grownCap w (n+m) cap e - (n+m))).toList=(xs++news)++(Builtin.zeroCells z.cells (grownCap w (n+m) cap e - (n+m))).toList:=by simp
     rw[this,← hlen,List.take_left]
   exact⟨qaV hown',fun _=>hown',.inr ⟨rfl,qX w _⟩⟩
theorem qBg (base:Nat) (t ty e:TypeId) (i:TypeInfo) (size:Nat) (ht:P.underlying t=some (.slice e)) (hi:P.info? e=some i)
 (v:Value) (n:Nat) (xs:List Value) (hown:qY w base e size v n xs) (c:Nat) :
 (Builtin.append_ #[t,t] ty #[v,.slice none 0 c]).run P w=.ok v w∧AppM w base e size v n 0 xs [] v w:=by
 refine⟨?_,by simpa using hown,fun h=>by simpa using h,.inl ⟨rfl,World.grownBy.refl w _⟩⟩;rcases hown.2 with ⟨rfl,rfl⟩ | ⟨g,cap,cur,fz,rfl,_,_,_,hnc,_⟩
 ·simp[Builtin.append_,yr ht,sizeOf,typeInfo,hi,Builtin.lenOf,Builtin.firstCells]
 ·simp[Builtin.append_,yr ht,sizeOf,typeInfo,hi,Builtin.lenOf,Builtin.firstCells,hnc,storeCells]
theorem qIt (base:Nat) (t u ty e:TypeId) (i:TypeInfo) (ht:P.underlying t=some (.slice e)) (hu:P.underlying u=some .string) (hi:P.info? e=some i) (hz:i.zero=some (.int .u8 0))
 (hsize:i.size=1) (hby:i.bytes=1) (v:Value) (n:Nat) (xs:List Value) (hown:qY w base e 1 v n xs) (s:ByteArray)
 (h63:n+s.size≤maxLen) (hbytes:n+s.size≤140737488355328) (hbase:base≤w.heap.size) :
 ∃ v' w',(Builtin.append_ #[t,u] ty #[v,.string s]).run P w=.ok v' w'∧AppM w base e 1 v n s.size xs (strCells s) v' w':=by
 rcases hown.cases' with hs | ⟨g,cap,cur,fz,rfl,hbg,hg,hfz,hnc,hcm,hcs,htake⟩
 ·obtain⟨v',w',r1,r2⟩:=qGG (P:=P) w base t u ty e i ht hu hi hz hsize hby v n xs hs s h63 hbytes hbase;exact⟨v',w',r1,r2.toM⟩
 ·have hl:(strCells s).length=s.size*1:=by rw[strCells_length,Nat.mul_one]
  by_cases hroom:n+s.size≤cap
  ·have hx:=qbO (P:=P) w t u ty e i ht hu hi hsize g n cap cur fz hg hfz s hroom (by rw[Nat.mul_one] at hcs;omega);have:=qhT w hbg hg hfz hcm hcs hown.1 hl htake hroom;rw[Nat.mul_one,strCells_length] at this;exact⟨_,_,hx,this⟩
  ·have holds:∀ j u,xs[j]? = some u→w.cell? ((⟨g,0,none⟩:Addr).add j)=some u:=hown.cells (g:=g) rfl;have hsmall:n+s.size≤9223372036854775807:=by simp only[maxLen] at h63;omega
   have hx:=run_append_grow_string (P:=P) w t u ty e i (.int .u8 0) ht hu hi hz ⟨g,0,none⟩ n cap xs (by rw[hsize];exact hown.1) holds s (by omega) (by omega) (by rw[hby];exact growslice_fits (by omega) (by omega));refine⟨_,_,hx,?_⟩;have hcap:=grownCap_ge w (n+s.size) cap e;have hlen:(xs++strCells s).length=(n+s.size)*1:=by rw[yn,hown.1,hl,Nat.add_mul]
   have hle:grownCap w (n+s.size) cap e≤maxLen:=grownCap_le_maxLen w (n+s.size) cap e h63;have hown':(w.drew.alloc (.cells (xs.toArray++(strCells s).toArray++Builtin.zeroCells (Value.int .u8 0).cells (grownCap w (n+s.size) cap e - (n+s.size))) e)).ownsRow base e 1 (.slice (some ⟨w.heap.size,0,none⟩) (n+s.size) (grownCap w (n+s.size) cap e)) (n+s.size) (xs++strCells s):=by
    refine⟨hlen,.inr ⟨w.heap.size,_,_,rfl,hbase,heap_alloc_new w.drew _,hcap,hle,?_,?_⟩⟩
    ·simp only[Array.size_append,List.size_toArray,size_zeroCells];have h1:=hown.1;have h2:=strCells_length s;have h3:(Value.int .u8 0).cells.size=1:=rfl;rw[h1,h2,h3];omega
    ·have:(xs.toArray++(strCells s).toArray++Builtin.zeroCells (Value.int .u8 0).cells (grownCap w (n+s.size) cap e - (n+s.size))).toList=(xs++strCells s)++(Builtin.zeroCells (Value.int .u8 0).cells (grownCap w (n+s.size) cap e - (n+s.size))).toList:=by simp
     rw[this,← hlen,List.take_left]
   exact⟨qaV hown',fun _=>hown',.inr ⟨rfl,qX w _⟩⟩
end
end
section
open Go.RowKit
abbrev Rdr:=Nat→Option Value
variable {w w':World} {S:qa} {p:PSh} {F:Nat→Prop} {te:TypeId} {k g:Nat} {v:Value}
def blkR (w:World) (g o:Nat):Rdr:=fun i=>w.cell? ⟨g,o+i,none⟩
def valR (v:Value):Rdr:=fun i=>v.cells[i]?
def PSh.size:PSh→Nat
 | .leaf s=>s.size
 | .osl _ _=>1
 | .psl _ _=>1
 | .ppair a b=>a.size+b.size
 | .parr n e=>n*e.size
theorem PSh.size_eq:∀ p:PSh,p.sh.size=p.size
 | .leaf _=>rfl
 | .osl _ _=>rfl
 | .psl _ _=>rfl
 | .ppair a b=>by simp only[Sh.size,PSh.size,PSh.size_eq a,PSh.size_eq b]
 | .parr _ _=>rfl
structure OwnR (w:World) (S:qa) (te:TypeId) (e:Sh) (v:Value) (l:List (Den e)) (F:Nat→Prop):Prop where
 row:∃ xs,qY w 0 te e.size v l.length xs∧qd (RdC w S e) l xs
 fp:∀ b,F b↔v.ownBlock=some b
 st:∀ b,F b→∀ o,(S b o↔o < l.length*e.size)
def PRow {α:Type} (w:World) (S:qa) (te:TypeId) (Re:Rdr→α→(Nat→Prop)→Prop) (k:Nat) (v:Value) (l:List α) (F:Nat→Prop):Prop :=
 (v=.slice none 0 0∧l=[]∧∀ b,¬ F b) ∨
 ∃ (g cap:Nat) (cur:Array Value) (Fe:Nat→Nat→Prop),v=.slice (some ⟨g,0,none⟩) l.length cap∧w.heap[g]? = some (.cells cur te (0,0))∧l.length≤cap∧cap≤maxLen∧cur.size=cap*k∧(∀ o,¬ S g o) ∧
  (∀ n x,l[n]? = some x→Re (blkR w g (n*k)) x (Fe n))∧(∀ n b,l.length≤n→¬ Fe n b)∧(∀ n m b,n≠m→Fe n b→¬ Fe m b)∧(∀ n b,Fe n b→b≠g)∧∀ b,F b↔b=g∨∃ n,Fe n b
def PM (w:World) (S:qa):(p:PSh)→Rdr→Den p.sh→(Nat→Prop)→Prop
 | .leaf s,rd,x,F=>(∀ b,¬ F b)∧∃ cs,RdC w S s x cs∧∀ (i:Nat) (v:Value),cs[i]? = some v→rd i=some v
 | .osl te e,rd,l,F=>∃ v,rd 0=some v∧OwnR w S te e v l F
 | .psl te e,rd,l,F=>∃ v,rd 0=some v∧PRow w S te (PM w S e) e.size v l F
 | .ppair a b,rd,x,F=>∃ F1 F2:Nat→Prop,PM w S a rd x.1 F1∧PM w S b (fun i=>rd (a.size+i)) x.2 F2∧(∀ k,F1 k→¬ F2 k)∧∀ k,F k↔F1 k∨F2 k
 | .parr n e,rd,x,F=>(∀ b,¬ F b)∧∃ cs,RdC w S (.arr n e) x cs∧∀ (i:Nat) (v:Value),cs[i]? = some v→rd i=some v
theorem PM.congrF {rd:Rdr} {x:Den p.sh} {F':Nat→Prop} (h:PM w S p rd x F) (e:∀ b,F b↔F' b):PM w S p rd x F':=by
 obtain rfl:F=F':=funext fun b=>propext (e b);exact h
theorem qlV {n:Nat} {xs:List Value} (h:w.ownsRow 0 te k v n xs) (hb:∀ b,v.ownBlock=some b→w'.heap[b]? = w.heap[b]?):w'.ownsRow 0 te k v n xs:=by
 refine⟨h.1,?_⟩;rcases h.2 with h | ⟨g,cap,cur,rfl,h1,h2,h3⟩
 ·exact .inl h
 ·exact .inr ⟨g,cap,cur,rfl,h1,(hb g rfl).trans h2,h3⟩
theorem OwnR.step {S':qa} {e:Sh} {l:List (Den e)} (h:OwnR w S te e v l F) (hk:Keeps w S w' S')
 (hb:∀ b,F b→w'.heap[b]? = w.heap[b]?) (hs:∀ b o,F b→(S' b o↔S b o)):OwnR w' S' te e v l F:=by
 obtain⟨⟨xs,h1,h2⟩,h3,h4⟩:=h;exact⟨⟨xs,qkA h1 (fun b e=>hb b ((h3 b).2 e)),h2.mono (RdC.keeps hk e)⟩,h3,fun b hF o=>(hs b o hF).trans (h4 b hF o)⟩
theorem qdc (h:w'.heap[g]? = w.heap[g]?) (o i:Nat):blkR w' g o i=blkR w g o i:=by simp[blkR,World.cell?,h]
theorem PM.step {w w':World} {S S':qa} (hk:Keeps w S w' S'):∀ (p:PSh) (rd rd':Rdr) (x:Den p.sh) (F:Nat→Prop),PM w S p rd x F→(∀ i,i < p.size→rd' i=rd i) →
 (∀ b,F b→w'.heap[b]? = w.heap[b]?)→(∀ b o,F b→(S' b o↔S b o))→PM w' S' p rd' x F
 | .leaf s,rd,rd',x,F,h,hr,hb,hs=>by
  simp only[PM] at h ⊢;obtain⟨h0,cs,h1,h2⟩:=h;refine⟨h0,cs,RdC.keeps hk s x cs h1,fun i v hv=>?_⟩;have hl:=RdC.length _ _ _ h1;have hlt:=(List.getElem?_eq_some_iff.1 hv).1;rw[hr i (by simp only[PSh.size];omega)];exact h2 i v hv
 | .osl te e,rd,rd',l,F,h,hr,hb,hs=>by
  simp only[PM] at h ⊢;obtain⟨v,h1,h2⟩:=h;exact⟨v,(hr 0 (by simp[PSh.size])).trans h1,h2.step hk hb hs⟩
 | .psl te e,rd,rd',l,F,h,hr,hb,hs=>by
  simp only[PM] at h ⊢;obtain⟨v,h1,h2⟩:=h;refine⟨v,(hr 0 (by simp[PSh.size])).trans h1,?_⟩;rcases h2 with h2 | ⟨g,cap,cur,Fe,k1,k2,k3,k4,k5,k6,k7,k8,k9,k10,k11⟩
  ·exact .inl h2
  ·have hg:=hb g ((k11 g).2 (.inl rfl));refine .inr ⟨g,cap,cur,Fe,k1,hg.trans k2,k3,k4,k5,fun o ho=>k6 o ((hs g o ((k11 g).2 (.inl rfl))).1 ho),fun n x hn=>?_,k8,k9,k10,k11⟩;exact PM.step hk e _ _ x (Fe n) (k7 n x hn) (fun i _=>qdc hg _ i) (fun b hF=>hb b ((k11 b).2 (.inr ⟨n,hF⟩))) (fun b o hF=>hs b o ((k11 b).2 (.inr ⟨n,hF⟩)))
 | .ppair a b,rd,rd',x,F,h,hr,hb,hs=>by
  simp only[PM] at h ⊢;obtain⟨F1,F2,h1,h2,h3,h4⟩:=h;refine⟨F1,F2,PM.step hk a _ _ x.1 F1 h1 (fun i hi=>hr i (by simp only[PSh.size];omega)) (fun k hF=>hb k ((h4 k).2 (.inl hF))) (fun k o hF=>hs k o ((h4 k).2 (.inl hF))),
   PM.step hk b _ _ x.2 F2 h2 (fun i hi=>hr _ (by simp only[PSh.size];omega)) (fun k hF=>hb k ((h4 k).2 (.inr hF))) (fun k o hF=>hs k o ((h4 k).2 (.inr hF))),h3,h4⟩
 | .parr n e,rd,rd',x,F,h,hr,hb,hs=>by
  simp only[PM] at h ⊢;obtain⟨h0,cs,h1,h2⟩:=h;refine⟨h0,cs,RdC.keeps hk (.arr n e) x cs h1,fun i v hv=>?_⟩;have hl:=RdC.length _ _ _ h1;have hlt:=(List.getElem?_eq_some_iff.1 hv).1;rw[hr i (by simp only[PSh.size];simp only[Sh.size] at hl;omega)];exact h2 i v hv
theorem PM.lt {w:World} {S:qa}:∀ (p:PSh) (rd:Rdr) (x:Den p.sh) (F:Nat→Prop),PM w S p rd x F→∀ b,F b→b < w.heap.size
 | .leaf s,rd,x,F,h,b,hF=>by simp only[PM] at h;exact absurd hF (h.1 b)
 | .osl te e,rd,l,F,h,b,hF=>by
  simp only[PM] at h;obtain⟨v,_,⟨⟨xs,h1,_⟩,h2,_⟩⟩:=h;exact(h1.lt b ((h2 b).1 hF)).2
 | .psl te e,rd,l,F,h,b,hF=>by
  simp only[PM] at h;obtain⟨v,h1,h2⟩:=h;rcases h2 with h2 | ⟨g,cap,cur,Fe,k1,k2,k3,k4,k5,k6,k7,k8,k9,k10,k11⟩
  ·exact absurd hF (h2.2.2 b)
  ·rcases (k11 b).1 hF with rfl | ⟨n,hn⟩
   ·exact(Array.getElem?_eq_some_iff.1 k2).1
   ·rcases Nat.lt_or_ge n l.length with hlt | hge
    ·exact PM.lt e _ l[n] (Fe n) (k7 n _ (yO hlt)) b hn
    ·exact absurd hn (k8 n b hge)
 | .ppair a c,rd,x,F,h,b,hF=>by
  simp only[PM] at h;obtain⟨F1,F2,h1,h2,h3,h4⟩:=h;rcases (h4 b).1 hF with hF | hF
  ·exact PM.lt a _ _ _ h1 b hF
  ·exact PM.lt c _ _ _ h2 b hF
 | .parr n e,rd,x,F,h,b,hF=>by simp only[PM] at h;exact absurd hF (h.1 b)
def getPP:(p:PSh)→Den p.sh→List PStep→Option (Sigma fun p:PSh=>Den p.sh)
 | .leaf s,x,r=>match r with
  | []=>some ⟨.leaf s,x⟩
  | _=>none
 | .osl te e,x,r=>match r with
  | []=>some ⟨.osl te e,x⟩
  | _=>none
 | .psl te e,l,r=>match r with
  | []=>some ⟨.psl te e,l⟩
  | .idx n :: r=>getPP e (List.getD l n (dflt e.sh)) r
  | _=>none
 | .ppair a b,x,r=>match r with
  | []=>some ⟨.ppair a b,x⟩
  | .fld 0 :: r=>getPP a x.1 r
  | .fld (i+1) :: r=>getPP b x.2 (.fld i :: r)
  | _=>none
 | .parr n e,l,r=>match r with
  | []=>some ⟨.parr n e,l⟩
  | [.idx k]=>some ⟨.leaf e,List.getD l k (dflt e)⟩
  | _=>none
def setPP:(p:PSh)→Den p.sh→List PStep→(q:PSh)→Den q.sh→Option (Den p.sh)
 | .leaf s,_,r,q,y=>match r with
  | []=>if h:q=.leaf s then some (h ▸ y) else none
  | _=>none
 | .osl te e,_,r,q,y=>match r with
  | []=>if h:q=.osl te e then some (h ▸ y) else none
  | _=>none
 | .psl te e,l,r,q,y=>match r with
  | []=>if h:q=.psl te e then some (h ▸ y) else none
  | .idx n :: r=>match setPP e (List.getD l n (dflt e.sh)) r q y with
   | some z=>some (List.set l n z)
   | none=>none
  | _=>none
 | .ppair a b,x,r,q,y=>match r with
  | []=>if h:q=.ppair a b then some (h ▸ y) else none
  | .fld 0 :: r=>match setPP a x.1 r q y with
   | some z=>some (z,x.2)
   | none=>none
  | .fld (i+1) :: r=>match setPP b x.2 (.fld i :: r) q y with
   | some z=>some (x.1,z)
   | none=>none
  | _=>none
 | .parr n e,l,r,q,y=>match r with
  | []=>if h:q=.parr n e then some (h ▸ y) else none
  | [.idx k]=>if h:q=.leaf e then some (List.set l k (show Den (PSh.leaf e).sh from h ▸ y)) else none
  | _=>none
def inPP:(p:PSh)→Den p.sh→List PStep→Prop
 | .leaf _,_,_=>True
 | .osl _ _,_,_=>True
 | .psl _ e,l,r=>match r with
  | .idx n :: r=>n < List.length l∧inPP e (List.getD l n (dflt e.sh)) r
  | _=>True
 | .ppair a b,x,r=>match r with
  | .fld 0 :: r=>inPP a x.1 r
  | .fld (i+1) :: r=>inPP b x.2 (.fld i :: r)
  | _=>True
 | .parr n _,_,r=>match r with
  | .idx k :: _=>k < n
  | _=>True
inductive Spot where
 | val (v:Value)
 | blk (g o:Nat)
def Spot.rdr (w:World):Spot→Rdr
 | .val v=>valR v
 | .blk g o=>blkR w g o
def Spot.block:Spot→Option Nat
 | .val _=>none
 | .blk g _=>some g
def locP (w:World):PSh→Spot→List PStep→Option (PSh×Spot)
 | .leaf s,c,r=>match r with
  | []=>some (.leaf s,c)
  | _=>none
 | .osl te e,c,r=>match r with
  | []=>some (.osl te e,c)
  | _=>none
 | .psl te e,c,r=>match r with
  | []=>some (.psl te e,c)
  | .idx n :: r=>match c.rdr w 0 with
   | some (.slice (some ad) _ _)=>locP w e (.blk ad.block (n*e.size)) r
   | _=>none
  | _=>none
 | .ppair a b,c,r=>match r with
  | []=>some (.ppair a b,c)
  | .fld 0 :: r=>match c with
   | .blk g o=>locP w a (.blk g o) r
   | _=>none
  | .fld (i+1) :: r=>match c with
   | .blk g o=>locP w b (.blk g (o+a.size)) (.fld i :: r)
   | _=>none
  | _=>none
 | .parr n e,c,r=>match r with
  | []=>some (.parr n e,c)
  | [.idx k]=>match c with
   | .blk g o=>some (.leaf e,.blk g (o+k*e.size))
   | _=>none
  | _=>none
def qC (w:World):PSh→Spot→List PStep→List Nat
 | .leaf _,_,_=>[]
 | .osl _ _,_,_=>[]
 | .psl _ e,c,r=>match r with
  | .idx n :: r=>match c.rdr w 0 with
   | some (.slice (some ad) _ _)=>c.block.toList++qC w e (.blk ad.block (n*e.size)) r
   | _=>[]
  | _=>[]
 | .ppair a b,c,r=>match r with
  | .fld 0 :: r=>match c with
   | .blk g o=>qC w a (.blk g o) r
   | _=>[]
  | .fld (i+1) :: r=>match c with
   | .blk g o=>qC w b (.blk g (o+a.size)) (.fld i :: r)
   | _=>[]
  | _=>[]
 | .parr _ _,_,_=>[]
theorem qhj {c:Spot} (h:∀ g,c.block=some g→w'.heap[g]? = w.heap[g]?) (i:Nat):c.rdr w' i=c.rdr w i:=by
 cases c with
 | val v=>rfl
 | blk g o=>exact qdc (h g rfl) o i
theorem qdA {w w':World}:∀ (p:PSh) (c:Spot) (r:List PStep) (q:PSh×Spot),locP w p c r=some q→(∀ g,g∈qC w p c r→w'.heap[g]? = w.heap[g]?)→locP w' p c r=some q∧qC w' p c r=qC w p c r
 | .leaf s,c,r,q,h,_=>by
  cases r with
  | nil=>exact⟨h,rfl⟩
  | cons a r=>exact⟨h,rfl⟩
 | .osl te e,c,r,q,h,_=>by
  cases r with
  | nil=>exact⟨h,rfl⟩
  | cons a r=>exact⟨h,rfl⟩
 | .psl te e,c,r,q,h,hs=>by
  match r,h,hs with
  | [],h,_=>exact⟨h,rfl⟩
  | .fld i :: r,h,_=>simp[locP] at h
  | .idx n :: r,h,hs =>
   simp only[locP] at h;split at h
   ·rename_i ad x1 x2 hr;simp only[qC,hr] at hs;have h0:c.rdr w' 0=some (.slice (some ad) x1 x2):=by
     rw[qhj (fun g hg=>hs g (List.mem_append.2 (.inl (by rw[hg];simp)))),hr]
    obtain⟨k1,k2⟩:=qdA e _ r q h (fun g hg=>hs g (List.mem_append.2 (.inr hg)));constructor
    ·simp only[locP,h0];exact k1
    ·simp only[qC,h0,hr,k2]
   ·cases h
 | .ppair a b,c,r,q,h,hs=>by
  match r,h,hs with
  | [],h,_=>exact⟨h,rfl⟩
  | .idx i :: r,h,_=>simp[locP] at h
  | .fld 0 :: r,h,hs =>
   cases c with
   | val v=>simp[locP] at h
   | blk g o =>
    simp only[locP] at h ⊢;simp only[qC] at hs ⊢;exact qdA a _ r q h hs
  | .fld (i+1) :: r,h,hs =>
   cases c with
   | val v=>simp[locP] at h
   | blk g o =>
    simp only[locP] at h ⊢;simp only[qC] at hs ⊢;exact qdA b _ _ q h hs
 | .parr n e,c,r,q,h,_=>by
  match r,h with
  | [],h=>exact⟨h,rfl⟩
  | [.idx k],h=>cases c <;> exact⟨h,rfl⟩
  | .fld i :: r,h=>simp[locP] at h
  | .idx k :: _ :: _,h=>simp[locP] at h
def qqJ (w w':World) (c:Spot) (k:Nat):Prop :=
 match c with
 | .val _=>True
 | .blk g o=>∃ (cur cur':Array Value) (te:TypeId) (fz:Nat×Nat),w.heap[g]? = some (.cells cur te fz)∧w'.heap[g]? = some (.cells cur' te fz)∧cur'.size=cur.size∧∀ i,(i < o∨o+k≤i)→cur'[i]? = cur[i]?
theorem qqJ.cell {o:Nat} (h:qqJ w w' (.blk g o) k) (j:Nat) (hj:j < o∨o+k≤j):w'.cell? ⟨g,j,none⟩=w.cell? ⟨g,j,none⟩:=by
 obtain⟨cur,cur',te,fz,h1,h2,h3,h4⟩:=h;simp only[World.cell?,h1,h2,Option.isSome_none,yq,if_false];exact h4 j hj
def Wand (w:World) (S:qa) (p:PSh) (c:Spot) (x:Den p.sh) (r:List PStep) (q:PSh) (c':Spot) (F:Nat→Prop):Prop :=
 ∀ (w':World) (S':qa) (y':Den q.sh) (Fq':Nat→Prop),Keeps w S w' S'→(∀ b,F b→some b≠c'.block→w'.heap[b]? = w.heap[b]?)→qqJ w w' c' q.size →
  (∀ g,c.block=some g→c'.block≠some g→w'.heap[g]? = w.heap[g]?)→(∀ b o,F b→(S' b o↔S b o))→PM w' S' q (c'.rdr w') y' Fq'→(∀ b,Fq' b→¬ F b)→(∀ g,c'.block=some g→¬ Fq' g) →
  (∀ g,c.block=some g→¬ Fq' g)→∃ x',setPP p x r q y'=some x'∧PM w' S' p (c.rdr w') x' (fun b=>Fq' b∨F b)
structure Focus (w:World) (S:qa) (p:PSh) (c:Spot) (x:Den p.sh) (F:Nat→Prop) (r:List PStep) (q:PSh) (y:Den q.sh) (c':Spot) (Fq:Nat→Prop):Prop where
 part:PM w S q (c'.rdr w) y Fq
 sub:∀ b,Fq b→F b
 out:∀ g,c'.block=some g→¬ Fq g
 blk:∀ g,c'.block=some g→F g∨c.block=some g
 spine:∀ g,g∈qC w p c r→(F g∧¬ Fq g)∨c.block=some g
 top:r=[]→c'=c
 range:∀ g o g' o',c=.blk g o→c'=.blk g' o'→g'=g→o≤o'∧o'+q.size≤o+p.size
 uns:∀ g,c'.block=some g→c.block=some g∨((∀ o,¬ S g o)∧∃ (cur:Array Value) (te:TypeId),w.heap[g]? = some (.cells cur te (0,0)))
 back:Wand w S p c x r q c' (fun b=>F b∧¬ Fq b)
theorem PM.focus:∀ (p:PSh) (c:Spot) (x:Den p.sh) (F:Nat→Prop) (r:List PStep) (q:PSh) (y:Den q.sh),PM w S p (c.rdr w) x F→getPP p x r=some ⟨q,y⟩→inPP p x r →
 (∀ g,c.block=some g→¬ F g)→(∀ v,c=.val v→r=[]∨∃ te e,p=.psl te e)→∃ c' Fq,locP w p c r=some (q,c')∧Focus w S p c x F r q y c' Fq:=by
 have base:∀ (p:PSh) (c:Spot) (x:Den p.sh) (F:Nat→Prop),PM w S p (c.rdr w) x F→(∀ g,c.block=some g→¬ F g)→(∀ y':Den p.sh,setPP p x [] p y'=some y')→qC w p c []=[] →
  Focus w S p c x F [] p x c F:=fun p c x F h hc hset hsp=>{
  part:=h
  sub:=fun _ hb=>hb
  out:=hc
  blk:=fun g hg=>.inr hg
  spine:=fun g hg=>by rw[hsp] at hg;cases hg
  top:=fun _=>rfl
  range:=fun g o g' o' e e' _=>by
   rw[e] at e';cases e';exact⟨yv _,yv _⟩
  uns:=fun g hg=>.inl hg
  back:=fun w' S' y' Fq' _ _ _ _ _ hp _ _ _=>⟨y',hset y',hp.congrF fun b=>⟨.inl,fun hh=>hh.elim id (fun hh=>absurd hh.1 hh.2)⟩⟩ }
 intro p;induction p with
 | leaf s =>
  intro c x F r q y h hg _ hc _;cases r with
  | nil =>
   simp only[getPP,ya,yD] at hg;obtain⟨rfl,hg⟩:=hg;obtain rfl:=eq_of_heq hg;exact⟨c,F,rfl,base _ c x F h hc (fun y'=>by simp[setPP]) rfl⟩
  | cons a r=>simp[getPP] at hg
 | osl te e =>
  intro c x F r q y h hg _ hc _;cases r with
  | nil =>
   simp only[getPP,ya,yD] at hg;obtain⟨rfl,hg⟩:=hg;obtain rfl:=eq_of_heq hg;exact⟨c,F,rfl,base _ c x F h hc (fun y'=>by simp[setPP]) rfl⟩
  | cons a r=>simp[getPP] at hg
 | psl te e ih =>
  intro c l F r q y h hg hin hc hv;match r,hg,hin with
  | [],hg,_ =>
   simp only[getPP,ya,yD] at hg;obtain⟨rfl,hg⟩:=hg;obtain rfl:=eq_of_heq hg;exact⟨c,F,rfl,base _ c l F h hc (fun y'=>by simp[setPP]) rfl⟩
  | .fld i :: r,hg,_=>simp[getPP] at hg
  | .idx n :: r,hg,hin =>
   simp only[getPP] at hg;simp only[inPP] at hin;obtain⟨hn,hin⟩:=hin;simp only[PM] at h;obtain⟨v,h1,h2⟩:=h;rcases h2 with h2 | ⟨g,cap,cur,Fe,k1,k2,k3,k4,k5,k6,k7,k8,k9,k10,k11⟩
   ·have:List.length l=0:=by rw[h2.2.1];rfl
    omega
   ·have hgetD:List.getD l n (dflt e.sh)=l[n]:=by simp[List.getD,hn]
    rw[hgetD] at hg hin;have hFg:F g:=(k11 g).2 (.inl rfl);obtain⟨c',Fq,j1,j2⟩:=ih (.blk g (n*e.size)) l[n] (Fe n) r q y (k7 n _ (yO hn)) hg hin (fun g' hg' hF=>by
     simp only[Spot.block,ya] at hg';subst hg';exact k10 n g hF rfl) (fun v e=>by cases e)
    have hr0:c.rdr w 0=some (.slice (some ⟨g,0,none⟩) (List.length l) cap):=by rw[h1,k1]
    have hcblk:∀ g',c'.block=some g'→F g':=fun g' hg'=>by
     rcases j2.blk g' hg' with hF | hF
     ·exact(k11 g').2 (.inr ⟨n,hF⟩)
     ·simp only[Spot.block,ya] at hF;subst hF;exact hFg
    have hFqn:∀ b,Fq b→Fe n b:=j2.sub;have hgFq:¬ Fq g:=fun hh=>k10 n g (hFqn g hh) rfl;have hcb:∃ g' o',c'=.blk g' o':=by
     by_cases hr:r=[]
     ·exact⟨g,_,j2.top hr⟩
     ·cases c' with
      | blk g' o'=>exact⟨g',o',rfl⟩
      | val v' =>
       exfalso;have:∀ (p:PSh) (g o:Nat) (r:List PStep) (q:PSh) (v:Value),locP w p (.blk g o) r≠some (q,.val v):=by
        intro p;induction p with
        | leaf s=>intro g o r q v;cases r <;> simp[locP]
        | osl te e=>intro g o r q v;cases r <;> simp[locP]
        | psl te e ih =>
         intro g o r q v;match r with
         | []=>simp[locP]
         | .fld i :: r=>simp[locP]
         | .clo _ _ :: r=>simp[locP]
         | .cel :: r=>simp[locP]
         | .idx n :: r =>
          simp only[locP];split
          ·exact ih _ _ _ _ _
          ·simp
        | ppair a b iha ihb =>
         intro g o r q v;match r with
         | []=>simp[locP]
         | .idx i :: r=>simp[locP]
         | .clo _ _ :: r=>simp[locP]
         | .cel :: r=>simp[locP]
         | .fld 0 :: r=>simp only[locP];exact iha _ _ _ _ _
         | .fld (i+1) :: r=>simp only[locP];exact ihb _ _ _ _ _
        | parr n e =>
         intro g o r q v;match r with
         | []=>simp[locP]
         | [.idx k]=>simp[locP]
         | .fld i :: r=>simp[locP]
         | .clo _ _ :: r=>simp[locP]
         | .cel :: r=>simp[locP]
         | .idx k :: _ :: _=>simp[locP]
       exact this _ _ _ _ _ _ j1
    refine⟨c',Fq,by simp only[locP,hr0];exact j1,{
     part:=j2.part
     sub:=fun b hb=>(k11 b).2 (.inr ⟨n,hFqn b hb⟩)
     out:=j2.out
     blk:=fun g' hg'=>.inl (hcblk g' hg')
     spine:=fun g' hg'=>by
      simp only[qC,hr0] at hg';rcases List.mem_append.1 hg' with hg' | hg'
      ·right;cases hcb':c.block with
       | none=>rw[hcb'] at hg';simp at hg'
       | some g2=>rw[hcb'] at hg';simp at hg';rw[hg']
      ·left;rcases j2.spine g' hg' with hh | hh
       ·exact⟨(k11 g').2 (.inr ⟨n,hh.1⟩),hh.2⟩
       ·simp only[Spot.block,ya] at hh;subst hh;exact⟨hFg,hgFq⟩
     top:=fun e=>by cases e
     range:=fun g1 o1 g' o' e1 e' e2=>by
      subst e1 e' e2;exact absurd (hcblk _ rfl) (hc _ rfl)
     uns:=fun g' hg'=>by
      right;rcases j2.uns g' hg' with hh | hh
      ·simp only[Spot.block,ya] at hh;subst hh;exact⟨k6,cur,te,k2⟩
      ·exact hh
     back:=?_ }⟩
    intro w' S' y' Fq' hk hheap hsame hcsame hS hpm hdis hout hcout;have hgS:F g∧¬ Fq g:=⟨hFg,hgFq⟩;obtain⟨x1,m1,m2⟩:=j2.back w' S' y' Fq' hk (fun b hb hne=>hheap b ⟨(k11 b).2 (.inr ⟨n,hb.1⟩),hb.2⟩ hne) hsame (fun g' hg' hne=>by
     simp only[Spot.block,ya] at hg';subst hg';exact hheap g hgS (fun e=>hne e.symm)) (fun b o hb=>hS b o ⟨(k11 b).2 (.inr ⟨n,hb.1⟩),hb.2⟩) hpm
     (fun b hb hh=>hdis b hb ⟨(k11 b).2 (.inr ⟨n,hh.1⟩),hh.2⟩) hout (fun g' hg' hh=>by
      simp only[Spot.block,ya] at hg';subst hg';exact hdis g hh hgS)
    have hset:setPP (.psl te e) l (.idx n :: r) q y'=some (List.set l n x1):=by
     simp only[setPP];rw[hgetD,m1]
    refine⟨_,hset,?_⟩;simp only[PM];refine⟨v,?_,.inr ?_⟩
    ·rw[qhj (fun g' hg'=>hcsame g' hg' (fun hh=>hc g' hg' (hcblk g' hh))),h1]
    have hrow:∃ cur',w'.heap[g]? = some (.cells cur' te (0,0))∧cur'.size=cur.size:=by
     by_cases hcg:c'.block=some g
     ·obtain⟨g',o',rfl⟩:=hcb;simp only[Spot.block,ya] at hcg;subst hcg;obtain⟨cu,cu',te',fz,e1,e2,e3,_⟩:=hsame;rw[k2] at e1;simp only[ya,Obj.cells.injEq] at e1;obtain⟨rfl,rfl,rfl⟩:=e1;exact⟨cu',e2,e3⟩
     ·exact⟨cur,(hheap g hgS (fun e=>hcg e.symm)).trans k2,rfl⟩
    obtain⟨cur',hc1,hc2⟩:=hrow;refine⟨g,cap,cur',fun m b=>(m=n∧(Fq' b∨(Fe n b∧¬ Fq b)))∨(m≠n∧Fe m b),by rw[List.length_set];exact k1,hc1,by rw[List.length_set];exact k3,k4,hc2.trans k5,
     fun o ho=>k6 o ((hS g o hgS).1 ho),fun m xm hm=>?_,fun m b hm hh=>?_,fun m m' b hne h1' h2'=>?_,fun m b hh hbg=>?_,fun b=>?_⟩
    ·rw[List.getElem?_set] at hm
     by_cases hmn:n=m
     ·subst hmn;rw[if_pos rfl,if_pos hn] at hm;simp only[ya] at hm;subst hm;exact m2.congrF fun b=>⟨fun hh=>.inl ⟨rfl,hh⟩,fun hh=>hh.elim (·.2) (fun hh=>absurd rfl hh.1)⟩
     ·rw[if_neg hmn] at hm;refine PM.congrF (F:=Fe m) ?_ fun b=>⟨fun hh=>.inr ⟨Ne.symm hmn,hh⟩,fun hh=>hh.elim (fun hh=>absurd hh.1.symm hmn) (·.2)⟩;refine PM.step hk e _ _ xm (Fe m) (k7 m xm hm) (fun i hi=>?_) (fun b hb=>?_) (fun b o hb=>hS b o ⟨(k11 b).2 (.inr ⟨m,hb⟩),fun hh=>k9 n m b hmn (hFqn b hh) hb⟩)
      ·by_cases hcg:c'.block=some g
       ·obtain⟨g',o',rfl⟩:=hcb;simp only[Spot.block,ya] at hcg;subst hcg;obtain⟨r1,r2⟩:=j2.range _ _ _ _ rfl rfl rfl;refine hsame.cell _ ?_;rcases Nat.lt_or_ge m n with hlt | hge
        ·left;have:(m+1)*e.size≤n*e.size:=yC _ hlt;rw[Nat.add_mul] at this;omega
        ·right;have:(n+1)*e.size≤m*e.size:=yC _ (by omega);rw[Nat.add_mul] at this;omega
       ·exact qdc (hheap g hgS (fun e=>hcg e.symm)) _ i
      ·refine hheap b ⟨(k11 b).2 (.inr ⟨m,hb⟩),fun hh=>k9 n m b hmn (hFqn b hh) hb⟩ (fun hh=>?_);rcases j2.blk b hh.symm with hF | hF
       ·exact k9 n m b hmn hF hb
       ·simp only[Spot.block,ya] at hF;exact k10 m b hb hF.symm
    ·rw[List.length_set] at hm;rcases hh with ⟨rfl,_⟩ | ⟨_,hh⟩
     ·omega
     ·exact k8 m b hm hh
    ·have key:∀ m b,m≠n→Fe m b→¬ (Fq' b∨(Fe n b∧¬ Fq b)):=fun m b hmn hF hh=>by
      rcases hh with hh | hh
      ·exact hdis b hh ⟨(k11 b).2 (.inr ⟨m,hF⟩),fun hq=>k9 n m b (Ne.symm hmn) (hFqn b hq) hF⟩
      ·exact k9 n m b (Ne.symm hmn) hh.1 hF
     rcases h1' with ⟨rfl,h1'⟩ | ⟨hm1,h1'⟩
     ·rcases h2' with ⟨rfl,_⟩ | ⟨hm2,h2'⟩
      ·exact hne rfl
      ·exact key m' b hm2 h2' h1'
     ·rcases h2' with ⟨rfl,h2'⟩ | ⟨hm2,h2'⟩
      ·exact key m b hm1 h1' h2'
      ·exact k9 m m' b hne h1' h2'
    ·subst hbg;rcases hh with ⟨rfl,hh | hh⟩ | ⟨_,hh⟩
     ·exact hdis b hh hgS
     ·exact k10 m b hh.1 rfl
     ·exact k10 m b hh rfl
    ·constructor
     ·rintro (hh | hh)
      ·exact .inr ⟨n,.inl ⟨rfl,.inl hh⟩⟩
      ·rcases (k11 b).1 hh.1 with rfl | ⟨m,hm⟩
       ·exact .inl rfl
       ·by_cases hmn:m=n
        ·subst hmn;exact .inr ⟨m,.inl ⟨rfl,.inr ⟨hm,hh.2⟩⟩⟩
        ·exact .inr ⟨m,.inr ⟨hmn,hm⟩⟩
     ·rintro (rfl | ⟨m,⟨rfl,hh | hh⟩ | ⟨hmn,hh⟩⟩)
      ·exact .inr hgS
      ·exact .inl hh
      ·exact .inr ⟨(k11 b).2 (.inr ⟨m,hh.1⟩),hh.2⟩
      ·exact .inr ⟨(k11 b).2 (.inr ⟨m,hh⟩),fun hq=>k9 n m b (Ne.symm hmn) (hFqn b hq) hh⟩
 | ppair a b iha ihb =>
  intro c x F r q y h hg hin hc hv;match r,hg,hin with
  | [],hg,_ =>
   simp only[getPP,ya,yD] at hg;obtain⟨rfl,hg⟩:=hg;obtain rfl:=eq_of_heq hg;exact⟨c,F,rfl,base _ c x F h hc (fun y'=>by simp[setPP]) rfl⟩
  | .idx n :: r,hg,_=>simp[getPP] at hg
  | .fld 0 :: r,hg,hin =>
   simp only[getPP] at hg;simp only[inPP] at hin;cases c with
   | val v =>
    rcases hv v rfl with hh | ⟨te,e,hh⟩ <;> cases hh
   | blk g o =>
    simp only[PM] at h;obtain⟨F1,F2,h1,h2,h3,h4⟩:=h;have hF1:∀ b,F1 b→F b:=fun b hb=>(h4 b).2 (.inl hb);have hF2:∀ b,F2 b→F b:=fun b hb=>(h4 b).2 (.inr hb);obtain⟨c',Fq,j1,j2⟩:=iha (.blk g o) x.1 F1 r q y h1 hg hin (fun g' hg' hF=>hc g' hg' (hF1 g' hF)) (fun v e=>by cases e);refine⟨c',Fq,by simp only[locP];exact j1,{
     part:=j2.part
     sub:=fun b hb=>hF1 b (j2.sub b hb)
     out:=j2.out
     blk:=fun g' hg'=>(j2.blk g' hg').imp (hF1 g') id
     spine:=fun g' hg'=>by
      simp only[qC] at hg';exact(j2.spine g' hg').imp (fun hh=>⟨hF1 _ hh.1,hh.2⟩) id
     top:=fun e=>by cases e
     range:=fun g1 o1 g' o' e1 e' e2=>by
      have:=j2.range g1 o1 g' o' e1 e' e2;simp only[PSh.size];omega
     uns:=j2.uns
     back:=?_ }⟩
    intro w' S' y' Fq' hk hheap hsame hcsame hS hpm hdis hout hcout;obtain⟨x1,m1,m2⟩:=j2.back w' S' y' Fq' hk (fun b hb hne=>hheap b ⟨hF1 b hb.1,hb.2⟩ hne) hsame hcsame (fun b o hb=>hS b o ⟨hF1 b hb.1,hb.2⟩) hpm
     (fun b hb hh=>hdis b hb ⟨hF1 b hh.1,hh.2⟩) hout hcout
    refine⟨(x1,x.2),by simp only[setPP,m1],?_⟩;simp only[PM];refine⟨fun b=>Fq' b∨(F1 b∧¬ Fq b),F2,m2,?_,fun k hk1 hk2=>?_,fun k=>?_⟩
    ·have hq2:∀ b,F2 b→¬ Fq b:=fun b hb hq=>h3 b (j2.sub b hq) hb;refine PM.step hk b _ _ x.2 F2 h2 (fun i hi=>?_) (fun k hk2=>hheap k ⟨hF2 k hk2,hq2 k hk2⟩ (fun hh=>?_)) (fun k o' hk2=>hS k o' ⟨hF2 k hk2,hq2 k hk2⟩)
     ·show blkR w' g o (a.size+i)=blkR w g o (a.size+i)
      by_cases hcg:c'.block=some g
      ·cases c' with
       | val v=>cases hcg
       | blk g' o' =>
        simp only[Spot.block,ya] at hcg;subst hcg;obtain⟨r1,r2⟩:=j2.range _ _ _ _ rfl rfl rfl;exact hsame.cell _ (by omega)
      ·exact qdc (hcsame g rfl hcg) _ _
     ·rcases j2.blk k hh.symm with hF | hF
      ·exact h3 k hF hk2
      ·exact hc k hF (hF2 k hk2)
    ·rcases hk1 with hk1 | hk1
     ·exact hdis k hk1 ⟨hF2 k hk2,fun hq=>h3 k (j2.sub k hq) hk2⟩
     ·exact h3 k hk1.1 hk2
    ·constructor
     ·rintro (hh | hh)
      ·exact .inl (.inl hh)
      ·rcases (h4 k).1 hh.1 with h5 | h5
       ·exact .inl (.inr ⟨h5,hh.2⟩)
       ·exact .inr h5
     ·rintro ((hh | hh) | hh)
      ·exact .inl hh
      ·exact .inr ⟨hF1 k hh.1,hh.2⟩
      ·exact .inr ⟨hF2 k hh,fun hq=>h3 k (j2.sub k hq) hh⟩
  | .fld (i+1) :: r,hg,hin =>
   simp only[getPP] at hg;simp only[inPP] at hin;cases c with
   | val v =>
    rcases hv v rfl with hh | ⟨te,e,hh⟩ <;> cases hh
   | blk g o =>
    simp only[PM] at h;obtain⟨F1,F2,h1,h2,h3,h4⟩:=h;have hF1:∀ b,F1 b→F b:=fun b hb=>(h4 b).2 (.inl hb);have hF2:∀ b,F2 b→F b:=fun b hb=>(h4 b).2 (.inr hb);have hrd:(fun i=>blkR w g o (a.size+i))=(Spot.blk g (o+a.size)).rdr w:=by
     funext i;simp only[blkR,Spot.rdr,yS]
    have hrd':∀ w':World,(fun i=>blkR w' g o (a.size+i))=(Spot.blk g (o+a.size)).rdr w':=fun w'=>by
     funext i;simp only[blkR,Spot.rdr,yS]
    have h2':PM w S b ((Spot.blk g (o+a.size)).rdr w) x.2 F2:=by rw[← hrd];exact h2
    obtain⟨c',Fq,j1,j2⟩:=ihb (.blk g (o+a.size)) x.2 F2 (.fld i :: r) q y h2' hg hin (fun g' hg' hF=>hc g' hg' (hF2 g' hF)) (fun v e=>by cases e);refine⟨c',Fq,by simp only[locP];exact j1,{
     part:=j2.part
     sub:=fun b hb=>hF2 b (j2.sub b hb)
     out:=j2.out
     blk:=fun g' hg'=>(j2.blk g' hg').imp (hF2 g') id
     spine:=fun g' hg'=>by
      simp only[qC] at hg';exact(j2.spine g' hg').imp (fun hh=>⟨hF2 _ hh.1,hh.2⟩) id
     top:=fun e=>by cases e
     range:=fun g1 o1 g' o' e1 e' e2=>by
      cases e1;have:=j2.range g (o+a.size) g' o' rfl e' e2;simp only[PSh.size];omega
     uns:=j2.uns
     back:=?_ }⟩
    intro w' S' y' Fq' hk hheap hsame hcsame hS hpm hdis hout hcout;obtain⟨x1,m1,m2⟩:=j2.back w' S' y' Fq' hk (fun b hb hne=>hheap b ⟨hF2 b hb.1,hb.2⟩ hne) hsame hcsame (fun b o hb=>hS b o ⟨hF2 b hb.1,hb.2⟩) hpm
     (fun b hb hh=>hdis b hb ⟨hF2 b hh.1,hh.2⟩) hout hcout
    refine⟨(x.1,x1),by simp only[setPP,m1],?_⟩;simp only[PM];refine⟨F1,fun b=>Fq' b∨(F2 b∧¬ Fq b),?_,?_,fun k hk1 hk2=>?_,fun k=>?_⟩
    ·have hq2:∀ b,F1 b→¬ Fq b:=fun b hb hq=>h3 b hb (j2.sub b hq);refine PM.step hk a _ _ x.1 F1 h1 (fun i hi=>?_) (fun k hk2=>hheap k ⟨hF1 k hk2,hq2 k hk2⟩ (fun hh=>?_)) (fun k o' hk2=>hS k o' ⟨hF1 k hk2,hq2 k hk2⟩)
     ·show blkR w' g o i=blkR w g o i
      by_cases hcg:c'.block=some g
      ·cases c' with
       | val v=>cases hcg
       | blk g' o' =>
        simp only[Spot.block,ya] at hcg;subst hcg;obtain⟨r1,r2⟩:=j2.range _ _ _ _ rfl rfl rfl;exact hsame.cell _ (by omega)
      ·exact qdc (hcsame g rfl hcg) _ _
     ·rcases j2.blk k hh.symm with hF | hF
      ·exact h3 k hk2 hF
      ·exact hc k hF (hF1 k hk2)
    ·show PM w' S' b (fun i=>blkR w' g o (a.size+i)) x1 _;rw[hrd' w'];exact m2
    ·rcases hk2 with hk2 | hk2
     ·exact hdis k hk2 ⟨hF1 k hk1,fun hq=>h3 k hk1 (j2.sub k hq)⟩
     ·exact h3 k hk1 hk2.1
    ·constructor
     ·rintro (hh | hh)
      ·exact .inr (.inl hh)
      ·rcases (h4 k).1 hh.1 with h5 | h5
       ·exact .inl h5
       ·exact .inr (.inr ⟨h5,hh.2⟩)
     ·rintro (hh | hh | hh)
      ·exact .inr ⟨hF1 k hh,fun hq=>h3 k hh (j2.sub k hq)⟩
      ·exact .inl hh
      ·exact .inr ⟨hF2 k hh.1,hh.2⟩
 | parr m e =>
  intro c l F r q y h hg hin hc hv;match r,hg,hin with
  | [],hg,_ =>
   simp only[getPP,ya,yD] at hg;obtain⟨rfl,hg⟩:=hg;obtain rfl:=eq_of_heq hg;exact⟨c,F,rfl,base _ c l F h hc (fun y'=>by simp[setPP]) rfl⟩
  | .fld i :: r,hg,_=>simp[getPP] at hg
  | .idx k :: _ :: _,hg,_=>simp[getPP] at hg
  | [.idx k],hg,hin =>
   simp only[getPP,ya,yD] at hg;obtain⟨rfl,hg⟩:=hg;obtain rfl:=eq_of_heq hg;have hk:k < m:=hin;cases c with
   | val v=>rcases hv v rfl with hh | ⟨te,e,hh⟩ <;> cases hh
   | blk g o =>
    simp only[PM] at h;obtain⟨h0,cs,h1,h2⟩:=h;have hl:=RdC.length _ _ _ h1;simp only[RdC] at h1;have hle:(k+1)*e.size≤m*e.size:=yC _ hk;rw[Nat.add_mul,Nat.one_mul] at hle;have hkl:k < List.length l:=by rw[h1.1];exact hk
    have hgetD:List.getD l k (dflt e)=l[k]:=by simp[List.getD,hkl]
    have hat:=qd.at (RdC.length e) k h1.2 hkl;have hsl:∀ (i:Nat) (v:Value),((cs.drop (k*e.size)).take e.size)[i]? = some v→blkR w g (o+k*e.size) i=some v:=fun i v hv=>by
     have hlt:=(List.getElem?_eq_some_iff.1 hv).1;simp only[yz,yK] at hlt;rw[List.getElem?_take_of_lt (by omega),List.getElem?_drop] at hv;have:=h2 _ _ hv;simp only[blkR,Spot.rdr,yS] at this ⊢;exact this
    refine⟨.blk g (o+k*e.size),fun _=>False,rfl,{
     part:=by
      simp only[PM];rw[hgetD];exact⟨fun b hb=>hb,_,hat,hsl⟩
     sub:=fun b hb=>hb.elim
     out:=fun g hg hb=>hb.elim
     blk:=fun g' hg'=>.inr hg'
     spine:=fun g' hg'=>by simp[qC] at hg'
     top:=fun e=>by cases e
     range:=fun g1 o1 g' o' e1 e' _=>by
      cases e1;cases e';simp only[PSh.size];omega
     uns:=fun g' hg'=>.inl hg'
     back:=?_ }⟩
    intro w' S' y' Fq' hkp hheap hsame hcsame hS hpm hdis hout hcout;refine⟨List.set l k y',by simp[setPP],?_⟩;simp only[PM] at hpm ⊢;obtain⟨j0,cs',j1,j2⟩:=hpm;have hl':=RdC.length _ _ _ j1;refine⟨fun b hb=>hb.elim (j0 b) (fun hh=>h0 b hh.1),cs.take (k*e.size)++cs'++cs.drop (k*e.size+e.size),?_,fun i v hv=>?_⟩
    ·simp only[RdC];refine⟨by rw[List.length_set];exact h1.1,?_⟩;have:=qd.set (RdC.length e) (h1.2.mono (RdC.keeps hkp e)) (i:=k) hkl j1;exact this
    ·show w'.cell? ⟨g,o+i,none⟩=some v;have hcl:cs.length=m*e.size:=hl
     by_cases hi1:i < k*e.size
     ·rw[hsame.cell _ (by omega)];rw[yl,yM (by rw[yz];omega),List.getElem?_take_of_lt hi1] at hv;exact h2 i v hv
     ·by_cases hi2:i < k*e.size+e.size
      ·rw[yl,yN (by rw[yz];omega),yz,Nat.min_eq_left (by omega),yM (by omega)] at hv;have:=j2 _ _ hv;simp only[blkR,Spot.rdr] at this;rw[show o+i=o+k*e.size+(i - k*e.size) by omega];exact this
      ·rw[hsame.cell _ (by simp only[PSh.size];omega)];rw[yN (by rw[yn,yz];omega),yn,yz,Nat.min_eq_left (by omega),List.getElem?_drop,hl'] at hv;rw[show k*e.size+e.size+(i - (k*e.size+e.size))=i by omega] at hv;exact h2 i v hv
theorem Wand.step {w1:World} {S1:qa} {c:Spot} {x:Den p.sh} {r:List PStep} {q:PSh} {c':Spot} (h:Wand w S p c x r q c' F) (hk:Keeps w S w1 S1)
 (hb:∀ b,F b→w1.heap[b]? = w.heap[b]?) (hc:∀ g,c.block=some g→w1.heap[g]? = w.heap[g]?) (hc':∀ g,c'.block=some g→w1.heap[g]? = w.heap[g]?) (hS:∀ b o,F b→(S1 b o↔S b o)):Wand w1 S1 p c x r q c' F:=by
 intro w' S' y' Fq' hk' hheap hsame hcsame hS' hpm hdis hout hcout;refine h w' S' y' Fq' (hk.trans hk') (fun b hF hne=>(hheap b hF hne).trans (hb b hF)) ?_ (fun g hg hne=>(hcsame g hg hne).trans (hc g hg)) (fun b o hF=>(hS' b o hF).trans (hS b o hF)) hpm hdis hout hcout;cases c' with
 | val v=>trivial
 | blk g o =>
  obtain⟨cur,cur',te,fz,e1,e2,e3,e4⟩:=hsame;exact⟨cur,cur',te,fz,by rw[← hc' g rfl];exact e1,e2,e3,e4⟩
end
section
open Go.RowKit
variable {av:AV} {v u:Value} {p:PSh} {h:Option (List PStep)} {c:Spot} {b:Nat} {w':World} {S':qa} {r:List PStep} {fr':Fr}
structure TurnedBut (F:Nat→Prop) (w:World) (S:qa) (w':World) (S':qa):Prop where
 kept:Kept (fun k=>k < w.heap.size∧¬ F k) w w'
 old:∀ b o,b < w.heap.size→¬ F b→(S' b o↔S b o)
 keeps:Keeps w S w' S'
 lt:∀ b o,S' b o→b < w'.heap.size
def callV (u:Value) (vals:Array Value):Sem Next:=do
 let d ← Deferred.ofValue u vals
 invoke d.target d.args
def RanV (P:Program) (u:Value) (vals:Array Value) (w:World) (Post:Value→World→Prop):Prop :=
 (∃ f args,(callV u vals).run P w=.ok (.enter f args) w∧Calls P f args w fun e w'=>∃ v,e=.returned v∧Post v w') ∨
 (∃ l f tmps assign body,(callV u vals).run P w=.ok (.round l f tmps assign body) w∧RoundIn { fn:=fun _=>True,depth:=none,alive:=false } 0 P l f tmps assign body w fun e w'=>∃ v,e=.returned v∧Post v w') ∨
 ∃ v w',(callV u vals).run P w=.ok (.value v) w'∧Post v w'
def cloV (w:World) (S:qa):List PStep→Value→Value→Prop
 | [],y,u=>u=y
 | .clo f b :: r,y,u=>∃ v,cloV w S r y v∧u=(if b then .func (.func f) #[v] #[] else .func (.func f) #[] #[v])
 | .cel :: r,y,u=>∃ v b,cloV w S r y v∧u=.pointer (some ⟨b,0,none⟩)∧S b 0∧w.cell? ⟨b,0,none⟩=some v
 | _,_,_=>False
def qaS:List PStep→Bool
 | []=>true
 | .clo _ _ :: r=>qaS r
 | .cel :: r=>qaS r
 | _=>false
def tv (gv:Nat→Value) (a:Act) (t:Nat):Value:=a.tmps.getD t (gv t)
def PSh.agg:PSh→Bool
 | .leaf s=>s.agg
 | .ppair _ _=>true
 | .parr _ _=>true
 | _=>false
def valOk (p:PSh) (v:Value):Prop:=if p.agg then ∃ cs,v=.agg cs∧cs.size=p.size else v.oneCell'=true
def AV.isRoot:AV→Bool
 | .pv _ _ _=>true
 | .pbox _ _ _=>true
 | .itr _ _=>true
 | .abs _ _ _=>true
 | _=>false
def AV.isRef:AV→Bool
 | .padr _ _=>true
 | .pval _ _=>true
 | _=>false
def AV.isPriv (v:AV):Bool:=v.isRoot||v.isRef
inductive IsRoot:AV→Value→(p:PSh)→Den p.sh→Option (List PStep)→Spot→Prop
 | pv (p:PSh) (x:Den p.sh) (h:Option (List PStep)) (v:Value) (hv:valOk p v):IsRoot (.pv p x h) v p x h (.val v)
 | pbox (p:PSh) (x:Den p.sh) (h:Option (List PStep)) (b:Nat):IsRoot (.pbox p x h) (.pointer (some ⟨b,0,none⟩)) p x h (.blk b 0)
theorem IsRoot.isRoot {x:Den p.sh} (k:IsRoot av v p x h c):av.isRoot=true:=by cases k <;> rfl
theorem IsRoot.det {x:Den p.sh} (k:IsRoot av v p x h c) {p':PSh} {x':Den p'.sh} {h':Option (List PStep)} {c':Spot} (k':IsRoot av v p' x' h' c') :
 p=p'∧HEq x x'∧h=h'∧c=c':=by
 cases k with
 | pv hv=>cases k' with
  | pv hv'=>exact⟨rfl,HEq.rfl,rfl,rfl⟩
 | pbox=>cases k' with
  | pbox=>exact⟨rfl,HEq.rfl,rfl,rfl⟩
structure HoleAt (w:World) (S:qa) (p:PSh) (c:Spot) (x:Den p.sh) (r:List PStep) (F:Nat→Prop) (q:PSh) (g o:Nat):Prop where
 loc:locP w p c r=some (q,.blk g o)
 spine:∀ k,k∈qC w p c r→F k∨c.block=some k
 blk:F g∨c.block=some g
 room:∃ (cur:Array Value) (te:TypeId),w.heap[g]? = some (.cells cur te (0,0))∧o+q.size≤cur.size
 wand:Wand w S p c x r q (.blk g o) F
 uns:c.block=some g∨∀ o',¬ S g o'
def Core (w:World) (S:qa) (p:PSh) (c:Spot) (x:Den p.sh) (F:Nat→Prop):Option (List PStep)→Prop
 | none=>PM w S p (c.rdr w) x F
 | some r=>∃ q g o,HoleAt w S p c x r F q g o
def PSh.isSl:PSh→Bool
 | .osl _ _=>true
 | .psl _ _=>true
 | _=>false
def HdrOk (u:Value) (F:Nat→Prop):(q:PSh)→Den q.sh→Prop
 | .psl _ _,l=>(u=.slice none 0 0∧l=[])∨∃ g cap,u=.slice (some ⟨g,0,none⟩) (List.length l) cap∧List.length l≤cap∧F g
 | .osl _ _,l=>(u=.slice none 0 0∧l=[])∨∃ g cap,u=.slice (some ⟨g,0,none⟩) (List.length l) cap∧List.length l≤cap
 | _,_=>False
structure Root (w:World) (S:qa) (p:PSh) (x:Den p.sh) (h:Option (List PStep)) (c:Spot) (F:Nat→Prop):Prop where
 blk:∀ g,c.block=some g→F g∧(∀ o,¬ S g o)∧∃ (cur:Array Value) (T:TypeId),w.heap[g]? = some (.cells cur T (0,0))∧cur.size=p.size
 core:Core w S p c x (fun b=>F b∧c.block≠some b) h
 hdr:∀ v,c=.val v→p.isSl=true→HdrOk v F p x
def clI (w:World) (S:qa):(ps:List PSh)→Den (qjn ps)→List Nat→(Nat→Prop)→Prop
 | [],_,bs,F=>bs=[]∧∀ b,¬ F b
 | p :: ps,y,bs,F=>∃ b bs' F1 F2,bs=b :: bs'∧Root w S p y.1 none (.blk b 0) F1∧clI w S ps y.2 bs' F2∧(∀ k,F k↔F1 k∨F2 k)∧∀ k,F1 k→¬ F2 k
def qkR (f:FuncId) (bs:List Nat):Value:=.func (.func f) #[] (bs.map fun b=>Value.pointer (some ⟨b,0,none⟩)).toArray
def cellV:(s:Sh)→Den s→Option Value
 | .bool,b=>some (.bool b)
 | .byte,c=>some (.int .u8 (UInt8.toNat c:Nat))
 | .int k,n=>some (.int k n)
 | .str,s=>some (.string ⟨s.toArray⟩)
 | _,_=>none
def Sh.cell:Sh→Bool
 | .bool | .byte | .int _ | .str=>true
 | _=>false
def Sh.key:Sh→Bool
 | .bool | .int _ | .str=>true
 | _=>false
def beqK:(s:Sh)→Den s→Den s→Bool
 | .bool,a,b=>(show Bool from a)==(show Bool from b)
 | .int _,a,b=>(show Int from a)==(show Int from b)
 | .str,a,b=>(show List UInt8 from a)==(show List UInt8 from b)
 | _,_,_=>false
def findM {ks vs:Sh} (k:Den ks):List (Den ks×Den vs)→Option (Den vs)
 | []=>none
 | p :: l=>bif beqK ks k p.1 then some p.2 else findM k l
def putM {ks vs:Sh} (k:Den ks) (v:Den vs):List (Den ks×Den vs)→List (Den ks×Den vs)
 | []=>[(k,v)]
 | p :: l=>bif beqK ks k p.1 then (p.1,v) :: l else p :: putM k v l
def qvZ {ks vs:Sh}:List MapEntry→List (Den ks×Den vs)→Prop
 | [],[]=>True
 | e :: es,p :: l=>cellV ks p.1=some e.key∧cellV vs p.2=some e.val∧qvZ es l
 | _,_=>False
def mapI (ks vs:Sh) (x:Den (.sl (.pair ks vs))) (u:Value) (w:World) (S:qa) (F:Nat→Prop):Prop :=
 ∃ b es clock,u=.map (some b)∧(∀ k,F k↔k=b)∧w.heap[b]? = some (.map es clock)∧(∀ o,¬ S b o)∧qvZ es.toList x
def qjm (ks vs:Sh):Inv (.sl (.pair ks vs)) where
 I:=fun x=>mapI ks vs x
 spec:=fun x _=>(false,false,x)
 tag:=none
 mp:=some (ks,vs)
structure AbsOk (P:Program) {s:Sh} (V:Inv s):Prop where
 step:∀ x u (w:World) (S:qa) F (w':World) (S':qa),V.I x u w S F→Keeps w S w' S'→(∀ b o,S' b o→b < w'.heap.size)→(∀ b,F b→w'.heap[b]? = w.heap[b]?)→(∀ b o,F b→(S' b o↔S b o))→V.I x u w' S' F
 lt:∀ x u (w:World) (S:qa) F b,V.I x u w S F→F b→b < w.heap.size
 call:∀ x u (w:World) (S:qa) F (vals:List Value) args y x',V.I x u w S F→(∀ b o,S b o→b < w.heap.size)→V.spec x args=(true,y,x')→qav w S vals (args.map fun q=>.dat q.1 q.2 none) →
  RanV P u vals.toArray w fun v w'=>∃ S' F',TurnedBut F w S w' S'∧v=.bool y∧V.I x' u w' S' F'∧∀ b,F' b→F b∨w.heap.size≤b
 tag:∀ f ps,V.tag=some (f,ps)→∃ h:s=qjn ps,∀ x u w S F,V.I x u w S F→∃ bs,u=qkR f bs∧clI w S ps (h ▸ x) bs F
 mp:∀ ks vs,V.mp=some (ks,vs)→∃ h:s=.sl (.pair ks vs),∀ x u w S F,V.I x u w S F↔mapI ks vs (h ▸ x) u w S F
theorem qBD (P:Program) (ks vs:Sh):AbsOk P (qjm ks vs) where
 step:=fun x u w S F w' S' ⟨b,es,clock,h1,h2,h3,h4,h5⟩ hk _ hb hS=>⟨b,es,clock,h1,h2,(hb b ((h2 b).2 rfl)).trans h3,fun o ho=>h4 o ((hS b o ((h2 b).2 rfl)).1 ho),h5⟩
 lt:=fun x u w S F k ⟨b,es,clock,h1,h2,h3,h4,h5⟩ hF=>by
  obtain rfl:=(h2 k).1 hF;exact(Array.getElem?_eq_some_iff.1 h3).1
 call:=fun x u w S F vals qs y x' _ _ hsp _=>by
  have hsp:(false,false,x)=(true,y,x'):=hsp;simp at hsp
 tag:=fun _ _ h=>by cases h
 mp:=fun ks' vs' h=>by
  have h:some (ks,vs)=some (ks',vs'):=h;simp only[ya,yb] at h;obtain⟨rfl,rfl⟩:=h;exact⟨rfl,fun x u w S F=>Iff.rfl⟩
inductive RootAny (P:Program) (w:World) (S:qa) (F:Nat→Prop):AV→Value→Prop
 | tree (av:AV) (v:Value) (p:PSh) (x:Den p.sh) (h:Option (List PStep)) (c:Spot) (h1:IsRoot av v p x h c) (h2:Root w S p x h c F):RootAny P w S F av v
 | itr (s:List UInt8) (pos b:Nat) (bs:ByteArray) (h1:w.heap[b]? = some (.stringIter bs pos)) (h2:bs.data.toList=s) (h3:∀ k,F k↔k=b) (h4:∀ o,¬ S b o):RootAny P w S F (.itr s pos) (.pointer (some ⟨b,0,none⟩))
 | abs (s:Sh) (V:Inv s) (x:Den s) (u:Value) (hV:AbsOk P V) (hI:V.I x u w S F):RootAny P w S F (.abs s V x) u
def qtL (w:World) (p:PSh) (c:Spot) (x:Den p.sh) (r:List PStep) (u:Value) (F:Nat→Prop):Prop :=
 ∃ q g o,inPP p x r∧locP w p c r=some (q,.blk g o)∧u=.pointer (some ⟨g,o,none⟩)∧(∀ k,k∈qC w p c r→F k)∧F g
def AdrAt (w:World) (S:qa) (p:PSh) (c:Spot) (x:Den p.sh) (r:List PStep) (u:Value) (F:Nat→Prop):Prop :=
 qtL w p c x r u F∨(qaS r=true∧r≠[]∧∃ g,c=.blk g 0∧cloV w S r (.pointer (some ⟨g,0,none⟩)) u∧F g)
def RefAt (w:World) (S:qa) (av:AV) (v:Value) (r:List PStep) (u:Value) (F:Nat→Prop):Prop :=
 (∃ p x h c,IsRoot av v p x h c∧AdrAt w S p c x r u F)∨∃ s V x,av=.abs s V x∧qaS r=true∧cloV w S r v u
def ValAt (w:World) (p:PSh) (c:Spot) (x:Den p.sh) (r:List PStep) (u:Value) (F:Nat→Prop):Prop :=
 ∃ q y c',inPP p x r∧getPP p x r=some ⟨q,y⟩∧HdrOk u F q y∧locP w p c r=some (q,c')∧c'.rdr w 0=some u∧(∀ k,k∈qC w p c r→F k)∧(∀ g,c'.block=some g→F g)
structure RP (P:Program) (base:Nat→Prop) (w0:World) (S0 S:qa) (fr:Fr) (gv:Nat→Value) (a:Act) (w:World) (F:Nat→Nat→Prop):Prop where
 r:R (fun k=>base k∨∃ t,F t k) w S S fr a w
 below:Kept base w0 w
 old:∀ b o,base b→(S b o↔S0 b o)
 kp:Keeps w0 S0 w S
 nb:∀ t b,F t b→¬ base b
 dj:∀ t t' b,t≠t'→F t b→¬ F t' b
 nroot:∀ t,(fr t).isRoot=false→∀ b,¬ F t b
 root:∀ t,(fr t).isRoot=true→RootAny P w S (F t) (fr t) (tv gv a t)
 adr:∀ t s r,fr t=.padr s r→RefAt w S (fr s) (tv gv a s) r (tv gv a t) (F s)
 val:∀ t s r,fr t=.pval s r→∃ p x h c,IsRoot (fr s) (tv gv a s) p x h c∧ValAt w p c x r (tv gv a t) (F s)
section
variable {P:Program} {base:Nat→Prop} {w0 w:World} {S0 S:qa} {fr:Fr} {gv:Nat→Value} {a:Act} {F:Nat→Nat→Prop}
theorem RP.lt (h:RP P base w0 S0 S fr gv a w F) {t:Nat} (hb:F t b):b < w.heap.size:=h.r.base_le b (.inr ⟨t,hb⟩)
theorem RP.base_le (h:RP P base w0 S0 S fr gv a w F) (hb:base b):b < w.heap.size:=h.r.base_le b (.inl hb)
theorem R.rebase {b1 b2:Nat→Prop} (h:R b1 w0 S0 S fr a w) (hb:∀ k,b2 k→b1 k):R b2 w S S fr a w where
 below:=Kept.refl _ _
 base_le:=fun k hk=>h.base_le k (hb k hk)
 old:=fun _ _ _=>Iff.rfl
 kp:=Keeps.refl _ _
 slt:=h.slt
 dfr:=h.dfr
 rd:=h.rd
 cp:=h.cp
 sls:=h.sls
 own:=fun t e x te he=>by
  obtain⟨xs,h1,h2,h3,h4⟩:=h.own t e x te he;exact⟨xs,h1,h2,h3,fun b hb' hk=>h4 b hb' (hb b hk)⟩
 dist:=h.dist
 box:=fun t s x he=>by
  obtain⟨b,⟨h1,h2⟩,h3⟩:=h.box t s x he;exact⟨b,⟨fun hk=>h1 (hb b hk),h2⟩,h3⟩
 boxd:=h.boxd
 boxo:=h.boxo
 badr:=h.badr
 clm:=h.clm
theorem HoleAt.step {x:Den p.sh} {F:Nat→Prop} {q:PSh} {g o:Nat} (h:HoleAt w S p c x r F q g o) (hk:Keeps w S w' S')
 (hb:∀ b,F b∨c.block=some b→w'.heap[b]? = w.heap[b]?) (hS:∀ b o,F b→(S' b o↔S b o)):HoleAt w' S' p c x r F q g o:=by
 obtain⟨h1,h2,h3,h4,h5,hun⟩:=h;obtain⟨k1,k2⟩:=qdA (w':=w') p c r _ h1 (fun g hg=>hb g (h2 g hg));obtain⟨cur,te,h4,h6⟩:=h4;refine⟨k1,by rw[k2];exact h2,h3,⟨cur,te,(hb g h3).trans h4,h6⟩,h5.step hk (fun b hF=>hb b (.inl hF)) (fun g hg=>hb g (.inr hg)) (fun g' hg'=>?_) hS,?_⟩;rotate_left
 ·rcases hun with hun | hun
  ·exact .inl hun
  ·rcases h3 with h3 | h3
   ·exact .inr fun o' ho=>hun o' ((hS g o' h3).1 ho)
   ·exact .inl h3
 simp only[Spot.block,ya] at hg';subst hg';exact hb g h3
theorem Root.step {x:Den p.sh} {hh:Option (List PStep)} {F:Nat→Prop} (h:Root w S p x hh c F) (hk:Keeps w S w' S') (hb:∀ b,F b→w'.heap[b]? = w.heap[b]?)
 (hS:∀ b o,F b→(S' b o↔S b o)):Root w' S' p x hh c F:=by
 refine⟨fun g hg=>?_,?_,h.hdr⟩
 ·obtain⟨h1,h2,cur,T,h3,h4⟩:=h.blk g hg;exact⟨h1,fun o ho=>h2 o ((hS g o h1).1 ho),cur,T,(hb g h1).trans h3,h4⟩
 ·have hc:∀ g,c.block=some g→w'.heap[g]? = w.heap[g]? := fun g hg=>hb g (h.blk g hg).1;cases hh with
  | none =>
   have h1:PM w S p (c.rdr w) x (fun b=>F b∧c.block≠some b):=h.core;exact PM.step hk p _ _ x _ h1 (fun i _=>qhj hc i) (fun b hF=>hb b hF.1) (fun b o hF=>hS b o hF.1)
  | some r =>
   obtain⟨q,g,o,h1⟩:=h.core;exact⟨q,g,o,h1.step hk (fun b hF=>hF.elim (fun hF=>hb b hF.1) (fun hF=>hc b hF)) (fun b o hF=>hS b o hF.1)⟩
theorem RootAny.step {F:Nat→Prop} (h:RootAny P w S F av v) (hk:Keeps w S w' S') (hsl:∀ b o,S' b o→b < w'.heap.size) (hb:∀ b,F b→w'.heap[b]? = w.heap[b]?)
 (hS:∀ b o,F b→(S' b o↔S b o)):RootAny P w' S' F av v:=by
 cases h with
 | tree _ _ p x h c h1 h2=>exact .tree _ _ p x h c h1 (h2.step hk hb hS)
 | abs s V x _ hV hI=>exact .abs s V x v hV (hV.step x v w S F w' S' hI hk hsl hb hS)
 | itr s pos b bs h1 h2 h3 h4=>exact .itr s pos b bs ((hb b ((h3 b).2 rfl)).trans h1) h2 h3 (fun o ho=>h4 o ((hS b o ((h3 b).2 rfl)).1 ho))
theorem cloV.keeps {w':World} {S':qa} (hk:Keeps w S w' S'):∀ (r:List PStep) (y u:Value),cloV w S r y u→cloV w' S' r y u
 | [],_,_,h=>h
 | .clo f b :: r,y,u,h=>by
  obtain⟨v,h1,h2⟩:=h;exact⟨v,cloV.keeps hk r y v h1,h2⟩
 | .cel :: r,y,u,h=>by
  obtain⟨v,b,h1,h2,h3,h4⟩:=h;exact⟨v,b,cloV.keeps hk r y v h1,h2,(hk b 0 h3).1,(hk b 0 h3).2.trans h4⟩
 | .fld _ :: _,_,_,h=>h.elim
 | .idx _ :: _,_,_,h=>h.elim
theorem AdrAt.step {x:Den p.sh} {F:Nat→Prop} (h:AdrAt w S p c x r u F) (hk:Keeps w S w' S') (hb:∀ b,F b→w'.heap[b]? = w.heap[b]?):AdrAt w' S' p c x r u F:=by
 rcases h with ⟨q,g,o,h1,h2,h3,h4,h5⟩ | h
 ·obtain⟨k1,k2⟩:=qdA (w':=w') p c r _ h2 (fun g hg=>hb g (h4 g hg));exact .inl ⟨q,g,o,h1,k1,h3,by rw[k2];exact h4,h5⟩
 ·obtain⟨h1,h2,g,h3,h4,h5⟩:=h;exact .inr ⟨h1,h2,g,h3,cloV.keeps hk _ _ _ h4,h5⟩
theorem AdrAt.zero {x:Den p.sh} {F:Nat→Prop} (h:AdrAt w S p c x r u F) (hg:getPP p x r≠none):qtL w p c x r u F:=by
 rcases h with h | ⟨h1,h2,_⟩
 ·exact h
 ·exfalso;cases r with
  | nil=>exact h2 rfl
  | cons a r =>
   cases a with
   | clo f b=>exact hg (by cases p <;> rfl)
   | cel=>exact hg (by cases p <;> rfl)
   | _=>cases h1
theorem AdrAt.zeroL {x:Den p.sh} {F:Nat→Prop} (h:AdrAt w S p c x r u F) (hg:locP w p c r≠none):qtL w p c x r u F:=by
 rcases h with h | ⟨h1,h2,_⟩
 ·exact h
 ·exfalso;cases r with
  | nil=>exact h2 rfl
  | cons a r =>
   cases a with
   | clo f b=>exact hg (by cases p <;> rfl)
   | cel=>exact hg (by cases p <;> rfl)
   | _=>cases h1
theorem AdrAt.nil {x:Den p.sh} {F:Nat→Prop} (h:AdrAt w S p c x [] u F):qtL w p c x [] u F:=h.zero (by cases p <;> simp[getPP])
theorem AdrAt.top {x x':Den p.sh} {F F':Nat→Prop} (h:AdrAt w S p c x r u F) (hk:Keeps w S w' S') (ht:qaS r=true) (hF:∀ g,c=.blk g 0→F g→F' g) (hc:∀ g o,c=.blk g o→o=0) :
 AdrAt w' S' p c x' r u F':=by
 rcases h with ⟨q,g,o,h1,h2,h3,h4,h5⟩ | ⟨h1,h2,g,h3,h4,h5⟩
 ·cases r with
  | nil =>
   have hl:∀ w0:World,locP w0 p c []=some (p,c):=fun w0=>by cases p <;> rfl
   have hs:qC w' p c []=[]:=by cases p <;> rfl
   have hi:inPP p x' []:=by cases p <;> trivial
   rw[hl] at h2;simp only[ya,yb] at h2;obtain⟨rfl,rfl⟩:=h2;obtain rfl:=hc g o rfl;exact .inl ⟨p,g,0,hi,hl w',h3,(fun k hk=>by rw[hs] at hk;cases hk),hF g rfl h5⟩
  | cons a r =>
   cases a with
   | clo f b=>cases p <;> simp[locP] at h2
   | cel=>cases p <;> simp[locP] at h2
   | _=>cases ht
 ·exact .inr ⟨h1,h2,g,h3,cloV.keeps hk _ _ _ h4,hF g h3 h5⟩
theorem RefAt.step {F:Nat→Prop} (h:RefAt w S av v r u F) (hk:Keeps w S w' S') (hb:∀ b,F b→w'.heap[b]? = w.heap[b]?):RefAt w' S' av v r u F:=by
 rcases h with ⟨p,x,hh,c,h1,h2⟩ | h
 ·exact .inl ⟨p,x,hh,c,h1,h2.step hk hb⟩
 ·obtain⟨s,V,x,h1,h2,h3⟩:=h;exact .inr ⟨s,V,x,h1,h2,cloV.keeps hk _ _ _ h3⟩
theorem RefAt.tree {F:Nat→Prop} (h:RefAt w S av v r u F) (hn:∀ s V x,av≠.abs s V x):∃ p x h c,IsRoot av v p x h c∧AdrAt w S p c x r u F:=by
 rcases h with h | ⟨s,V,x,e,_⟩
 ·exact h
 ·exact absurd e (hn s V x)
theorem RefAt.isRoot {F:Nat→Prop} (h:RefAt w S av v r u F):av.isRoot=true:=by
 rcases h with ⟨p,x,hh,c,h1,h2⟩ | ⟨s,V,x,rfl,_⟩
 ·exact h1.isRoot
 ·rfl
theorem ValAt.step {x:Den p.sh} {F:Nat→Prop} (h:ValAt w p c x r u F) (hb:∀ b,F b→w'.heap[b]? = w.heap[b]?):ValAt w' p c x r u F:=by
 obtain⟨q,y,c',h1,h6,h7,h2,h3,h4,h5⟩:=h;obtain⟨k1,k2⟩:=qdA (w':=w') p c r _ h2 (fun g hg=>hb g (h4 g hg));exact⟨q,y,c',h1,h6,h7,k1,by rw[qhj (fun g hg=>hb g (h5 g hg))];exact h3,by rw[k2];exact h4,h5⟩
theorem Kept.trans {B B':Nat→Prop} {w1 w2 w3:World} (h:Kept B w1 w2) (k:Kept B' w2 w3) (hb:∀ b,B b→B' b):Kept B w1 w3 :=
 ⟨k.os.trans h.os,k.tape.trans h.tape,k.output.trans h.output,yL h.size k.size,fun b hB=>(k.block b (hb b hB)).trans (h.block b hB)⟩
theorem RP.upd (h:RP P base w0 S0 S fr gv a w F) (X:Nat→Prop) {a':Act} {F':Nat→Nat→Prop}
 (hr:R (fun k=>base k∨∃ t,F' t k) w' S' S' fr' a' w') (hkb:Kept base w w') (hS:∀ b o,base b→(S' b o↔S b o)) (hk:Keeps w S w' S')
 (hF:∀ t,¬ X t→∀ b,F' t b↔F t b) (hheap:∀ t b,¬ X t→F t b→w'.heap[b]? = w.heap[b]?) (hSt:∀ t b o,¬ X t→F t b→(S' b o↔S b o))
 (hfr:∀ t,¬ X t→(fr' t).isRoot=(fr t).isRoot∧((fr t).isRoot=true→fr' t=fr t∧tv gv a' t=tv gv a t))
 (hnb:∀ t b,X t→F' t b→¬ base b) (hdj:∀ t t' b,X t→t≠t'→F' t b→¬ F' t' b)
 (hnr:∀ t,X t→(fr' t).isRoot=false→∀ b,¬ F' t b) (hroot:∀ t,X t→(fr' t).isRoot=true→RootAny P w' S' (F' t) (fr' t) (tv gv a' t))
 (hadr:∀ t s r,fr' t=.padr s r→(¬ X s∧fr t=.padr s r∧tv gv a' t=tv gv a t)∨RefAt w' S' (fr' s) (tv gv a' s) r (tv gv a' t) (F' s))
 (hval:∀ t s r,fr' t=.pval s r→(¬ X s∧fr t=.pval s r∧tv gv a' t=tv gv a t)∨(∃ p x h c,IsRoot (fr' s) (tv gv a' s) p x h c∧ValAt w' p c x r (tv gv a' t) (F' s))) :
 RP P base w0 S0 S' fr' gv a' w' F' where
 r:=hr
 below:=h.below.trans hkb (fun _ hB=>hB)
 old:=fun b o hB=>(hS b o hB).trans (h.old b o hB)
 kp:=h.kp.trans hk
 nb:=fun t b hb=>by
  by_cases hX:X t
  ·exact hnb t b hX hb
  ·exact h.nb t b ((hF t hX b).1 hb)
 dj:=fun t t' b hne hb hb'=>by
  by_cases hX:X t
  ·exact hdj t t' b hX hne hb hb'
  ·by_cases hX':X t'
   ·exact hdj t' t b hX' (Ne.symm hne) hb' hb
   ·exact h.dj t t' b hne ((hF t hX b).1 hb) ((hF t' hX' b).1 hb')
 nroot:=fun t ht b hb=>by
  by_cases hX:X t
  ·exact hnr t hX ht b hb
  ·exact h.nroot t ((hfr t hX).1.symm.trans ht) b ((hF t hX b).1 hb)
 root:=fun t ht=>by
  by_cases hX:X t
  ·exact hroot t hX ht
  ·have hrt:=(hfr t hX).1.symm.trans ht;obtain⟨e1,e2⟩:=(hfr t hX).2 hrt;have e3:F' t=F t:=funext fun b=>propext (hF t hX b);rw[e1,e2,e3];exact(h.root t hrt).step hk hr.slt (fun b hb=>hheap t b hX hb) (fun b o hb=>hSt t b o hX hb)
 adr:=fun t s r ht=>by
  rcases hadr t s r ht with ⟨hX,e1,e2⟩ | hh
  ·have h1:=h.adr t s r e1;obtain⟨e3,e4⟩:=(hfr s hX).2 h1.isRoot;have e5:F' s=F s:=funext fun b=>propext (hF s hX b);rw[e3,e4,e2,e5];exact h1.step hk (fun b hb=>hheap s b hX hb)
  ·exact hh
 val:=fun t s r ht=>by
  rcases hval t s r ht with ⟨hX,e1,e2⟩ | hh
  ·obtain⟨p,x,hh,c,h1,h2⟩:=h.val t s r e1;obtain⟨e3,e4⟩:=(hfr s hX).2 h1.isRoot;have e5:F' s=F s:=funext fun b=>propext (hF s hX b);exact⟨p,x,hh,c,by rw[e3,e4];exact h1,by rw[e2,e5];exact h2.step (fun b hb=>hheap s b hX hb)⟩
  ·exact hh
def AV.vague:AV→Bool
 | .bad=>true
 | v=>v.isPriv
theorem qar {v:AV} (h:v.vague=true):v.lab=none:=by cases v <;> first | rfl | (simp[AV.vague,AV.isPriv,AV.isRoot,AV.isRef] at h)
theorem qfR {v:AV} (h:v.vague=true) (w:World) (S:qa) (val:Value):Rd w S val v:=by
 cases v with
 | bad=>exact .bad _
 | pv p x h=>exact .pv _ _ _ _
 | pbox p x h=>exact .pbox _ _ _ _
 | padr s r=>exact .padr _ _ _
 | pval s r=>exact .pval _ _ _
 | itr s p=>exact .itr _ _ _
 | abs s V x=>exact .abs _ _ _ _
 | _=>simp[AV.vague,AV.isPriv,AV.isRoot,AV.isRef] at h
theorem R.repriv {b:Nat→Prop} (h:R b w0 S0 S fr a w) (hv:∀ t,fr' t=fr t∨((fr t).vague=true∧(fr' t).vague=true)):R b w0 S0 S fr' a w:=by
 have nv:∀ t,(fr' t).vague=false→fr' t=fr t:=fun t ht=>by
  rcases hv t with e | ⟨_,e⟩
  ·exact e
  ·rw[e] at ht;cases ht
 have hlab:∀ t l e,(fr' t).lab=some (l,e)→fr' t=fr t:=fun t l e he=>nv t (by
  cases hh:(fr' t).vague with
  | false=>rfl
  | true=>rw[qar hh] at he;cases he)
 have hl:∀ t l e,(fr t).lab=some (l,e)→fr' t=fr t:=fun t l e he=>by
  rcases hv t with e1 | ⟨e1,_⟩
  ·exact e1
  ·rw[qar e1] at he;cases he
 have hbx:∀ t s (x:Den s),fr' t=.box s x→fr' t=fr t:=fun t s x he=>nv t (by rw[he];rfl);have hbx':∀ t s (x:Den s),fr t=.box s x→fr' t=fr t:=fun t s x he=>by
  rcases hv t with e1 | ⟨e1,_⟩
  ·exact e1
  ·rw[he] at e1;cases e1
 exact {
  below:=h.below
  base_le:=h.base_le
  old:=h.old
  kp:=h.kp
  slt:=h.slt
  dfr:=h.dfr
  rd:=fun t=>by
   rcases hv t with e | ⟨_,e⟩
   ·rw[e];exact h.rd t
   ·exact qfR e _ _ _
  cp:=fun t l e he=>by
   have e1:=hlab t l e he;rw[e1] at he;obtain⟨k1,k2⟩:=h.cp t l e he;have e2:=hl l l e (by rw[k1];exact he);exact⟨by rw[e1,e2,k1],k2⟩
  sls:=fun t s x l he=>by
   have e1:=nv t (by rw[he];rfl);exact h.sls t s x l (by rw[← e1];exact he)
  own:=fun t e x te he=>by
   have e1:=nv t (by rw[he];rfl);exact h.own t e x te (by rw[← e1];exact he)
  dist:=fun l l' e e' b h1 h2=>by
   have e1:=hlab l l e h1;have e2:=hlab l' l' e' h2;rw[e1] at h1;rw[e2] at h2;exact h.dist l l' e e' b h1 h2
  box:=fun t s x he=>by
   have e1:=hbx t s x he;exact h.box t s x (by rw[← e1];exact he)
  boxd:=fun t t' s s' x x' b h1 h2=>by
   have e1:=hbx t s x h1;have e2:=hbx t' s' x' h2;exact h.boxd t t' s s' x x' b (by rw[← e1];exact h1) (by rw[← e2];exact h2)
  boxo:=fun t s x b l e h1 hb h2=>by
   have e1:=hbx t s x h1;have e2:=hlab l l e h2;exact h.boxo t s x b l e (by rw[← e1];exact h1) hb (by rw[← e2];exact h2)
  badr:=fun t s p he=>by
   have e1:=nv t (by rw[he];rfl);obtain⟨u,y,z,g,k1,k2⟩:=h.badr t s p (by rw[← e1];exact he);exact⟨u,y,z,g,by rw[hbx' s u y k1];exact k1,k2⟩
  clm:=fun t f ss he=>by
   have e1:=nv t (by rw[he];rfl);exact h.clm t f ss (by rw[← e1];exact he) }
end
end
section
open Go.RowKit Go.MapKept
variable {s:Sh} {v kv:Value}
def keyD:Sh→TypeDesc→Prop
 | .bool,d=>d=.bool
 | .int k,d=>d=.int k
 | .str,d=>d=.string
 | _,_=>False
theorem qNa {x:Den s} (h:cellV s x=some v) (w:World) (S:qa):RdV w S s x v:=by
 cases s <;> simp only[cellV,ya,reduceCtorEq] at h <;> subst h <;> simp[RdV,RdC,Sh.agg]
theorem qNb {x:Den s} {w:World} {S:qa} (hs:s.cell=true) (h:RdV w S s x v):cellV s x=some v:=by
 cases s <;> first | (simp[Sh.cell] at hs;done) | (simp only[RdV,RdC,Sh.agg,yq,if_false,List.cons.injEq,and_true] at h)
 ·subst h;rfl
 ·subst h;rfl
 ·subst h;rfl
 ·obtain⟨b,rfl,rfl⟩:=h;rfl
theorem qvm (h:s.key=true):s.cell=true:=by cases s <;> first | rfl | cases h
theorem qNc {ks:Sh} {d:TypeDesc} (hd:keyD ks d) {k:Den ks} (h:cellV ks k=some v):IsKey d v:=by
 cases ks <;> simp only[keyD] at hd <;> subst hd <;> simp only[cellV,ya] at h <;> subst h <;> simp[IsKey]
theorem qRC (a b:List UInt8):((⟨a.toArray⟩:ByteArray)==⟨b.toArray⟩)=(a==b):=by
 rw[Bool.eq_iff_iff,bytes_beq];simp
theorem qol {ks:Sh} {d:TypeDesc} (hd:keyD ks d) {a b:Den ks} {va vb:Value} (ha:cellV ks a=some va) (hb:cellV ks b=some vb):Instr.sameNow d va vb=some (beqK ks a b):=by
 cases ks <;> simp only[keyD] at hd <;> subst hd <;> simp only[cellV,ya] at ha hb <;> subst ha hb
 ·rfl
 ·simp[Instr.sameNow,beqK]
 ·simp only[Instr.sameNow,beqK,qRC]
theorem qNd {ks:Sh} {a b:Den ks} (h:beqK ks a b=true):a=b:=by
 cases ks <;> first | (simp[beqK] at h;done) | (simpa [beqK] using h)
theorem qkz {ks vs:Sh} {d:TypeDesc} (hd:keyD ks d) {k:Den ks} {kv:Value} (hk:cellV ks k=some kv):∀ (es:List MapEntry) (x:List (Den ks×Den vs)) (i:Nat),qvZ es x →
 (findM k x=none∧Instr.findNow d kv es i=some none∧∀ (v:Den vs) (vv:Value) (bn:Nat),cellV vs v=some vv→qvZ (es++[{ key:=kv,val:=vv,born:=bn }]) (putM k v x)) ∨
 ∃ j v e,findM k x=some v∧Instr.findNow d kv es i=some (some (i+j,e.val))∧es[j]? = some e∧cellV vs v=some e.val∧e.key=kv ∧
  ∀ (v:Den vs) (vv:Value),cellV vs v=some vv→qvZ (es.modify j fun e=>{ e with key:=kv,val:=vv }) (putM k v x)
 | [],[],i,_=>.inl ⟨rfl,rfl,fun v vv bn hv=>⟨hk,hv,trivial⟩⟩
 | [],p :: l,i,h=>h.elim
 | e :: es,[],i,h=>h.elim
 | e :: es,p :: l,i,⟨h1,h2,h3⟩=>by
  have hs:=qol hd hk h1;cases hb:beqK ks k p.1 with
  | true =>
   have he:=qNd hb;rw[← he,hk] at h1;obtain h1:=yp h1;refine .inr ⟨0,p.2,e,by simp[findM,hb],by simp[Instr.findNow,hs,hb],rfl,h2,h1.symm,fun v vv hv=>?_⟩;simp only[putM,hb,yc,List.modify_zero_cons];exact⟨by rw[← he];exact hk,hv,h3⟩
  | false =>
   rcases qkz hd hk es l (i+1) h3 with ⟨g1,g2,g3⟩ | ⟨j,v,e',g1,g2,g3,g4,g5,g6⟩
   ·refine .inl ⟨by simp[findM,hb,g1],by simp[Instr.findNow,hs,hb,g2],fun v vv bn hv=>?_⟩;simp only[putM,hb,yd,List.cons_append];exact⟨h1,h2,g3 v vv bn hv⟩
   ·refine .inr ⟨j+1,v,e',by simp[findM,hb,g1],by simp[Instr.findNow,hs,hb,g2];omega,by simpa using g3,g4,g5,fun v vv hv=>?_⟩;simp only[putM,hb,yd,List.modify_succ_cons];exact⟨h1,h2,g6 v vv hv⟩
theorem qom (P:Program) (t:TypeId) (w:World):(Instr.makeMap t none).run P w=.ok (.map (some w.heap.size)) (w.alloc (.map #[] 0)):=rfl
section
variable {P:Program} {w:World} {S:qa} {F:Nat→Prop} {ks vs:Sh} {x:Den (.sl (.pair ks vs))} {u:Value} {t kt et:TypeId} {d:TypeDesc}
theorem qtv (hm:P.underlying t=some (.map kt et)) (hkd:P.underlying kt=some d) (hd:keyD ks d) {z:Value} (hz:(zeroValue et).run P w=.ok z w) (hzr:RdV w S vs (dflt vs) z) (h:mapI ks vs x u w S F) {k:Den ks} (hk:cellV ks k=some kv) (c:Bool) :
 ∃ vv,(Instr.lookup t u kv c).run P w=.ok (if c then .tuple #[vv,.bool (findM k x).isSome] else vv) w∧RdV w S vs ((findM k x).getD (dflt vs)) vv:=by
 obtain⟨b,es,clock,rfl,h2,h3,h4,h5⟩:=h;have hik:=qNc hd hk;rcases qkz hd hk es.toList x 0 h5 with ⟨g1,g2,_⟩ | ⟨j,v,e,g1,g2,g3,g4,g5,_⟩
 ·refine⟨z,?_,by rw[g1];exact hzr⟩;rw[g1];simp[Instr.lookup,yr hm,MapKept.run_getObj_map h3,run_checkKey hkd hik,run_findKey hkd g2,hz,Result.andThen]
 ·refine⟨e.val,?_,by rw[g1];exact qNa g4 w S⟩;rw[g1];simp[Instr.lookup,yr hm,MapKept.run_getObj_map h3,run_checkKey hkd hik,run_findKey hkd g2,Result.andThen]
theorem qtw (hm:P.underlying t=some (.map kt et)) (hkd:P.underlying kt=some d) (hd:keyD ks d) (h:mapI ks vs x u w S F) {k:Den ks} (hk:cellV ks k=some kv) {v:Den vs} {vv:Value} (hv:cellV vs v=some vv) :
 ∃ b o o',(∀ k,F k↔k=b)∧w.heap[b]? = some o∧(Instr.mapUpdate t u kv vv).run P w=.ok () { w with heap:=w.heap.setIfInBounds b o' }∧(∀ o,¬ S b o)∧mapI ks vs (putM k v x) u { w with heap:=w.heap.setIfInBounds b o' } S F:=by
 obtain⟨b,es,clock,rfl,h2,h3,h4,h5⟩:=h;have hik:=qNc hd hk;rcases qkz hd hk es.toList x 0 h5 with ⟨g1,g2,g3⟩ | ⟨j,v',e,g1,g2,g3,g4,g5,g6⟩
 ·refine⟨b,_,.map (es.push { key:=kv,val:=vv,born:=clock }) (clock+1),h2,h3,?_,h4,b,_,_,rfl,h2,(heap_set h3).1,h4,?_⟩
  ·simp[Instr.mapUpdate,yr hm,MapKept.run_getObj_map h3,run_checkKey hkd hik,run_findKey hkd g2,run_setObj_map _ h3,Result.andThen]
  ·rw[Array.toList_push];exact g3 v vv clock hv
 ·have hj:es[j]? = some e:=by simpa using g3
  refine⟨b,_,.map (es.modify j fun e=>{ e with key:=kv,val:=vv }) clock,h2,h3,?_,h4,b,_,_,rfl,h2,(heap_set h3).1,h4,?_⟩
  ·simp[Instr.mapUpdate,yr hm,MapKept.run_getObj_map h3,run_checkKey hkd hik,run_findKey hkd g2,hj,g5,run_keyThatStays hik,run_setObj_map _ h3,Result.andThen]
  ·rw[Array.toList_modify];exact g6 v vv hv
end
end
section
structure Iter where
 ps:List PSh
 run:(s:Sh)→(Den s→List (Sigma Den)→Bool×Bool×Den s)→Den s→Den (qjn ps)→Bool×Den s
structure EnvP extends Env where
 priv:Nat→Option PSh
 gl:Nat→Option (Sigma Den)
 frz:Nat→List Nat
 mns:FuncId→Option (List AV→Bool×AV)
 rns:FuncId→Option (List AV→Bool×AV)
 its:FuncId→Option Iter
 mts:TypeId→Option (TypeId×TypeId)
def Fr.sweep (fr:Fr) (d:Nat):Fr:=fun t=>match fr t with
 | .padr s r=>if s=d then .bad else .padr s r
 | .pval s r=>if s=d then .bad else .pval s r
 | v=>v
def Fr.sweepK (fr:Fr) (d:Nat):Fr:=fun t=>match fr t with
 | .padr s r=>if s=d then (if qaS r then .padr s r else .bad) else .padr s r
 | .pval s r=>if s=d then .bad else .pval s r
 | v=>v
def Fr.putP (fr:Fr) (d:Nat) (v:AV):Fr:=(fr.sweep d).put d v
def Fr.kill (fr:Fr) (d:Nat):Fr:=(fr.sweep d).set d .bad
def Fr.moveR (fr:Fr) (y d:Nat):Fr:=(fr.kill y).putP d (fr y)
def Fr.turnR (fr:Fr) (s:Nat) (v:AV):Fr:=(fr.sweepK s).set s v
def qax (n:Nat) (fr:Fr) (x:Operand):Option (Bool×Nat×List PStep) :=
 match x with
 | .tmp y=>if n≤y then none else match fr y with
  | .pv p _ _=>if p.isSl then some (false,y,[]) else none
  | .pval s r=>some (false,s,r)
  | .pbox _ _ _=>some (true,y,[])
  | .padr s r=>match fr s with
   | .abs _ _ _=>none
   | _=>some (true,s,r)
  | _=>none
 | _=>none
structure Tree where
 p:PSh
 x:Den p.sh
 h:Option (List PStep)
def treeV (fr:Fr) (s:Nat):Option Tree :=
 match fr s with
 | .pv p x h=>some ⟨p,x,h⟩
 | .pbox p x h=>some ⟨p,x,h⟩
 | _=>none
def AV.reroot (v:AV) (p:PSh) (x:Den p.sh) (h:Option (List PStep)):AV :=
 match v with
 | .pbox _ _ _=>.pbox p x h
 | _=>.pv p x h
def Fr.turn (fr:Fr) (s:Nat) (p:PSh) (x:Den p.sh) (h:Option (List PStep)):Fr:=(fr.sweepK s).set s ((fr s).reroot p x h)
def Fr.keepTop (fr fr':Fr) (s:Nat):Fr:=fun t=>match fr t with
 | .pval s' []=>if s'=s∧t≠s then (match fr s with
  | .pv _ _ _=>.pval s' []
  | _=>fr' t) else fr' t
 | _=>fr' t
def PSh.fld:PSh→Nat→Option PSh
 | .ppair a _,0=>some a
 | .ppair _ b,i+1=>b.fld i
 | _,_=>none
def PSh.agg':PSh→Bool
 | .ppair _ _=>true
 | _=>false
def PSh.plain:PSh→Bool
 | .leaf _=>true
 | .ppair a b=>a.plain&&b.plain
 | .parr _ _=>true
 | _=>false
def ahead:List PStep→List PStep→Bool
 | [],.idx _ :: _=>true
 | .fld i :: r,.fld j :: r'=>i==j&&ahead r r'
 | _,_=>false
def qha:List PStep→List PStep→Bool
 | [],[]=>true
 | .fld i :: r,.fld j :: r'=>i==j&&qha r r'
 | .idx n :: r,.idx m :: r'=>n==m&&qha r r'
 | _,_=>false
def Fr.hole (fr:Fr) (s:Nat) (r:List PStep):Fr:=fun t=>if t=s then (match fr s with
 | .pv p x _=>.pv p x (some r)
 | .pbox p x _=>.pbox p x (some r)
 | v=>v)
 else match fr t with
  | .pval s' r'=>if s'=s then (if ahead r' r then .pval s' r' else .bad) else .pval s' r'
  | .padr s' r'=>if s'=s then (if qha r' r||(qaS r'||ahead r' r) then .padr s' r' else .bad) else .padr s' r'
  | v=>v
def qkP (fr:Fr) (ad:Bool) (s:Nat) (r:List PStep):Bool :=
 match r with
 | []=>match fr s with
  | .pv _ _ _ => !ad
  | .pbox _ _ _=>ad
  | _=>false
 | _=>false
def Fr.out (fr:Fr) (s:Nat) (r:List PStep):Fr:=if qkP fr false s r then fr.kill s else fr.hole s r
def qeb:(q:PSh)→Den q.sh→Option Nat
 | .psl _ _,l=>some (List.length l)
 | .osl _ _,l=>some (List.length l)
 | _,_=>none
def PSh.el:PSh→Option PSh
 | .psl _ e=>some e
 | .parr _ e=>some (.leaf e)
 | _=>none
def newsD (E:EnvP) (t u:TypeId) (vy:AV):(q:PSh)→Option (Den q.sh)
 | .osl te e=>if te=(E.ti t).el then newsV E.toEnv t u e vy else none
 | .psl te e=>if e.plain=true∧te=(E.ti t).el then newsV E.toEnv t u e.sh vy else none
 | _=>none
def appP:(q:PSh)→Den q.sh→Den q.sh→Den q.sh
 | .osl _ _,l,m=>List.append l m
 | .psl _ _,l,m=>List.append l m
 | _,l,_=>l
def lenP:(q:PSh)→Den q.sh→Nat
 | .osl _ _,l=>List.length l
 | .psl _ _,l=>List.length l
 | _,_=>0
def nilP:(q:PSh)→Option (Den q.sh)
 | .osl _ _=>some []
 | .psl _ _=>some []
 | _=>none
def openV (s:Nat):(p:PSh)→Den p.sh→AV
 | .osl _ e,l=>.dat (.sl e) l none
 | .psl te e,l=>match e,l with
  | .leaf u,l=>.dat (.sl u) l (some (s,te))
  | e,l=>.dat (.sl e.sh) l none
 | p,x=>.dat p.sh x none
def Fr.freeze (n:Nat) (fr:Fr) (s:Nat):Option Fr :=
 if n≤s then none else match fr s with
 | .pv p x none=>some fun t=>if t=s then openV s p x else match fr t with
  | .pval s' r=>if s'=s then (if n≤t then .bad else match r with
   | []=>openV s p x
   | r=>match getPP p x r with
    | some ⟨q,y⟩=>.dat q.sh y none
    | none=>.bad) else .pval s' r
  | .padr s' r=>if s'=s then (if n≤t then .bad else match getPP p x r with
   | some ⟨q,y⟩=>.adr q.sh y
   | none=>.bad) else .padr s' r
  | v=>v
 | .pbox p x none=>some fun t=>if t=s then .adr p.sh x else match fr t with
  | .pval s' r=>if s'=s then (if n≤t then .bad else match getPP p x r with
   | some ⟨q,y⟩=>.dat q.sh y none
   | none=>.bad) else .pval s' r
  | .padr s' r=>if s'=s then (if n≤t then .bad else match getPP p x r with
   | some ⟨q,y⟩=>.adr q.sh y
   | none=>.bad) else .padr s' r
  | v=>v
 | _=>none
def qNp (E:EnvP) (d:Nat):Bool :=
 match E.cutr with
 | some l=>l.any fun x=>x % 1000000==d
 | none=>false
def qNq (E:EnvP) (fr:Fr) (d:Nat) (q0:PSh) (x:Operand):Option (Fr×Sigma fun q:PSh=>Den q.sh) :=
 match x with
 | .const (.slice none 0 0)=>match nilP q0 with
  | some y=>some (fr,⟨q0,y⟩)
  | none=>none
 | x=>match qax E.nt fr x with
  | some (false,s,r)=>if s=d then none else match treeV fr s with
   | some ⟨p,z,none⟩=>match getPP p z r with
    | some q=>some (fr.out s r,q)
    | none=>none
   | _=>none
  | _=>none
def PSh.deep:PSh→Bool
 | .psl _ e => !e.plain
 | _=>false
def PSh.te:PSh→TypeId
 | .psl te _=>te
 | .osl te _=>te
 | _=>0
def pushT (E:EnvP) (fr:Fr) (d:Nat) (t u:TypeId) (y:Operand) (q:PSh) (l:Den q.sh):Option (Bool×Fr) :=
 match y with
 | .tmp z=>if E.nt≤z∨z=d then none else match fr.putP d (.pv q l none) z with
  | .pv q' m none=>if h:q'=q∧u=t∧(E.ti t).sh=some q.sh∧(E.ti (E.ti t).el).bytes≤1024∧q.te=(E.ti t).el then
   some (decide (lenP q l+lenP q (h.1 ▸ m)≤room),((fr.putP d (.pv q l none)).kill z).putP d (.pv q (appP q l (h.1 ▸ m)) none))
   else none
  | _=>none
 | _=>none
def qNr (E:EnvP) (fr:Fr) (d:Nat) (t:TypeId) (x:Operand) (te:TypeId) (e:PSh):Option (Bool×Fr) :=
 if (E.ti t).sh=some (.sl e.sh)∧te=(E.ti t).el∧e.isSl=true then
  match x with
  | .const (.slice none 0 0)=>match nilP e with
   | some m=>some (true,fr.putP d (.pv (.psl te e) [m] none))
   | none=>none
  | .tmp y=>if E.nt≤y∨y=d then none else match fr y with
   | .pv e' m none=>if h:e'=e then some (true,((fr.putP d (.pv (.psl te e) [] none)).kill y).putP d (.pv (.psl te e) [h ▸ m] none)) else none
   | .pval s r=>if s=d∨s=y then none else match treeV fr s with
    | some ⟨p,z,none⟩=>match getPP p z r with
     | some ⟨e',m⟩=>if h:e'=e then some (true,(((((fr.out s r).putP y (.pv e' m none)).putP d (.pv (.psl te e) [] none)).kill y).putP d (.pv (.psl te e) [h ▸ m] none))) else none
     | none=>none
    | _=>none
   | .dat (.sl s) c (some (lb,te'))=>if E.nt≤lb∨lb=d then none else
    if h:PSh.osl te' s=e then some (true,((((fr.spend lb).putP lb (.pv (.osl te' s) c none)).putP d (.pv (.psl te e) [] none)).kill lb).putP d (.pv (.psl te e) [h ▸ c] none)) else none
   | _=>none
  | _=>none
 else none
def qdi (E:EnvP) (fr:Fr) (o:Oper) (d:Nat):Option (Option (Bool×Fr)) :=
 match E.priv d with
 | none=>none
 | some q0=>match o.op with
  | .assign (.const (.slice none 0 0))=>some (match nilP q0 with
   | some y=>if (E.ti o.type).sh=some q0.sh then some (true,fr.putP d (.pv q0 y none)) else none
   | none=>none)
  | .call c=>match c.callee,c.args.toList,c.argTypes.toList with
   | .builtin .append,[x,y],[t,u]=>match qNq E fr d q0 x with
    | none=>none
    | some (fr1,⟨q,l⟩)=>some (if q.deep then pushT E fr1 d t u y q l else match rdo E.toEnv fr true u y with
     | (ok,vy)=>if (E.ti t).sh=some q.sh∧(E.ti (E.ti t).el).bytes≤1024∧(E.ti u).sh=shOf vy then
      match newsD E t u vy q with
      | some m=>some (ok&&decide (lenP q l+lenP q m≤room),fr1.putP d (.pv q (appP q l m) none))
      | none=>none
      else none)
   | _,_,_=>none
  | .buildSlice t n parts=>match q0 with
   | .psl te e=>if e.plain then none else some (match n,parts.toList with
    | 1,[(0,x)]=>qNr E fr d t x te e
    | _,_=>none)
   | _=>none
  | _=>none
def qBA (n:Nat) (fr:Fr):Operand→Option (Nat×List PStep)
 | .tmp y=>if n≤y then none else match fr y with
  | .padr s r=>match fr s with
   | .abs _ _ _=>some (s,r)
   | _=>none
  | .abs _ _ _=>some (y,[])
  | _=>none
 | _=>none
def qNs (n:Nat) (fr:Fr):Operand→Option Nat
 | .tmp y=>if n≤y then none else match fr y with
  | .abs _ _ _=>some y
  | _=>none
 | _=>none
def qfP (E:EnvP) (fr:Fr) (o:Oper) (d:Nat):Option (Option (Bool×Fr)) :=
 match o.op with
 | .move x=>match qax E.nt fr x with
  | some (ad,s,r)=>some (if s=d then none else some (true,fr.putP d (if ad then .padr s r else .pval s r)))
  | none=>match qBA E.nt fr x with
   | some (s,r)=>some (if s=d then none else some (true,fr.putP d (.padr s r)))
   | none=>none
 | .assign x=>if qNp E d then none else match qax E.nt fr x with
  | some (ad,s,r)=>some (if s=d then none else if qkP fr ad s r then some (true,fr.moveR s d)
   else some (true,fr.putP d (if ad then .padr s r else .pval s r)))
  | none=>match qNs E.nt fr x with
   | some y=>some (if y=d then none else some (true,fr.moveR y d))
   | none=>match qBA E.nt fr x with
    | some (s,r)=>some (if s=d then none else some (true,fr.putP d (.padr s r)))
    | none=>none
 | .call c=>match c.callee,c.args.toList,c.argTypes.toList with
  | .builtin .len,[x],[t]=>match qax E.nt fr x with
   | some (false,s,r)=>some (match treeV fr s with
    | some ⟨p,y,_⟩=>match getPP p y r with
     | some ⟨q,z⟩=>match qeb q z with
      | some n=>if (E.ti t).sh=some q.sh then some (true,fr.putP d (.int .i64 n)) else none
      | none=>none
     | none=>none
    | none=>none)
   | some (true,_,_)=>some none
   | none=>none
  | _,_,_=>none
 | .indexAddr t x i=>match qax E.nt fr x with
  | some (false,s,r)=>some (if s=d then none else match treeV fr s with
   | some ⟨p,y,_⟩=>match rdo E.toEnv fr true 0 i with
    | (oki,vi)=>match getPP p y r,idxV vi with
     | some ⟨.psl te e,z⟩,some n=>if (E.ti t).sh=some (PSh.psl te e).sh then
      some (oki&&decide (0≤n)&&decide (n < List.length z),fr.putP d (.padr s (r++[.idx n.toNat])))
      else none
     | _,_=>none
   | none=>none)
  | some (true,_,_)=>some none
  | none=>none
 | .fieldAddr t x f=>match qax E.nt fr x with
  | some (true,s,r)=>some (if s=d then none else match treeV fr s with
   | some ⟨p,y,_⟩=>match getPP p y r with
    | some ⟨q,_⟩=>match q.fld f with
     | some u=>if (E.ti t).sh=some q.sh∧u.size≠0 then some (true,fr.putP d (.padr s (r++[.fld f]))) else none
     | none=>none
    | none=>none
   | none=>none)
  | some (false,_,_)=>some none
  | none=>none
 | .nilCheck x=>match qax E.nt fr x with
  | some (true,s,r)=>some (if s=d then none else match treeV fr s with
   | some ⟨p,y,_⟩=>match getPP p y r with
    | some _=>some (true,fr.putP d (.padr s r))
    | none=>none
   | none=>none)
  | some (false,_,_)=>some none
  | none=>none
 | _=>none
def eqTop:List PStep→List PStep→Bool
 | [],[]=>true
 | .fld i :: r,.fld j :: r'=>i==j&&eqTop r r'
 | _,_=>false
theorem qvR:∀ {r r':List PStep},eqTop r r'=true→r=r'
 | [],r',h=>by cases r' <;> first | rfl | cases h
 | x :: r,[],h=>by cases x <;> cases h
 | x :: r,y :: r',h=>by
  cases x <;> cases y <;> first | cases h;done | skip
  simp only[eqTop,yf,beq_iff_eq] at h;rw[h.1,qvR h.2]
def qIP (v:AV) (s:Nat) (r:List PStep):Bool:=match v with
 | .pval s' r'=>s'==s&&eqTop r' r
 | _=>false
theorem qBB {v:AV} {s:Nat} {r:List PStep} (h:qIP v s r=true):v=.pval s r:=by
 unfold qIP at h;split at h
 ·simp only[yf,beq_iff_eq] at h;rw[h.1,qvR h.2]
 ·cases h
def qRK (fr:Fr) (s:Nat) (r:List PStep):Bool:=match treeV fr s with
 | some ⟨p,y,none⟩=>match getPP p y r with
  | some ⟨q,_⟩ => !q.plain&&q.agg'
  | none=>false
 | _=>false
def qer (E:EnvP) (fr:Fr) (o:Oper) (d:Nat):Option (Option (Bool×Fr)) :=
 match o.op with
 | .load t x=>match qax E.nt fr x with
  | some (true,s,r)=>if qRK fr s r=true then none else some (if s=d then none else match treeV fr s with
   | some ⟨p,y,none⟩=>match getPP p y r with
    | some ⟨q,z⟩=>if (E.ti t).sh=some q.sh then (match q.plain with
     | true=>some (true,fr.putP d (.dat q.sh z none))
     | false=>match qeb q z with
      | some _=>some (true,fr.putP d (.pval s r))
      | none=>none) else none
    | none=>none
   | some ⟨p,y,some _⟩=>match (List.range E.nt).any (fun z=>qIP (fr z) s r),getPP p y r with
    | true,some ⟨q,_⟩=>if (E.ti t).sh=some q.sh∧q.isSl=true then some (true,fr.putP d (.pval s r)) else none
    | _,_=>none
   | _=>none)
  | _=>none
 | _=>none
def qtI (E:EnvP) (fr:Fr) (o:Oper) (d:Nat):Option (Option (Bool×Fr)) :=
 match qfP E fr o d with
 | some r=>some r
 | none=>qer E fr o d
def qaA (E:EnvP) (fr:Fr) (t:TypeId) (x y:Operand):Option (Option (Bool×Fr)) :=
 match qax E.nt fr x with
 | some (true,s,r)=>some (match treeV fr s with
  | some ⟨p,z,none⟩=>match getPP p z r,rdo E.toEnv fr true t y with
   | some ⟨q,_⟩,(ok,.dat u v _)=>if h:u=q.sh∧q.plain=true∧(E.ti t).sh=some q.sh∧q.size≠0 then
    match setPP p z r q (h.1 ▸ v) with
    | some z'=>some (ok,fr.keepTop (fr.turn s p z' none) s)
    | none=>none
    else none
   | _,_=>none
  | some ⟨p,z,some r'⟩=>match getPP p z r,y with
   | some ⟨q,_⟩,.tmp z0=>if E.nt≤z0 then none else match fr z0 with
    | .pv q' m none=>if h:q'=q∧q.isSl=true∧(E.ti t).sh=some q.sh then
     match setPP p z r q (h.1 ▸ m) with
     | some z'=>some (qha r r',(fr.kill z0).turn s p z' none)
     | none=>none
     else none
    | _=>none
   | _,_=>none
  | _=>none)
 | some (false,_,_)=>some none
 | none=>none
def qbs (n:Nat) (fr:Fr):List Operand→List Nat
 | []=>[]
 | x :: xs=>match qax n fr x with
  | some (_,s,_)=>s :: qbs n fr xs
  | none=>qbs n fr xs
def qdj (n:Nat):List Nat→Fr→Option Fr
 | [],fr=>some fr
 | s :: l,fr=>match (fr s).isRoot with
  | false=>qdj n l fr
  | true=>match fr.freeze n s with
   | some fr'=>qdj n l fr'
   | none=>none
def Sh.flat:Sh→Bool
 | .sl _=>false
 | .pair a b=>a.flat&&b.flat
 | .arr _ e=>e.flat
 | _=>true
def qkQ:Op→Bool
 | .makeSlice _ _ _=>true
 | _=>false
def qNt (n:Nat) (fr:Fr) (x:Operand):Option (Nat×Sigma fun p:PSh=>Den p.sh) :=
 match x with
 | .tmp y=>if n≤y then none else match fr y with
  | .pv p z none=>if p.agg'=true then some (y,⟨p,z⟩) else none
  | _=>none
 | _=>none
def makeP (E:EnvP) (fr:Fr) (o:Oper) (d:Nat):Option (Option (Bool×Fr)) :=
 match E.priv d with
 | some (.psl te (.leaf e))=>match eff E.toEnv fr true o with
  | some (ok,.dat (.sl e') l (some (_,te')))=>some (if h:e'=e∧te'=te∧(e.flat||qkQ o.op)=true then some (ok,fr.putP d (.pv (.psl te (.leaf e)) (h.1 ▸ l) none)) else none)
  | _=>none
 | _=>none
def holeB (E:EnvP) (d:Nat):Bool:=match E.cuts 3999998 with
 | some l=>l.contains d
 | none=>false
def makeN (E:EnvP) (fr:Fr) (o:Oper) (d:Nat):Option (Option (Bool×Fr)) :=
 match E.priv d with
 | none=>none
 | some p=>match o.op with
  | .convert src dst x=>match p with
   | .osl te .byte=>some (match rdo E.toEnv fr true src x with
    | (ok,.dat .str s _)=>if (E.ti dst).sh=some (.sl .byte)∧(E.ti src).sh=some .str∧te=(E.ti dst).el then
     some (ok&&decide (List.length s≤room),fr.putP d (.pv (.osl te .byte) s none)) else none
    | _=>none)
   | _=>none
  | .alloc t=>some (if (E.ti t).sh=some p.sh then some (true,fr.putP d (.pbox p (dflt p.sh) (bif holeB E d&&p.isSl then some [] else none))) else none)
  | .build t parts=>some (if parts.size=0∧p.agg'=true∧(E.ti t).sh=some p.sh then some (true,fr.putP d (.pv p (dflt p.sh) none)) else match p,parts.toList with
   | .ppair (.leaf s0) (.ppair (.leaf s1) q),[(0,x0),(1,x1)]=>match rdo E.toEnv fr true t x0,rdo E.toEnv fr true t x1 with
    | (ok0,.dat s0' z0 _),(ok1,.dat s1' z1 _)=>if h:s0'=s0∧s1'=s1∧(E.ti t).sh=some (PSh.ppair (.leaf s0) (.ppair (.leaf s1) q)).sh then some (ok0&&ok1,fr.putP d (.pv (.ppair (.leaf s0') (.ppair (.leaf s1') q)) (z0,(z1,dflt q.sh)) none)) else none
    | _,_=>none
   | _,_=>none)
  | .box t x=>some (match qNt E.nt fr x with
   | some (y,⟨p',z⟩)=>if y=d∨(E.ti t).sh≠some p'.sh then none else some (true,(fr.moveR y d).putP d (.pbox p' z none))
   | none=>match p,rdo E.toEnv fr true t x with
    | .leaf s,(ok,.dat s' z _)=>if h:s'=s∧(E.ti t).sh=some s then some (ok,fr.putP d (.pbox (.leaf s) (h.1 ▸ z) none)) else none
    | _,_=>none)
  | _=>none
def refV (n:Nat) (fr:Fr):Operand→Option (Nat×List PStep)
 | .tmp y=>if n≤y then none else match fr y with
  | .pbox _ _ _=>some (y,[])
  | .padr s r=>if qaS r then some (s,r) else none
  | _=>none
 | _=>none
def qmi (n:Nat) (fr:Fr):List Operand→Option (List Nat)
 | []=>some []
 | .tmp y :: l=>if n≤y then none else match fr y,qmi n fr l with
  | .pbox _ _ none,some ss=>some (y :: ss)
  | _,_=>none
 | _ :: _=>none
def makeF (E:EnvP) (fr:Fr) (o:Oper) (d:Nat):Option (Option (Bool×Fr)) :=
 match o.op with
 | .makeFunc (.func f) first captured=>match first.toList,captured.toList with
  | [x],[]=>match refV E.nt fr x with
   | some (s,r)=>some (if s=d then none else some (true,fr.putP d (.padr s (.clo f true :: r))))
   | none=>none
  | [],[x]=>match refV E.nt fr x with
   | some (s,r)=>some (if s=d then none else some (true,fr.putP d (.padr s (.clo f false :: r))))
   | none=>none
  | [],xs=>match qmi E.nt fr xs with
   | some ss=>some (if ss.contains d then none else some (true,fr.putP d (.clom f ss)))
   | none=>none
  | _,_=>none
 | .box _ x=>match refV E.nt fr x with
  | some (s,.clo f b :: r)=>some (if s=d then none else some (true,fr.putP d (.padr s (.cel :: .clo f b :: r))))
  | _=>none
 | .load t x=>match refV E.nt fr x with
  | some (s,.cel :: .clo f b :: r)=>some (if s=d∨E.mts t≠some (t,t) then none else some (true,fr.putP d (.padr s (.clo f b :: r))))
  | _=>none
 | _=>none
def rootV (fr:Fr) (s:Nat):Option AV :=
 match fr s with
 | .pbox p z none=>some (.pbox p z none)
 | .abs t V z=>some (.abs t V z)
 | _=>none
def celF:FuncId:=1000000007
def wrapR:List PStep→AV→Option AV
 | [],v=>some v
 | [.clo f false],v=>some (.fn f [v])
 | [.cel,.clo f false],.pbox p x none=>some (.fn celF [.fn f [.pbox p x none]])
 | [.clo g false,.cel,.clo f false],.pbox p x none=>some (.fn g [.fn celF [.fn f [.pbox p x none]]])
 | _,_=>none
def qZ:AV→Option (List PStep×AV)
 | .pbox p x none=>some ([],.pbox p x none)
 | .abs s V x=>some ([],.abs s V x)
 | .fn f [.pbox p x none]=>some ([.clo f false],.pbox p x none)
 | .fn f [.abs s V x]=>some ([.clo f false],.abs s V x)
 | .fn c [.fn f [.pbox p x none]]=>if c=celF then some ([.cel,.clo f false],.pbox p x none) else none
 | .fn g [.fn c [.fn f [.pbox p x none]]]=>if c=celF then some ([.clo g false,.cel,.clo f false],.pbox p x none) else none
 | _=>none
def qz:AV→AV→Bool
 | .pbox p _ none,.pbox q _ none=>decide (p=q)
 | .abs _ _ _,.abs _ _ _=>true
 | _,_=>false
def argM (E:EnvP) (fr:Fr) (t:TypeId) (x:Operand):Option (Bool×AV×Option Nat) :=
 match refV E.nt fr x with
 | some (s,r)=>match rootV fr s with
  | some ρ=>match wrapR r ρ with
   | some av=>some (true,av,some s)
   | none=>none
  | none=>none
 | none=>match rdo E.toEnv fr true t x with
  | (ok,v)=>if (qZ v.strip).isSome then none else some (ok,v.strip,none)
def argsM (E:EnvP) (fr:Fr):List Operand→List TypeId→Option (Bool×List AV×List (Option Nat))
 | x :: xs,t :: ts=>match argM E fr t x,argsM E fr xs ts with
  | some (ok,v,s),some (oks,vs,ss)=>some (ok&&oks,v :: vs,s :: ss)
  | _,_=>none
 | _,_=>some (true,[],[])
def qmj:Nat→List (Option Nat)→Option (Nat×Nat)
 | _,[]=>none
 | i,none :: l=>qmj (i+1) l
 | i,some s :: l=>if l.all (·.isNone) then some (i,s) else none
def qvS (E:EnvP) (fr:Fr):Callee→Option (FuncId×Option (Bool×Operand×List PStep))
 | .value (.func f)=>some (f,none)
 | .value (.tmp y)=>match refV E.nt fr (.tmp y) with
  | some (_,.clo f b :: r)=>some (f,some (b,.tmp y,r))
  | _=>none
 | _=>none
def allM (E:EnvP) (fr:Fr) (ex:Option (Bool×Operand×List PStep)) (c:Call):Option (Bool×List AV×List (Option Nat)) :=
 match argsM E fr c.args.toList c.argTypes.toList with
 | some (oks,avs,ss)=>match ex with
  | none=>some (oks,avs,ss)
  | some (b,x,r)=>match refV E.nt fr x with
   | some (s,_)=>match rootV fr s with
    | some ρ=>match wrapR r ρ with
     | some av=>if b then some (oks,av :: avs,some s :: ss) else some (oks,avs++[av],ss++[some s])
     | none=>none
    | none=>none
   | none=>none
 | none=>none
def qIQ (E:EnvP) (fr:Fr) (o:Oper) (d:Option Nat):Option (Option (Bool×Fr)) :=
 match o.op with
 | .call c=>match qvS E fr c.callee with
  | none=>none
  | some (f,ex)=>match E.mns f with
   | none=>none
   | some sp=>some (match allM E fr ex c with
    | none=>none
    | some (oks,avs,ss)=>match sp avs,qmj 0 ss with
     | (pre,.tup (r :: gs)),some (i,s) =>
      if qz (fr s) (gs.getD i .bad)=true∧c.args.size=c.argTypes.size then
       match d with
       | none=>some (oks&&pre,fr.turnR s (gs.getD i .bad))
       | some d=>if s=d∨r.simple=false then none else some (oks&&pre,(fr.turnR s (gs.getD i .bad)).putP d r)
      else none
     | _,_=>none)
 | _=>none
def lookA:List (Nat×AV)→Nat→Option AV
 | [],_=>none
 | (s,g) :: l,t=>if t=s then some g else lookA l t
def Fr.turnL (fr:Fr) (l:List (Nat×AV)):Fr:=fun t=>match lookA l t with
 | some g=>g
 | none=>match fr t with
  | .padr s r=>match lookA l s with
   | some _=>if qaS r then .padr s r else .bad
   | none=>.padr s r
  | .pval s r=>match lookA l s with
   | some _=>.bad
   | none=>.pval s r
  | v=>v
def qvT (fr:Fr):List Nat→Option (List AV)
 | []=>some []
 | s :: l=>match rootV fr s,qvT fr l with
  | some v,some r=>some (v :: r)
  | _,_=>none
def qeU (fr:Fr):List Nat→List AV→Bool
 | [],_=>true
 | s :: l,g :: gs=>qz (fr s) g&&qeU fr l gs
 | _ :: _,[]=>false
def noDup:List Nat→Bool
 | []=>true
 | s :: l => !(l.contains s)&&noDup l
def qNu (E:EnvP) (fr:Fr) (o:Oper) (d:Option Nat):Option (Option (Bool×Fr)) :=
 match o.op with
 | .call c=>match c.callee with
  | .value (.tmp y)=>match fr y with
   | .clom f ss=>match E.mns f with
    | none=>none
    | some sp=>some (if E.nt≤y then none else match argsM E fr c.args.toList c.argTypes.toList,qvT fr ss with
     | some (oks,avs,s0),some ρs=>match sp (avs++ρs) with
      | (pre,.tup (r :: gs))=>if s0.all (·.isNone)=true∧(noDup ss=true∧ss.all (fun s=>decide (s < E.nt))=true)∧qeU fr ss (gs.drop avs.length)=true∧c.args.size=c.argTypes.size then
       match d with
       | none=>some (oks&&pre,fr.turnL (ss.zip (gs.drop avs.length)))
       | some d=>if ss.contains d=true∨r.simple=false then none else some (oks&&pre,(fr.turnL (ss.zip (gs.drop avs.length))).putP d r)
       else none
      | _=>none
     | _,_=>none)
   | _=>none
  | _=>none
 | _=>none
def callM (E:EnvP) (fr:Fr) (o:Oper) (d:Option Nat):Option (Option (Bool×Fr)) :=
 match qIQ E fr o d with
 | some r=>some r
 | none=>qNu E fr o d
def decL (s:List UInt8) (pos:Nat):Int×Nat:=((Utf8.decode ⟨s.toArray⟩ pos).1,(Utf8.decode ⟨s.toArray⟩ pos).2)
def makeQ (E:EnvP) (fr:Fr) (o:Oper) (d:Nat):Option (Option (Bool×Fr)) :=
 match o.op with
 | .range t x=>some (match rdo E.toEnv fr true t x with
  | (ok,.dat .str s _)=>if (E.ti t).sh=some .str then some (ok,fr.putP d (.itr s 0)) else none
  | _=>none)
 | .next (.tmp y) true=>some (match fr y with
  | .itr s pos=>if y=d∨E.nt≤y then none else
   some (true,(fr.set y (.itr s (bif decide (pos < s.length) then pos+(decL s pos).2 else pos))).putP d
    (.tup [.bool (decide (pos < s.length)),.cnd (decide (pos < s.length)) (.int .i64 pos),.cnd (decide (pos < s.length)) (.int .i32 (decL s pos).1)]))
  | _=>none)
 | _=>none
def qvU (E:EnvP) (fr:Fr) (o:Oper) (d:Nat):Option (Bool×Fr) :=
 match qdi E fr o d with
 | some r=>r
 | none=>match qtI E fr o d with
  | some r=>r
  | none=>match qdj E.nt (qbs E.nt fr o.op.operands.toList) fr with
   | none=>none
   | some fr1=>match makeQ E fr1 o d with
    | some r=>r
    | none=>match makeN E fr1 o d with
     | some r=>r
     | none=>match makeP E fr1 o d with
     | some r=>r
     | none=>match stepU E.toEnv fr1 o d with
      | some (ok,fr2)=>if (fr2 d).isPriv then none else some (ok,fr2.sweep d)
      | none=>none
def modM (E:EnvP) (fr:Fr) (o:Oper) (d:Nat):Option (Option (Bool×Fr)) :=
 match callM E fr o (some d) with
 | some r=>some r
 | none=>makeF E fr o d
def stepD (E:EnvP) (fr:Fr) (o:Oper) (d:Nat):Option (Bool×Fr) :=
 match modM E fr o d with
 | some r=>r
 | none=>qvU E fr o d
def qtJ:List AV→Option (List (Sigma Den))
 | []=>some []
 | .dat s x _ :: l=>match qtJ l with
  | some r=>some (⟨s,x⟩ :: r)
  | none=>none
 | _ :: _=>none
def callY (E:EnvP) (fr:Fr) (o:Oper) (d:Nat):Option (Option (Bool×Fr)) :=
 match o.op with
 | .call c=>match c.callee with
  | .value (.tmp y)=>match refV E.nt fr (.tmp y) with
   | some (s,[])=>match fr s with
    | .abs t V x=>some (if s=d∨c.args.size≠c.argTypes.size then none else match argsV E.toEnv fr true c.args.toList c.argTypes.toList with
     | (ok,avs)=>match qtJ avs with
      | some ds=>some (ok&&(V.spec x ds).1,(fr.turnR s (.abs t V (V.spec x ds).2.2)).putP d (.bool (V.spec x ds).2.1))
      | none=>none)
    | _=>none
   | _=>none
  | _=>none
 | _=>none
def callR (E:EnvP) (fr:Fr) (o:Oper) (d:Nat):Option (Option (Bool×Fr)) :=
 match o.op with
 | .call c=>match c.callee with
  | .value (.func f)=>match E.rns f with
   | some sp=>some (if c.args.size≠c.argTypes.size then none else match argsV E.toEnv fr true c.args.toList c.argTypes.toList with
    | (ok,avs)=>match sp avs with
     | (pre,.abs s V x)=>some (ok&&pre,fr.putP d (.abs s V x))
     | _=>none)
   | none=>none
  | _=>none
 | _=>none
def qBC (n:Nat) (fr:Fr):Operand→Option Nat
 | .tmp y=>if n≤y then none else match fr y with
  | .abs _ _ _=>some y
  | .padr s []=>match fr s with
   | .abs _ _ _=>some s
   | _=>none
  | _=>none
 | _=>none
structure MapAt where
 s:Sh
 V:Inv s
 ks:Sh
 vs:Sh
 h:s=.sl (.pair ks vs)
 x:Den (.sl (.pair ks vs))
def mapAt (E:EnvP) (fr:Fr) (t:TypeId) (i:Nat):Option MapAt :=
 match fr i with
 | .abs s V x=>match V.mp,E.mts t with
  | some (ks,vs),some (kt,vt)=>if h:s=.sl (.pair ks vs)∧(E.ti kt).sh=some ks∧(E.ti vt).sh=some vs∧ks.key=true∧vs.cell=true then some ⟨s,V,ks,vs,h.1,h.1 ▸ x⟩ else none
  | _,_=>none
 | _=>none
def qvV (s:Sh):AV→Option (Den s)
 | .dat s' x _=>if h:s'=s then some (h ▸ x) else none
 | _=>none
def lookR (c:Bool) (vs:Sh) (r:Option (Den vs)):AV:=match c with
 | true=>.tup [.dat vs (r.getD (dflt vs)) none,.bool r.isSome]
 | false=>.dat vs (r.getD (dflt vs)) none
def mapD (E:EnvP) (fr:Fr) (o:Oper) (d:Nat):Option (Option (Bool×Fr)) :=
 match o.op with
 | .makeMap t none=>match E.mts t with
  | some (kt,vt)=>some (match (E.ti kt).sh,(E.ti vt).sh with
   | some ks,some vs=>if ks.key&&vs.cell then some (true,fr.putP d (.abs (.sl (.pair ks vs)) (qjm ks vs) [])) else none
   | _,_=>none)
  | none=>none
 | .lookup t x i c=>match qBC E.nt fr x with
  | some s=>some (match mapAt E fr t s,rdo E.toEnv fr true 0 i with
   | some m,(ok,vi)=>match qvV m.ks vi with
    | some k=>some (ok,fr.putP d (lookR c m.vs (findM k m.x)))
    | none=>none
   | none,_=>none)
  | none=>none
 | _=>none
def mapU (E:EnvP) (fr:Fr) (o:Oper):Option (Option (Bool×Fr)) :=
 match o.op with
 | .mapUpdate t x i y=>some (match qBC E.nt fr x with
  | some s=>match mapAt E fr t s,rdo E.toEnv fr true 0 i,rdo E.toEnv fr true 0 y with
   | some m,(ok1,vi),(ok2,vy)=>match qvV m.ks vi,qvV m.vs vy with
    | some k,some v=>some (ok1&&ok2,fr.turnR s (.abs m.s m.V (m.h ▸ putM k v m.x)))
    | _,_=>none
   | none,_,_=>none
  | none=>none)
 | .panic _=>some (some (false,fr))
 | _=>none
def callZ (E:EnvP) (fr:Fr) (o:Oper):Option (Option (Bool×Fr)) :=
 match o.dst,o.guard with
 | some d,none=>match callY E fr o d with
  | some r=>if E.nt≤d then some none else some r
  | none=>match callR E fr o d with
   | some r=>if E.nt≤d then some none else some r
   | none=>match mapD E fr o d with
    | some r=>if E.nt≤d then some none else some r
    | none=>none
 | none,none=>mapU E fr o
 | _,_=>none
def ownY (n:Nat) (fr:Fr):Operand→Option Fr
 | .tmp y=>if n≤y then none else match fr y with
  | .dat (.sl e) c (some (lb,te))=>if lb=y then some ((fr.spend y).putP y (.pv (.osl te e) c none)) else none
  | _=>none
 | _=>none
def qmk (E:EnvP) (fr:Fr) (t:TypeId) (x y:Operand):Option (Bool×Fr) :=
 match ownY E.nt fr y with
 | some fr0=>(qaA E fr0 t x y).getD none
 | none=>none
def qml (E:EnvP) (fr:Fr) (t:TypeId) (x y:Operand):Option (Bool×Fr) :=
 match qax E.nt fr x,y with
 | some (true,s,[]),.tmp z0=>match treeV fr s,fr z0 with
  | some ⟨p,_,none⟩,.pv q m none=>if h:q=p∧p.agg'=true∧(E.ti t).sh=some p.sh∧z0 < E.nt∧z0≠s then some (true,(fr.kill z0).turn s p (h.1 ▸ m) none) else none
  | _,_=>none
 | _,_=>none
def qbG (E:EnvP) (fr:Fr) (t:TypeId) (x y:Operand):Option (Option (Bool×Fr)) :=
 match qaA E fr t x y with
 | some none=>match qml E fr t x y with
  | some r=>some (some r)
  | none=>match qmk E fr t x y with
   | some r=>some (some r)
   | none=>some (match qdj E.nt (qbs E.nt fr [y]) fr with
    | some fr1=>(qaA E fr1 t x y).getD none
    | none=>none)
 | r=>r
def stepP (E:EnvP) (ops:Array Oper) (fr:Fr) (o:Oper):Option (Bool×Fr) :=
 match o.dst with
 | some d=>if E.nt≤d then none else match o.guard with
  | none=>stepD E fr o d
  | some (j,want)=>match qmn ops fr j want with
   | some true=>stepD E fr o d
   | some false=>some (true,fr.putP d (.cnd false .bad))
   | none=>none
 | none=>match o.guard,o.op with
  | none,.store t x y=>match qbG E fr t x y with
   | some r=>r
   | none=>match qdj E.nt (qbs E.nt fr [y]) fr with
    | none=>none
    | some fr1=>qjo E.toEnv ops fr1 o
  | none,.call _=>match callM E fr o none with
   | some r=>r
   | none=>none
  | _,_=>none
def stepX (E:EnvP) (ops:Array Oper) (fr:Fr) (o:Oper):Option (Bool×Fr) :=
 match callZ E fr o with
 | some r=>r
 | none=>stepP E ops fr o
def AV.unref (b:Nat):AV→AV
 | .badr b' p=>if b'=b then .bad else .badr b' p
 | v=>v
def Fr.openB (fr:Fr) (b:Nat):Fr :=
 match fr b with
 | .box s x=>fun t=>if t=b then .adr s x else (fr t).unref b
 | _=>fr
def openL:List Nat→Fr→Fr
 | [],fr=>fr
 | b :: l,fr=>openL l (fr.openB b)
def MtOk (P:Program) (t kt vt:TypeId):Prop:=(kt≠t∧P.underlying t=some (.map kt vt))∨(kt=t∧∃ ps rs v,P.underlying t=some (.func ps rs v))
def ArgM (P:Program) (w:World) (S:qa) (v:Value) (av:AV) (F:Nat→Prop):Prop :=
 match qZ av with
 | some (r,ρ)=>∃ y,cloV w S r y v∧RootAny P w S F ρ y
 | none=>Rd w S v av∧∀ b,¬ F b
def OutM (P:Program) (w:World) (S:qa) (v:Value) (av g:AV) (F:Nat→Prop):Prop :=
 match qZ av with
 | some (r,_)=>∃ y,cloV w S r y v∧RootAny P w S F g y
 | none=>∀ b,¬ F b
def qdk (P:Program) (f:FuncId) (spec:List AV→Bool×AV) (w:World) (S:qa):Prop :=
 ∀ (vals:List Value) (avs:List AV) (r:AV) (gs:List AV) (F:Nat→Nat→Prop),spec avs=(true,.tup (r :: gs))→(∀ b o,S b o→b < w.heap.size)→vals.length=avs.length →
  (∀ i v av,vals[i]? = some v→avs[i]? = some av→ArgM P w S v av (F i))→(∀ i b,avs.length≤i→¬ F i b)→(∀ i j b,i≠j→F i b→¬ F j b) →
  Ran P f vals.toArray w fun v w'=>∃ (S':qa) (F':Nat→Nat→Prop),TurnedBut (fun b=>∃ i,F i b) w S w' S'∧Rd w' S' v r ∧
   (∀ i v av,vals[i]? = some v→avs[i]? = some av→OutM P w' S' v av (gs.getD i .bad) (F' i))∧(∀ i b,F' i b→(∃ j,F j b)∨w.heap.size≤b)∧∀ i j b,i≠j→F' i b→¬ F' j b
def qjl (G:World→qa→Prop) (P:Program) (f:FuncId) (spec:List AV→Bool×AV):Prop:=∀ (w:World) (S:qa),G w S→qdk P f spec w S
def qfQ (P:Program) (f:FuncId) (spec:List AV→Bool×AV) (w:World) (S:qa):Prop :=
 ∀ (vals:List Value) (avs:List AV) (s:Sh) (V:Inv s) (x:Den s),spec avs=(true,.abs s V x)→(∀ b o,S b o→b < w.heap.size)→qav w S vals avs →
  Ran P f vals.toArray w fun v w'=>∃ (S':qa) (F:Nat→Prop),TurnedBut (fun _=>False) w S w' S'∧AbsOk P V∧V.I x v w' S' F∧∀ b,F b→w.heap.size≤b
def qNv (G:World→qa→Prop) (P:Program) (f:FuncId) (spec:List AV→Bool×AV):Prop:=∀ (w:World) (S:qa),G w S→qfQ P f spec w S
def qvW (P:Program) (f:FuncId) (it:Iter) (w:World) (S:qa):Prop :=
 ∀ (s:Sh) (V:Inv s) (x x':Den s) (u:Value) (Fu Fc:Nat→Prop) (bs:List Nat) (y:Den (qjn it.ps)),AbsOk P V→V.I x u w S Fu→clI w S it.ps y bs Fc→(∀ b,Fu b→¬ Fc b) →
  (∀ b o,S b o→b < w.heap.size)→it.run s V.spec x y=(true,x') →
  (callFunc f (u :: bs.map fun b=>Value.pointer (some ⟨b,0,none⟩)).toArray).run P w=.ok (.enter f (u :: bs.map fun b=>Value.pointer (some ⟨b,0,none⟩)).toArray) w ∧
  Calls P f (u :: bs.map fun b=>Value.pointer (some ⟨b,0,none⟩)).toArray w fun e w'=>∃ v,e=.returned v ∧
   ∃ (S':qa) (F':Nat→Prop),TurnedBut (fun b=>Fu b∨Fc b) w S w' S'∧V.I x' u w' S' F'∧∀ b,F' b→(Fu b∨Fc b)∨w.heap.size≤b
end
end Go.Av
