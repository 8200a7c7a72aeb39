import Derived.Test.YtabdohophompiaaGreatDoorPxM
import Derived.Test.YtabdohophompiaaGreatDoorPxLay
import Derived.Test.YtabdohophompiaaGreatDoorAvE
import Derived.Test.YtabdohophompiaaGreatDoorAvE
import Derived.Lib.IndexEntry
import Derived.Laws.Externs
import Derived.KernelRfl
import Derived.WalkSmall
import Derived.Lib.SlBuf
namespace Go.Proofs
set_option linter.unusedVariables false
set_option linter.unusedSimpArgs false
open Go.Shelf Go.RowKit Go.Lib Go.Av
theorem res_fresh {w w':World} {S:qa} (hS:∀ b o,S b o→b < w.heap.size) {p:List UInt8} {v:Value} (hB:Below w.heap.size w w') (hf:Lib.FreshBytes w.heap.size w' v p) :
 ∃ S',Grew w S w' S'∧ResRd (· < w.heap.size) w' S' v (da p):=by
 obtain ⟨g,cap,zs,rfl,h1,h2,h3,h4,h5,h6,h7,h8⟩:=hf
 let S':qa:=fun b o=>S b o∨(b=g∧o < p.length)
 have hlt:p.length≠0→g < w'.heap.size:=fun hne=>World.block_lt_of_cell? w' ⟨g,0,none⟩ (h7 0 (by omega));have hz:∀ i x,p[i]? = some x→w'.cell? ⟨g,i,none⟩=some (.int .u8 (x.toNat:Int)):=fun i x hi=>by
  have hil:=(List.getElem?_eq_some_iff.1 hi).1;have hzi:zs[i]? = some (zs[i]'(by omega)):=yO (by omega);have hr:=h5 _ (List.getElem_mem (h:=(by omega:i < zs.length)));rw [h7 i (by omega),yX,hzi];have e:p[i]? = (Lib.bytesOf (zs.take p.length))[i]? := by rw [h6]
  unfold Lib.bytesOf at e;rw [List.getElem?_map,List.getElem?_take_of_lt hil,hzi,hi] at e;simp only [yT,ya] at e;subst e;simp only [Option.getD_some];congr 2;have:(UInt8.ofNat (zs[i]'(by omega)).toNat).toNat=(zs[i]'(by omega)).toNat % 256:=rfl;rw [this];omega
 have hch:∀ l:List UInt8,qd (RdC w' S' .byte) l (l.map fun c=>Value.int .u8 (c.toNat:Nat)):=fun l=>by
  induction l with
  | nil=>rfl
  | cons c l ih=>exact ⟨[_],_,rfl,rfl,ih⟩
 refine ⟨S',⟨hB,fun b o hb=>⟨fun hh=>hh.elim id (fun hh=>by have:=hh.1; omega),.inl⟩,fun b o hh=>hh.elim (fun hh=>yH (hS b o hh) hB.size) (fun hh=>by rw [hh.1]; exact hlt (by have:=hh.2; omega))⟩,?_⟩;refine ⟨.dat _ _ _ _ ⟨some ⟨g,0,none⟩,cap,_,rfl,h2,hch p,fun _=>⟨⟨g,0,none⟩,rfl,rfl,fun i u hu=>?_⟩⟩,fun s x e=>(by cases e),fun s q e=>(by cases e),fun l te' e=>(by cases e)⟩;rw [List.getElem?_map] at hu;obtain ⟨x,hx,rfl⟩:=Option.map_eq_some_iff.1 hu;have hil:=(List.getElem?_eq_some_iff.1 hx).1;refine ⟨.inr ⟨rfl,by show 0+i < p.length; omega⟩,?_⟩;show w'.cell? ⟨g,0+i,none⟩=_;rw [yE];exact hz i x hx
end Go.Proofs
namespace Go.Av
open Go.Proofs Go.RowKit
def TabC (g:Nat) (tab:List Nat) (w:World) (S:qa):Prop:=∀ j,j < tab.length→S g j∧w.cell? ⟨g,j,none⟩=some (.int .u8 (tab.getD j 0:Nat))
theorem qsg (g:Nat) (tab:List Nat):Stays (TabC g tab):=fun _ _ _ _ hk h j hj=>⟨(hk _ _ (h j hj).1).1,(hk _ _ (h j hj).1).2.trans (h j hj).2⟩
def G (w:World) (S:qa):Prop:=TabC 2 Lib.deBruijn64tab w S
theorem G_stays:Stays G:=qsg _ _
theorem qfh (w:World) (S:qa) (_:G w S):GlOk (fun _=>none) w S:=fun g s x h=>by cases h
theorem glAny (w:World) (S:qa) (_:Any w S):GlOk (fun _=>none) w S:=fun g s x h=>by cases h
theorem args2 {w:World} {S:qa} {vals:List Value} {x y:AV} (h:qar w S vals [x,y]):∃ u v,vals=[u,v]∧Rd w S u x∧Rd w S v y:=by
 match vals,h with
 | [],h=>cases h.1
 | [_],h=>cases h.1
 | [u,v],h=>exact ⟨u,v,rfl,h.2 0 u x rfl rfl,h.2 1 v y rfl rfl⟩
 | _ :: _ :: _ :: _,h=>have:=h.1; simp at this
theorem args1 {w:World} {S:qa} {vals:List Value} {x:AV} (h:qar w S vals [x]):∃ u,vals=[u]∧Rd w S u x:=by
 match vals,h with
 | [],h=>cases h.1
 | [u],h=>exact ⟨u,rfl,h.2 0 u x rfl rfl⟩
 | _ :: _ :: _,h=>have:=h.1; simp at this
theorem qiM {w:World} {S:qa} (h:∀ b o,S b o→b < w.heap.size):Grew w S w S:=⟨Below.refl _ _,fun _ _ _=>Iff.rfl,h⟩
theorem qnF {n:Nat→Prop} {w:World} {S:qa} {k:IntKind} {i:Int}:ResRd n w S (.int k i) (.int k i):=⟨qbe _ _ _ _,fun s x e=>(by cases e),fun s p e=>(by cases e),fun l te e=>(by cases e)⟩
theorem qpv {P:Program} {f:FuncId} {fn:Func} (hf:P.funcs[f]? = some fn) (hname:(fn.name == "runtime.NumGoroutine")=false) (hb:fn.body.isNone=true) (hn:Extern.findNext fn=none)
 (he:Extern.find fn=some Extern.BytealgIndexByte.indexByte) {w:World} {S:qa} (hS:∀ b o,S b o→b < w.heap.size) {vals:List Value} {a:List UInt8} {c:UInt8} {oa oc:Lab} (ha:qar w S vals [df a oa,dm c oc]) :
 Ran P f vals.toArray w fun v w'=>∃ S',Grew w S w' S'∧ResRd (· < w.heap.size) w' S' v (.int .i64 (Lib.indexByte a c)):=by
 obtain ⟨u,v,rfl,h1,h2⟩:=args2 ha;obtain ⟨b,rfl,rfl⟩:=qbG h1;obtain rfl:=qbj h2;refine .inr ⟨.int .i64 (Lib.indexByte b.data.toList c),w,?_,S,qiM hS,qnF⟩;rw [run_callFunc_extern hf hname hb hn he];show ((Extern.BytealgIndexByte.indexByte #[.string b,.int .u8 (c.toNat:Nat)]).run P w).andThen _=_;rw [Lib.run_indexByteString];simp [Result.andThen]
theorem qsh {w:World} {S:qa} {p:List UInt8} {o:Lab} {v:Value} (h:Rd w S v (db p o)):∃ A cap,v=.slice A p.length cap∧p.length≤cap∧(A=none→p=[]) ∧
 ∀ ad,A=some ad→∀ i,i < p.length→w.cell? (ad.add i)=some (.int .u8 ((p.map fun c=>(c.toNat:Int)).getD i 0)):=by
 obtain ⟨A,cap,cs,ev,hcap,hch,hm⟩:=rd_sl h;have hcs:=qbB hch;refine ⟨A,cap,ev,hcap,fun hA=>?_,fun ad hA i hi=>?_⟩
 ·cases p with
  | nil=>rfl
  | cons c r=>obtain ⟨ad,e,_⟩:=hm (by rw [hcs]; simp); rw [hA] at e; cases e
 ·obtain ⟨ad',e,hmem⟩:=hm (by rw [hcs]; rintro e; have:=congrArg List.length e; rw [yP] at this; simp only [List.length_nil] at this; omega);rw [hA] at e;cases e;rw [qcS ad i hmem.1];have:=(hmem.2 i (.int .u8 (p[i].toNat:Nat)) (by rw [hcs,List.getElem?_map,yO hi]; rfl)).2;rw [this];simp [List.getD,List.getElem?_map,yO hi]
theorem qxQ {w w':World} {S:qa} (hS:∀ b o,S b o→b < w.heap.size) {p:List UInt8} {te:TypeId} {v:Value} (hB:Below w.heap.size w w')
 (ho:w'.ownsRow w.heap.size te 1 v p.length (p.map fun c=>Value.int .u8 (c.toNat:Nat))) :
 ∃ S',Grew w S w' S'∧ResRd (· < w.heap.size) w' S' v (db p (some (0,te))):=by
 let S':qa:=fun b o=>S b o∨(v.ownBlock=some b∧o < p.length)
 have hch:∀ l:List UInt8,qd (RdC w' S' .byte) l (l.map fun c=>Value.int .u8 (c.toNat:Nat)):=fun l=>by
  induction l with
  | nil=>rfl
  | cons c l ih=>exact ⟨[_],_,rfl,rfl,ih⟩
 have hnew:∀ b,v.ownBlock=some b→w.heap.size≤b∧b < w'.heap.size:=fun b hb=>ho.lt b hb;refine ⟨S',⟨hB,fun b o hb=>⟨fun hh=>hh.elim id (fun hh=>by have:=(hnew b hh.1).1; omega),.inl⟩,fun b o hh=>hh.elim (fun hh=>yH (hS b o hh) hB.size) (fun hh=>(hnew b hh.1).2)⟩,?_⟩;refine ⟨?_,fun s x e=>(by cases e),fun s q e=>(by cases e),fun l te' e=>?_⟩
 ·rcases ho.2 with ⟨rfl,h0⟩ | ⟨g,cap,cur,rfl,h1,h2,h3,h4,h5,h6⟩
  ·have:p=[]:=yF h0;subst this;exact .dat _ _ _ _ ⟨none,0,[],rfl,yv _,rfl,fun h=>absurd rfl h⟩
  ·refine .dat _ _ _ _ ⟨some ⟨g,0,none⟩,cap,_,rfl,h3,hch p,fun _=>⟨⟨g,0,none⟩,rfl,rfl,fun i u hu=>⟨.inr ⟨rfl,?_⟩,?_⟩⟩⟩
   ·have:=(List.getElem?_eq_some_iff.1 hu).1;rw [yP] at this;show 0+i < p.length;omega
   ·have hi:=(List.getElem?_eq_some_iff.1 hu).1;rw [yP] at hi;rw [← h6,Nat.mul_one,List.getElem?_take_of_lt hi,Array.getElem?_toList] at hu;simp only [World.cell?,h2,Option.isSome_none,yq,if_false];rw [show 0+i=i by omega];exact hu
 ·simp only [AV.lab,ya,yb] at e;obtain ⟨rfl,rfl⟩:=e;refine ⟨.byte,p,rfl,_,⟨ho.1,?_⟩,hch p,fun b hb o=>?_,fun b hb=>by have:=(hnew b hb).1; omega⟩
  ·rcases ho.2 with h | ⟨g,cap,cur,rfl,h1,h2⟩
   ·exact .inl h
   ·exact .inr ⟨g,cap,cur,rfl,Nat.zero_le _,h2⟩
  ·constructor
   ·rintro (hh | hh)
    ·have:=hS b o hh;have:=(hnew b hb).1;omega
    ·simpa [Sh.size] using hh.2
   ·intro hh;exact .inr ⟨hb,by simpa [Sh.size] using hh⟩
theorem qsi {w:World} {S:qa} (hS:∀ b o,S b o→b < w.heap.size) {vals:List Value} {p:List UInt8} {o:Lab} (ha:qar w S vals [db p o]) (hp:p.length≤1048576) :
 Ran Tryz.prog 53 vals.toArray w fun v w'=>∃ S',Grew w S w' S'∧ResRd (· < w.heap.size) w' S' v (db p (some (0,5))):=by
 obtain ⟨u,rfl,h1⟩:=args1 ha;obtain ⟨A,cap,cs,ev,hcap,hch,hm⟩:=rd_sl h1;have hcs:=qbB hch;subst ev;have hent:(callFunc 53 #[.slice A (List.length p) cap]).run Tryz.prog w=.ok (.enter 53 #[.slice A (List.length p) cap]) w:=enters_of (c:=Tryz.f53.body.getD .skip) Tryz.func53 (by kernel_rfl) (by kernel_rfl) _ _;cases A with
 | none =>
  have hp0:p=[]:=by
   cases p with
   | nil=>rfl
   | cons c r=>obtain ⟨ad,e,_⟩:=hm (by rw [hcs]; simp); cases e
  subst hp0;refine .inl ⟨hent,(Any.bytes_Clone_nil Tryz.laysSlK4 _ cap w).mono ?_⟩;rintro e w' ⟨rfl,rfl⟩;exact ⟨_,rfl,qxQ hS (Below.refl _ _) ⟨rfl,.inl ⟨rfl,rfl⟩⟩⟩
 | some ad =>
  have hcell:∀ i,i < List.length p→w.cell? (ad.add i)=some (.int .u8 ((p.map fun c=>(c.toNat:Int)).getD i 0)):=fun i hi=>by
   obtain ⟨ad',e,hmem⟩:=hm (by rw [hcs]; rintro e; have:=congrArg List.length e; rw [yP] at this; simp only [List.length_nil] at this; omega);cases e;rw [qcS ad i hmem.1];have:=(hmem.2 i (.int .u8 (p[i].toNat:Nat)) (by rw [hcs,List.getElem?_map,yO hi]; rfl)).2;rw [this];simp [List.getD,List.getElem?_map,yO hi]
  refine .inl ⟨hent,(Any.bytes_Clone_at Tryz.laysSlK4 ad (List.length p) cap (p.map fun c=>(c.toNat:Int)) w (by simp) (by omega) hcell).mono ?_⟩;rintro e w' ⟨v',rfl,ho,_,hB⟩;refine ⟨v',rfl,qxQ hS hB ?_⟩;rw [List.map_map] at ho;exact ho
theorem qpw {w:World} {S:qa} (hT:TabC 2 Lib.deBruijn64tab w S) (hS:∀ b o,S b o→b < w.heap.size) {vals:List Value} {x:Int} {o:Lab}
 (ha:qar w S vals [.dat (.int .u64) x o]) (h0:0≤x) (h1:x < 18446744073709551616) :
 Ran Tryz.prog 110 vals.toArray w fun v w'=>∃ S',Grew w S w' S'∧ResRd (· < w.heap.size) w' S' v (.int .i64 (z110 x)):=by
 obtain ⟨u,rfl,h2⟩:=args1 ha;obtain rfl:=qaq h2;obtain ⟨n,rfl⟩:∃ n:Nat,x=n:=⟨x.toNat,by omega⟩;refine .inl ⟨enters_of (c:=Tryz.f110.body.getD .skip) Tryz.func110 (by kernel_rfl) (by kernel_rfl) _ _,(Any7.bits_TrailingZeros64 Tryz.lays7_29 n (by omega) w (fun _ j hj=>(hT j hj).2)).mono ?_⟩;rintro e w' ⟨rfl,rfl⟩;exact ⟨_,rfl,S,qiM hS,by
  have:z110 (n:Int)=((Lib.ctz 64 n:Nat):Int):=by simp [z110]
  rw [this];exact qnF⟩
theorem qzI {w:World} {S:qa} {x:List UInt8} {v:Value} (h:RdC w S (.sl .byte) x [v]):Lib.HoldsBytes w v x:=by
 have h':Rd w S v (da x):=.dat _ _ _ _ (by simpa [RdV,Sh.agg] using h);obtain ⟨A,cap,rfl,_,hA,hc⟩:=qsh h';refine ⟨A,cap,rfl,hA,fun ad e i y hi=>?_⟩;have hil:=(List.getElem?_eq_some_iff.1 hi).1;rw [hc ad e i hil];simp [List.getD,List.getElem?_map,hi]
theorem qsj {w:World} {S:qa}:∀ (l:List (List UInt8)) (cs:List Value),qd (RdC w S (.sl .byte)) l cs→cs.length=l.length∧∀ (i:Nat) v x,cs[i]? = some v→l[i]? = some x→Lib.HoldsBytes w v x
 | [],cs,h=>by
  have:cs=[]:=h;subst this;exact ⟨rfl,fun i v x h=>by simp at h⟩
 | y :: l,cs,h=>by
  obtain ⟨v1,v2,rfl,h1,h2⟩:=h;have h1':=h1;obtain ⟨A,cap,cs',e,_,_⟩:=h1';subst e;obtain ⟨k1,k2⟩:=qsj l v2 h2;refine ⟨by simp [k1],fun i v x hv hx=>?_⟩;match i,hv,hx with
  | 0,hv,hx =>
   simp only [List.singleton_append,yZ,ya] at hv hx;subst hv hx;exact qzI h1
  | i+1,hv,hx =>
   simp only [List.singleton_append,yY] at hv hx;exact k2 i v x hv hx
theorem qsk (sep:List UInt8):∀ l:List (List UInt8),joinB sep l=Lib.join l sep
 | []=>rfl
 | [a]=>by simp [joinB,Lib.join_one]
 | a :: b :: l=>by
  rw [Lib.join_cons];have:=qsk sep (b :: l);rw [Lib.join_cons] at this;simp [joinB,this,Lib.joinTail]
theorem qxR (m:Nat):∀ l:List (List UInt8),(∀ s∈l,s.length≤m)→Lib.lens l≤m*l.length
 | [],_=>by simp [Lib.lens]
 | a :: l,h=>by
  have h1:=qxR m l (fun s hs=>h s (List.mem_cons_of_mem _ hs));have h2:=h a List.mem_cons_self;have:Lib.lens (a :: l)=a.length+Lib.lens l:=by simp [Lib.lens]
  rw [this,yg,Nat.mul_succ];omega
theorem qsl {w:World} {S:qa} (hS:∀ b o,S b o→b < w.heap.size) {vals:List Value} {l:List (List UInt8)} {sep:List UInt8} {o1 o2:Lab}
 (ha:qar w S vals [.dat (.sl (.sl .byte)) l o1,db sep o2]) (hok:qoF l sep=true) :
 Ran Tryz.prog 30 vals.toArray w fun v w'=>∃ S',Grew w S w' S'∧ResRd (· < w.heap.size) w' S' v (db (z30 l sep) none):=by
 unfold qoF at hok;simp only [yf,ym,List.all_eq_true] at hok;obtain ⟨hn,hsep,hl⟩:=hok;have hsl:=qp hsep;obtain ⟨u,v,rfl,h1,h2⟩:=args2 ha;obtain ⟨A,cap,cs,rfl,hcap,hch,hm⟩:=rd_sl h1;obtain ⟨B,cap2,rfl,_,hB,hcB⟩:=qsh h2;have hent:∀ a b,(callFunc 30 #[a,b]).run Tryz.prog w=.ok (.enter 30 #[a,b]) w:=fun a b=>enters_of (c:=Tryz.f30.body.getD .skip) Tryz.func30 (by kernel_rfl) (by kernel_rfl) _ _;obtain ⟨hcl,hpc⟩:=qsj l cs hch;match l,hcap,hch,hm,hn,hl,hcl,hpc with
 | [],hcap,hch,hm,hn,hl,hcl,hpc =>
  refine .inl ⟨hent _ _,(Any.bytes_Join_none Tryz.laysSlJ14 A cap _ w).mono ?_⟩;rintro e w' ⟨rfl,rfl⟩;refine ⟨_,rfl,Go.Proofs.res_fresh hS (qx w _) ⟨w.heap.size,0,[],rfl,yv _,yv _,by decide,rfl,by simp,rfl,by simp,by simp⟩⟩
 | x :: l,hcap,hch,hm,hn,hl,hcl,hpc =>
  obtain ⟨ad,rfl,hmem⟩:=hm (by rintro rfl; simp at hcl);have had:∀ i,ad.add i=⟨ad.block,ad.off+i,none⟩:=fun i=>qcS ad i hmem.1;have hadd:ad=⟨ad.block,ad.off,none⟩:=by
   obtain ⟨b,o,s⟩:=ad;have:=hmem.1;simp only at this;subst this;rfl
  have hP:Lib.PartsAt w ⟨ad.block,ad.off,none⟩ cs (x :: l):=⟨hcl,fun i v hi=>by rw [← hadd,had]; exact (hmem.2 i v hi).2,hpc⟩;match l,hcap,hch,hn,hl,hcl,hpc,hP with
  | [],hcap,hch,hn,hl,hcl,hpc,hP =>
   obtain ⟨p0,c0,y,hy,hcell,hp0,hc⟩:=Lib.PartsAt.get hP 0 (by simp);simp only [yZ,ya] at hy;subst hy;have hx75:=hl x (by simp);have e0:(⟨ad.block,ad.off,none⟩:Addr).add 0=⟨ad.block,ad.off,none⟩:=Lib.add_plain2 _ _ 0;rw [e0] at hcell;rw [hadd];rcases Nat.eq_zero_or_pos x.length with h0 | h0
   ·have hx:x=[]:=yF h0;subst hx;refine .inl ⟨hent _ _,(Any.bytes_Join_one_empty Tryz.laysSlJ14 ad.block ad.off cap p0 c0 _ w hcell).mono ?_⟩;rintro e w' ⟨rfl,rfl⟩;exact ⟨_,rfl,S,qiM hS,⟨.dat _ _ _ _ ⟨none,0,[],rfl,yv _,rfl,fun h=>absurd rfl h⟩,fun s x e=>(by cases e),fun s p e=>(by cases e),fun l te e=>(by cases e)⟩⟩
   ·cases p0 with
    | none=>have:=hp0 rfl; subst this; simp at h0
    | some ad0 =>
     refine .inl ⟨hent _ _,(Any.bytes_Join_one Tryz.laysSlJ14 ad.block ad.off cap ad0 c0 x _ w hcell (hc ad0 rfl) h0 (by omega)).mono ?_⟩;rintro e w' ⟨v,rfl,hf,hb⟩;exact ⟨v,rfl,Go.Proofs.res_fresh hS hb hf⟩
  | y :: l,hcap,hch,hn,hl,hcl,hpc,hP =>
   rw [hadd];have hlens:=qxR 75 (x :: y :: l) hl;have hmul:sep.length*((x :: y :: l).length - 1)≤1048576*65536:=Nat.mul_le_mul hsl (by omega);refine .inl ⟨hent _ _,(Any.bytes_Join_many Tryz.laysSlJ14 ad.block ad.off (x :: y :: l).length cap cs (x :: y :: l) _ sep w rfl (by simp) hP hcap ⟨B,cap2,rfl,hB,fun a e i z hi=>?_⟩ (by omega) (by omega)).mono ?_⟩
   ·have hil:=(List.getElem?_eq_some_iff.1 hi).1;rw [hcB a e i hil];simp [List.getD,List.getElem?_map,hi]
   ·rintro e w' ⟨v,rfl,hf,hb⟩;refine ⟨v,rfl,?_⟩;rw [← qsk] at hf;exact Go.Proofs.res_fresh hS hb hf
end Go.Av
