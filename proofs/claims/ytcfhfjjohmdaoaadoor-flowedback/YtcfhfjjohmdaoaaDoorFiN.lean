import Derived.Test.YtcfhfjjohmdaoaaDoorFiM
import Derived.Test.YtcfhfjjohmdaoaaDoorFiLay
import Derived.Test.YtcfhfjjohmdaoaaDoorFiNil
import Derived.Lib.IndexEntry
import Derived.Laws.Externs
import Derived.KernelRfl
import Derived.WalkSmall
namespace Go.Av
set_option linter.unusedVariables false
set_option linter.unusedSimpArgs false
open Go.Proofs Go.RowKit
def qjD (w:World) (S:qa):Prop :=
 (∀ c,c < 256→S 1 c∧w.cell? ⟨1,c,none⟩=some (.int .u8 (Lib.firstT c))) ∧
 (∀ i,i < 16→(S 2 (2*i)∧w.cell? ⟨2,2*i,none⟩=some (.int .u8 (Lib.accLo i)))∧(S 2 (2*i+1)∧w.cell? ⟨2,2*i+1,none⟩=some (.int .u8 (Lib.accHi i))))
theorem qjD.keeps {w w':World} {S S':qa} (h:qjD w S) (hk:Keeps w S w' S'):qjD w' S' :=
 ⟨fun c hc=>⟨(hk _ _ (h.1 c hc).1).1,(hk _ _ (h.1 c hc).1).2.trans (h.1 c hc).2⟩,
  fun i hi=>⟨⟨(hk _ _ (h.2 i hi).1.1).1,(hk _ _ (h.2 i hi).1.1).2.trans (h.2 i hi).1.2⟩,(hk _ _ (h.2 i hi).2.1).1,(hk _ _ (h.2 i hi).2.1).2.trans (h.2 i hi).2.2⟩⟩
theorem qjD.tabs {w:World} {S:qa} (h:qjD w S):Lib.Utf8Tabs 1 2 w:=⟨fun c hc=>(h.1 c hc).2,fun i hi=>⟨(h.2 i hi).1.2,(h.2 i hi).2.2⟩⟩
def glm (m0:Int):Nat→Option (Sigma Den):=fun g=>if g=0 then some ⟨.int .i64,m0⟩ else none
def Gm (m0:Int) (w:World) (S:qa):Prop:=qjD w S∧GlOk (glm m0) w S
def G (w:World) (S:qa):Prop:=∃ m0,Gm m0 w S
theorem qpQ (m0:Int):Stays (Gm m0):=fun _ _ _ _ hk h=>⟨h.1.keeps hk,h.2.keeps hk⟩
theorem G_stays:Stays G:=fun w S w' S' hk ⟨m,h⟩=>⟨m,qpQ m w S w' S' hk h⟩
theorem G_of (m0:Int) {w:World} {S:qa} (h:Gm m0 w S):G w S:=⟨m0,h⟩
theorem G_to {w:World} {S:qa} (h:G w S):∃ m0,Gm m0 w S:=h
theorem qjE (w:World) (S:qa) (_:G w S):GlOk (fun _=>none) w S:=fun g s x h=>by cases h
theorem args2 {w:World} {S:qa} {vals:List Value} {x y:AV} (h:qav w S vals [x,y]):∃ u v,vals=[u,v]∧Rd w S u x∧Rd w S v y:=by
 match vals,h with
 | [],h=>cases h.1
 | [_],h=>cases h.1
 | [u,v],h=>exact ⟨u,v,rfl,h.2 0 u x rfl rfl,h.2 1 v y rfl rfl⟩
 | _ :: _ :: _ :: _,h=>have:=h.1; simp at this
theorem args1 {w:World} {S:qa} {vals:List Value} {x:AV} (h:qav w S vals [x]):∃ u,vals=[u]∧Rd w S u x:=by
 match vals,h with
 | [],h=>cases h.1
 | [u],h=>exact ⟨u,rfl,h.2 0 u x rfl rfl⟩
 | _ :: _ :: _,h=>have:=h.1; simp at this
theorem qcz {w:World} {S:qa} (h:∀ b o,S b o→b < w.heap.size):Grew w S w S:=⟨Below.refl _ _,fun _ _ _=>Iff.rfl,h⟩
theorem qbO {n:Nat→Prop} {w:World} {S:qa} {k:IntKind} {i:Int}:ResRd n w S (.int k i) (.int k i):=⟨qaR _ _ _ _,fun s x e=>(by cases e),fun s p e=>(by cases e),fun l te e=>(by cases e)⟩
theorem qnI {P:Program} {f:FuncId} {fn:Func} (hf:P.funcs[f]? = some fn) (hname:(fn.name == "runtime.NumGoroutine")=false) (hb:fn.body.isNone=true) (hn:Extern.findNext fn=none)
 (he:Extern.find fn=some Extern.BytealgIndexByte.indexByte) {w:World} {S:qa} (hS:∀ b o,S b o→b < w.heap.size) {vals:List Value} {a:List UInt8} {c:UInt8} {oa oc:Lab} (ha:qav w S vals [df a oa,.dat .byte c oc]) :
 Ran P f vals.toArray w fun v w'=>∃ S',Grew w S w' S'∧ResRd (· < w.heap.size) w' S' v (.int .i64 (Lib.indexByte a c)):=by
 obtain ⟨u,v,rfl,h1,h2⟩:=args2 ha;obtain ⟨b,rfl,rfl⟩:=qbo h1;obtain rfl:=qbb h2;refine .inr ⟨.int .i64 (Lib.indexByte b.data.toList c),w,?_,S,qcz hS,qbO⟩;rw [run_callFunc_extern hf hname hb hn he];show ((Extern.BytealgIndexByte.indexByte #[.string b,.int .u8 (c.toNat:Nat)]).run P w).andThen _=_;rw [Lib.run_indexByteString];simp [Result.andThen]
theorem qnJ {P:Program} {f:FuncId} {fn:Func} (hf:P.funcs[f]? = some fn) (hname:(fn.name == "runtime.NumGoroutine")=false) (hb:fn.body.isNone=true) (hn:Extern.findNext fn=none)
 (he:Extern.find fn=some Extern.BytealgIndex.index) {g:Nat} {m:Int} (hg:P.globals.findIdx? (·.name == "internal/bytealg.MaxLen")=some g) {w:World} {S:qa} (hm:w.cell? ⟨g,0,none⟩=some (.int .i64 m))
 (hS:∀ b o,S b o→b < w.heap.size) {vals:List Value} {a b:List UInt8} {oa oc:Lab} (ha:qav w S vals [df a oa,df b oc]) (h2:2≤b.length) (h3:(b.length:Int)≤m) (h4:a.length≤1048576) :
 Ran P f vals.toArray w fun v w'=>∃ S',Grew w S w' S'∧ResRd (· < w.heap.size) w' S' v (.int .i64 (Lib.index a b)):=by
 obtain ⟨u,v,rfl,h1,h5⟩:=args2 ha;obtain ⟨x,rfl,rfl⟩:=qbo h1;obtain ⟨y,rfl,rfl⟩:=qbo h5;refine .inr ⟨.int .i64 (Lib.index x.data.toList y.data.toList),w,?_,S,qcz hS,qbO⟩;rw [run_callFunc_extern hf hname hb hn he];show ((Extern.BytealgIndex.index #[.string x,.string y]).run P w).andThen _=_;rw [Lib.run_indexString x y w g m hg hm (by rw [Lib.size_eq]; exact h2) (by rw [Lib.size_eq]; exact h3) (by rw [Lib.size_eq]; omega)];simp [Result.andThen]
theorem qlf {P:Program} {f:FuncId} {fn:Func} {c:Code} (hf:P.funcs[f]? = some fn) (hb:fn.body=some c) (hname:(fn.name == "runtime.NumGoroutine")=false) {w:World} {S:qa} (hS:∀ b o,S b o→b < w.heap.size)
 {vals:Array Value} {v:Value} {r:AV} (h:Calls P f vals w fun e w'=>e=.returned v∧Below w.heap.size w w') (hr:∀ w',Below w.heap.size w w'→ResRd (· < w.heap.size) w' S v r) :
 Ran P f vals w fun v w'=>∃ S',Grew w S w' S'∧ResRd (· < w.heap.size) w' S' v r:=by
 refine .inl ⟨?_,h.mono fun e w' ⟨he,hB⟩=>⟨v,he,S,⟨hB,fun _ _ _=>Iff.rfl,fun b o hs=>yH (hS b o hs) hB.size⟩,hr w' hB⟩⟩;unfold callFunc;rw [yh];have hname':¬ fn.name = "runtime.NumGoroutine" := by simpa using hname
 simp [program,Sem.run,hf,hname',hb]
theorem qpR {w w':World} {S:qa} (hS:∀ b o,S b o→b < w.heap.size) {p:List UInt8} {te:TypeId} {v:Value} (hB:Below w.heap.size w w')
 (ho:w'.ownsRow w.heap.size te 1 v p.length (p.map fun c=>Value.int .u8 (c.toNat:Nat))) :
 ∃ S',Grew w S w' S'∧ResRd (· < w.heap.size) w' S' v (db p (some (0,te))):=by
 let S':qa:=fun b o=>S b o∨(v.ownBlock=some b∧o < p.length)
 have hch:∀ l:List UInt8,qc (RdC w' S' .byte) l (l.map fun c=>Value.int .u8 (c.toNat:Nat)):=fun l=>by
  induction l with
  | nil=>rfl
  | cons c l ih=>exact ⟨[_],_,rfl,rfl,ih⟩
 have hnew:∀ b,v.ownBlock=some b→w.heap.size≤b∧b < w'.heap.size:=fun b hb=>ho.lt b hb;refine ⟨S',⟨hB,fun b o hb=>⟨fun hh=>hh.elim id (fun hh=>by have:=(hnew b hh.1).1; omega),.inl⟩,fun b o hh=>hh.elim (fun hh=>yH (hS b o hh) hB.size) (fun hh=>(hnew b hh.1).2)⟩,?_⟩;refine ⟨?_,fun s x e=>(by cases e),fun s q e=>(by cases e),fun l te' e=>?_⟩
 ·rcases ho.2 with ⟨rfl,h0⟩ | ⟨g,cap,cur,rfl,h1,h2,h3,h4,h5,h6⟩
  ·have:p=[]:=yF h0;subst this;exact .dat _ _ _ _ ⟨none,0,[],rfl,yv _,rfl,fun h=>absurd rfl h⟩
  ·refine .dat _ _ _ _ ⟨some ⟨g,0,none⟩,cap,_,rfl,h3,hch p,fun _=>⟨⟨g,0,none⟩,rfl,rfl,fun i u hu=>⟨.inr ⟨rfl,?_⟩,?_⟩⟩⟩
   ·have:=(List.getElem?_eq_some_iff.1 hu).1;rw [yP] at this;show 0+i < p.length;omega
   ·have hi:=(List.getElem?_eq_some_iff.1 hu).1;rw [yP] at hi;rw [← h6,Nat.mul_one,List.getElem?_take_of_lt hi,Array.getElem?_toList] at hu;simp only [World.cell?,h2,Option.isSome_none,yq,if_false];rw [show 0+i=i by omega];exact hu
 ·simp only [AV.lab,ya,yb] at e;obtain ⟨rfl,rfl⟩:=e;refine ⟨.byte,p,rfl,_,⟨ho.1,?_⟩,hch p,fun b hb o=>?_,fun b hb=>by have:=(hnew b hb).1; omega⟩
  ·rcases ho.2 with h | ⟨g,cap,cur,rfl,h1,h2⟩
   ·exact .inl h
   ·exact .inr ⟨g,cap,cur,rfl,Nat.zero_le _,h2⟩
  ·constructor
   ·rintro (hh | hh)
    ·have:=hS b o hh;have:=(hnew b hb).1;omega
    ·simpa [Sh.size] using hh.2
   ·intro hh;exact .inr ⟨hb,by simpa [Sh.size] using hh⟩
theorem qnK {w:World} {S:qa} (hG:qjD w S) (hS:∀ b o,S b o→b < w.heap.size) {vals:List Value} {p:List UInt8} {o:Lab} (ha:qav w S vals [db p o]) (hp:0 < p.length) :
 Ran Tryd.prog 109 vals.toArray w fun v w'=>∃ S',Grew w S w' S'∧ResRd (· < w.heap.size) w' S' v (.tup [.dat (.int .i32) (z109 p).1 none,de (z109 p).2 none]):=by
 obtain ⟨u,rfl,h1⟩:=args1 ha;obtain ⟨A,cap,cs,ev,hcap,hch,hm⟩:=rd_sl h1;have hcs:=qbh hch;obtain ⟨ad,rfl,hmem⟩:=hm (by rintro rfl; have e:=congrArg List.length hcs; rw [yP] at e; simp only [List.length_nil] at e; omega);obtain ⟨bb,oo,sp⟩:=ad;have hsp:=hmem.1;simp only at hsp;subst hsp;subst ev
 let s:ByteArray:=⟨(List.toArray p)⟩
 have hsz:s.size=List.length p:=by simp [s,ByteArray.size]
 have hcell:∀ j,j < s.size→w.cell? ⟨bb,oo+j,none⟩=some (.int .u8 (s.get! j).toNat):=fun j hj=>by
  have hj':j < List.length p:=by omega
  have:=(hmem.2 j (.int .u8 (p[j].toNat:Nat)) (by rw [hcs,List.getElem?_map,yO hj']; rfl)).2;rw [this];congr 3;simp [s,ByteArray.get!,hj']
 have hc:=Any7.utf8_DecodeRune Tryd.lays7_32 s bb oo cap w hG.tabs hcell;rw [hsz] at hc;have hd:Lib.decodeGo s=Lib.decodeL p:=by
  unfold Lib.decodeGo;rw [if_neg (by omega)];rfl
 rw [hd] at hc;refine qlf (fn:=Tryd.f109) (c:=Tryd.f109.body.getD .skip) Tryd.func109 (by kernel_rfl) (by kernel_rfl) hS hc (fun w' _=>⟨.tup _ _ (fun i c hi=>.inl ?_) (fun i c hi=>?_),fun s x e=>(by cases e),fun s p e=>(by cases e),fun l te e=>(by cases e)⟩)
 ·have:=(List.getElem?_eq_some_iff.1 hi).1;simpa using this
 ·match i,hi with
  | 0,hi=>simp only [yZ,ya] at hi; subst hi; exact qaR _ _ _ _
  | 1,hi=>simp only [yY,yZ,ya] at hi; subst hi; exact qaR _ _ _ _
  | n+2,hi=>simp at hi
theorem qdO (p:List UInt8):Lib.bytesOf (p.map fun c=>(c.toNat:Int))=p:=by
 unfold Lib.bytesOf;rw [List.map_map];conv=>rhs; rw [← List.map_id p]
 apply List.map_congr_left;intro c _;simp
theorem qjF (p:List UInt8):∀ x∈(p.map fun c=>(c.toNat:Int)),0≤x∧x < 256:=by
 intro x hx;obtain ⟨c,_,rfl⟩:=List.mem_map.1 hx;have:=c.toNat_lt;omega
theorem qif {w:World} {S:qa} {p:List UInt8} {o:Lab} {v:Value} (h:Rd w S v (db p o)):∃ A cap,v=.slice A p.length cap∧p.length≤cap∧(A=none→p=[]) ∧
 ∀ ad,A=some ad→∀ i,i < p.length→w.cell? (ad.add i)=some (.int .u8 ((p.map fun c=>(c.toNat:Int)).getD i 0)):=by
 obtain ⟨A,cap,cs,ev,hcap,hch,hm⟩:=rd_sl h;have hcs:=qbh hch;refine ⟨A,cap,ev,hcap,fun hA=>?_,fun ad hA i hi=>?_⟩
 ·cases p with
  | nil=>rfl
  | cons c r=>obtain ⟨ad,e,_⟩:=hm (by rw [hcs]; simp); rw [hA] at e; cases e
 ·obtain ⟨ad',e,hmem⟩:=hm (by rw [hcs]; rintro e; have:=congrArg List.length e; rw [yP] at this; simp only [List.length_nil] at this; omega);rw [hA] at e;cases e;rw [qdh ad i hmem.1];have:=(hmem.2 i (.int .u8 (p[i].toNat:Nat)) (by rw [hcs,List.getElem?_map,yO hi]; rfl)).2;rw [this];simp [List.getD,List.getElem?_map,yO hi]
theorem qeU (k:List UInt8) (hk:k≠[]):Lib.index [] k = -1:=by
 cases k with
 | nil=>exact absurd rfl hk
 | cons c r=>rfl
theorem qpS {m0:Int} {w:World} {S:qa} (hm:w.cell? ⟨0,0,none⟩=some (.int .i64 m0)) (hS:∀ b o,S b o→b < w.heap.size) {vals:List Value} {p q:List UInt8} {o1 o2:Lab}
 (ha:qav w S vals [db p o1,db q o2]) (hp:p.length≤1048576) (hq:q.length≤1048576) (hq2:1≤q.length) :
 Ran Tryd.prog 81 vals.toArray w fun v w'=>∃ S',Grew w S w' S'∧ResRd (· < w.heap.size) w' S' v (.int .i64 (Lib.index p q)):=by
 obtain ⟨u,v,rfl,h1,h2⟩:=args2 ha;obtain ⟨A,cap,rfl,hcap,hA,hcA⟩:=qif h1;obtain ⟨B,cap2,rfl,hcap2,hB,hcB⟩:=qif h2;have hent:(callFunc 81 #[.slice A (List.length p) cap,.slice B (List.length q) cap2]).run Tryd.prog w=.ok (.enter 81 #[.slice A (List.length p) cap,.slice B (List.length q) cap2]) w:=enters_of (c:=Tryd.f81.body.getD .skip) Tryd.func81 (by kernel_rfl) (by kernel_rfl) _ _;cases B with
 | none=>have:=hB rfl; subst this; simp at hq2
 | some b2 =>
  rcases Nat.lt_or_ge 1 q.length with hq3 | hq3
  ·replace hq2:2≤q.length:=hq3
   cases A with
   | none =>
    have hp0:=hA rfl;subst hp0;refine .inl ⟨hent,(Any.bytes_Index_longer Tryd.lays185 none (some b2) 0 cap (List.length q) cap2 w hq2 (by omega) (by omega)).mono ?_⟩;rintro e w' ⟨rfl,rfl⟩;rw [qeU q (by rintro rfl; simp at hq2)];exact ⟨_,rfl,S,qcz hS,qbO⟩
   | some a1 =>
    refine .inl ⟨hent,(Any.bytes_Index_at Tryd.lays185 a1 b2 (List.length p) cap (List.length q) cap2 _ _ m0 w (by simp) (by simp) (qjF p) (qjF q) (hcA a1 rfl) (hcB b2 rfl) hcap (by omega) (by omega) hm).mono ?_⟩;rintro e w' ⟨rfl,n,rfl⟩;rw [qdO,qdO];exact ⟨_,rfl,S,⟨below_drewN (Below.refl _ _) _,fun _ _ _=>Iff.rfl,hS⟩,qbO⟩
  ·have hq1:q.length=1:=by omega
   obtain ⟨c,rfl⟩:=List.length_eq_one_iff.1 hq1;obtain ⟨bb,oo,sp⟩:=b2;have hsp:sp=none:=by
    obtain ⟨A',cap',cs',ev',_,_,hm'⟩:=rd_sl h2;simp only [Value.slice.injEq] at ev';obtain ⟨e1,_,_⟩:=ev';obtain ⟨ad,e2,hmm⟩:=hm' (by rintro rfl; rename_i hch' ; have:=qc.length (RdC.length .byte) hch'; simp [Sh.size] at this);rw [e2] at e1;cases e1;exact hmm.1
   subst hsp;have hc0:=hcB _ rfl 0 (by simp);have hcv:w.cell? ⟨bb,oo,none⟩=some (.int .u8 (c.toNat:Nat)):=by
    rw [qdh _ _ rfl] at hc0;simpa using hc0
   have hx:(c.toNat:Int).toNat.toUInt8=c:=by simp
   have hidx:Lib.index p [c]=Lib.indexByte p c:=Lib.index_one p c;cases A with
   | none =>
    have hp0:=hA rfl;subst hp0;refine .inl ⟨hent,(qlg Tryd.lays185 cap bb oo cap2 _ w hcv).mono ?_⟩;rintro e w' ⟨rfl,rfl⟩;rw [qeU [c] (by simp)];exact ⟨_,rfl,S,qcz hS,qbO⟩
   | some a1 =>
    refine .inl ⟨hent,(Any.bytes_Index_one_at Tryd.lays185 a1 (List.length p) cap bb oo cap2 _ _ w (by simp) (hcA a1 rfl) hcv).mono ?_⟩;rintro e w' ⟨rfl,rfl⟩;rw [qdO,hx,hidx];exact ⟨_,rfl,S,qcz hS,qbO⟩
theorem qpT {w:World} {S:qa} (hS:∀ b o,S b o→b < w.heap.size) {vals:List Value} {p:List UInt8} {o:Lab} (ha:qav w S vals [db p o]) (hp:p.length≤1048576) :
 Ran Tryd.prog 60 vals.toArray w fun v w'=>∃ S',Grew w S w' S'∧ResRd (· < w.heap.size) w' S' v (db p (some (0,5))):=by
 obtain ⟨u,rfl,h1⟩:=args1 ha;obtain ⟨A,cap,cs,ev,hcap,hch,hm⟩:=rd_sl h1;have hcs:=qbh hch;subst ev;have hent:(callFunc 60 #[.slice A (List.length p) cap]).run Tryd.prog w=.ok (.enter 60 #[.slice A (List.length p) cap]) w:=enters_of (c:=Tryd.f60.body.getD .skip) Tryd.func60 (by kernel_rfl) (by kernel_rfl) _ _;cases A with
 | none =>
  have hp0:p=[]:=by
   cases p with
   | nil=>rfl
   | cons c r=>obtain ⟨ad,e,_⟩:=hm (by rw [hcs]; simp); cases e
  subst hp0;refine .inl ⟨hent,(Any.bytes_Clone_nil Tryd.laysSlK4 _ cap w).mono ?_⟩;rintro e w' ⟨rfl,rfl⟩;exact ⟨_,rfl,qpR hS (Below.refl _ _) ⟨rfl,.inl ⟨rfl,rfl⟩⟩⟩
 | some ad =>
  have hcell:∀ i,i < List.length p→w.cell? (ad.add i)=some (.int .u8 ((p.map fun c=>(c.toNat:Int)).getD i 0)):=fun i hi=>by
   obtain ⟨ad',e,hmem⟩:=hm (by rw [hcs]; rintro e; have:=congrArg List.length e; rw [yP] at this; simp only [List.length_nil] at this; omega);cases e;rw [qdh ad i hmem.1];have:=(hmem.2 i (.int .u8 (p[i].toNat:Nat)) (by rw [hcs,List.getElem?_map,yO hi]; rfl)).2;rw [this];simp [List.getD,List.getElem?_map,yO hi]
  refine .inl ⟨hent,(Any.bytes_Clone_at Tryd.laysSlK4 ad (List.length p) cap (p.map fun c=>(c.toNat:Int)) w (by simp) (by omega) hcell).mono ?_⟩;rintro e w' ⟨v',rfl,ho,_,hB⟩;refine ⟨v',rfl,qpR hS hB ?_⟩;rw [List.map_map] at ho;exact ho
end Go.Av
