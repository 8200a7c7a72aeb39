import Derived.Test.YtopepdfipgfakaaGreatDoorEfM
import Derived.Test.YtopepdfipgfakaaGreatDoorEfLay
import Derived.Test.YtopepdfipgfakaaGreatDoorEfNil
import Derived.Test.YtopepdfipgfakaaGreatDoorAvE
import Derived.Shelf.Bytes.SlCountOne
import Derived.Lib.IndexEntry
import Derived.Laws.Externs
import Derived.KernelRfl
import Derived.WalkSmall
namespace Go.Av
set_option linter.unusedVariables false
set_option linter.unusedSimpArgs false
open Go.Proofs Go.RowKit
def glm (m0:Int):Nat→Option (Sigma Den):=fun g=>if g=0 then some ⟨.int .i64,m0⟩ else none
def Gm (m0:Int) (w:World) (S:qa):Prop:=GlOk (glm m0) w S
def G (w:World) (S:qa):Prop:=∃ m0,Gm m0 w S
theorem qHM (m0:Int):Stays (Gm m0):=fun _ _ _ _ hk h=>h.keeps hk
theorem G_stays:Stays G:=fun w S w' S' hk ⟨m,h⟩=>⟨m,qHM m w S w' S' hk h⟩
theorem args2 {w:World} {S:qa} {vals:List Value} {x y:AV} (h:qae w S vals [x,y]):∃ u v,vals=[u,v]∧Rd w S u x∧Rd w S v y:=by
 match vals,h with
 | [],h=>cases h.1
 | [_],h=>cases h.1
 | [u,v],h=>exact ⟨u,v,rfl,h.2 0 u x rfl rfl,h.2 1 v y rfl rfl⟩
 | _ :: _ :: _ :: _,h=>have:=h.1; simp at this
theorem args1 {w:World} {S:qa} {vals:List Value} {x:AV} (h:qae w S vals [x]):∃ u,vals=[u]∧Rd w S u x:=by
 match vals,h with
 | [],h=>cases h.1
 | [u],h=>exact ⟨u,rfl,h.2 0 u x rfl rfl⟩
 | _ :: _ :: _,h=>have:=h.1; simp at this
theorem qfT {w:World} {S:qa} (h:∀ b o,S b o→b < w.heap.size):Grew w S w S:=⟨Below.refl _ _,fun _ _ _=>Iff.rfl,h⟩
theorem qrK {n:Nat→Prop} {w:World} {S:qa} {k:IntKind} {i:Int}:ResRd n w S (.int k i) (.int k i):=⟨qbg _ _ _ _,fun s x e=>(by cases e),fun s p e=>(by cases e),fun l te e=>(by cases e)⟩
theorem qtw {P:Program} {f:FuncId} {fn:Func} (hf:P.funcs[f]? = some fn) (hname:(fn.name == "runtime.NumGoroutine")=false) (hb:fn.body.isNone=true) (hn:Extern.findNext fn=none)
 (he:Extern.find fn=some Extern.BytealgIndexByte.indexByte) {w:World} {S:qa} (hS:∀ b o,S b o→b < w.heap.size) {vals:List Value} {a:List UInt8} {c:UInt8} {oa oc:Lab} (ha:qae w S vals [.dat .str a oa,.dat .byte c oc]) :
 Ran P f vals.toArray w fun v w'=>∃ S',Grew w S w' S'∧ResRd (· < w.heap.size) w' S' v (.int .i64 (Lib.indexByte a c)):=by
 obtain ⟨u,v,rfl,h1,h2⟩:=args2 ha
 obtain ⟨b,rfl,rfl⟩:=qbE h1
 obtain rfl:=qaW h2
 refine .inr ⟨.int .i64 (Lib.indexByte b.data.toList c),w,?_,S,qfT hS,qrK⟩
 rw [run_callFunc_extern hf hname hb hn he]
 show ((Extern.BytealgIndexByte.indexByte #[.string b,.int .u8 (c.toNat:Nat)]).run P w).andThen _=_
 rw [Lib.run_indexByteString]
 simp [Result.andThen]
theorem qEI {w w':World} {S:qa} (hS:∀ b o,S b o→b < w.heap.size) {p:List UInt8} {te:TypeId} {v:Value} (hB:Below w.heap.size w w')
 (ho:w'.ownsRow w.heap.size te 1 v p.length (p.map fun c=>Value.int .u8 (c.toNat:Nat))) :
 ∃ S',Grew w S w' S'∧ResRd (· < w.heap.size) w' S' v (.dat (.sl .byte) p (some (0,te))):=by
 let S':qa:=fun b o=>S b o∨(v.ownBlock=some b∧o < p.length)
 have hch:∀ l:List UInt8,qd (RdC w' S' .byte) l (l.map fun c=>Value.int .u8 (c.toNat:Nat)):=fun l=>by
  induction l with
  | nil=>rfl
  | cons c l ih=>exact ⟨[_],_,rfl,rfl,ih⟩
 have hnew:∀ b,v.ownBlock=some b→w.heap.size≤b∧b < w'.heap.size:=fun b hb=>ho.lt b hb
 refine ⟨S',⟨hB,fun b o hb=>⟨fun hh=>hh.elim id (fun hh=>by have:=(hnew b hh.1).1; omega),.inl⟩,fun b o hh=>hh.elim (fun hh=>Nat.lt_of_lt_of_le (hS b o hh) hB.size) (fun hh=>(hnew b hh.1).2)⟩,?_⟩
 refine ⟨?_,fun s x e=>(by cases e),fun s q e=>(by cases e),fun l te' e=>?_⟩
 ·rcases ho.2 with ⟨rfl,h0⟩ | ⟨g,cap,cur,rfl,h1,h2,h3,h4,h5,h6⟩
  ·have:p=[]:=List.eq_nil_of_length_eq_zero h0
   subst this
   exact .dat _ _ _ _ ⟨none,0,[],rfl,Nat.le_refl _,rfl,fun h=>absurd rfl h⟩
  ·refine .dat _ _ _ _ ⟨some ⟨g,0,none⟩,cap,_,rfl,h3,hch p,fun _=>⟨⟨g,0,none⟩,rfl,rfl,fun i u hu=>⟨.inr ⟨rfl,?_⟩,?_⟩⟩⟩
   ·have:=(List.getElem?_eq_some_iff.1 hu).1
    rw [List.length_map] at this
    show 0+i < p.length
    omega
   ·have hi:=(List.getElem?_eq_some_iff.1 hu).1
    rw [List.length_map] at hi
    rw [← h6,Nat.mul_one,List.getElem?_take_of_lt hi,Array.getElem?_toList] at hu
    simp only [World.cell?,h2,Option.isSome_none,Bool.false_eq_true,if_false]
    rw [show 0+i=i by omega]
    exact hu
 ·simp only [AV.lab,Option.some.injEq,Prod.mk.injEq] at e
  obtain ⟨rfl,rfl⟩:=e
  refine ⟨.byte,p,rfl,_,⟨ho.1,?_⟩,hch p,fun b hb o=>?_,fun b hb=>by have:=(hnew b hb).1; omega⟩
  ·rcases ho.2 with h | ⟨g,cap,cur,rfl,h1,h2⟩
   ·exact .inl h
   ·exact .inr ⟨g,cap,cur,rfl,Nat.zero_le _,h2⟩
  ·constructor
   ·rintro (hh | hh)
    ·have:=hS b o hh
     have:=(hnew b hb).1
     omega
    ·simpa [Sh.size] using hh.2
   ·intro hh
    exact .inr ⟨hb,by simpa [Sh.size] using hh⟩
theorem qzi (p:List UInt8):Lib.bytesOf (p.map fun c=>(c.toNat:Int))=p:=by
 unfold Lib.bytesOf
 rw [List.map_map]
 conv=>rhs; rw [← List.map_id p]
 apply List.map_congr_left
 intro c _
 simp
theorem qkL {w:World} {S:qa} {p:List UInt8} {o:Lab} {v:Value} (h:Rd w S v (.dat (.sl .byte) p o)):∃ A cap,v=.slice A p.length cap∧p.length≤cap∧(A=none→p=[]) ∧
 ∀ ad,A=some ad→∀ i,i < p.length→w.cell? (ad.add i)=some (.int .u8 ((p.map fun c=>(c.toNat:Int)).getD i 0)):=by
 obtain ⟨A,cap,cs,ev,hcap,hch,hm⟩:=rd_sl h
 have hcs:=qbq hch
 refine ⟨A,cap,ev,hcap,fun hA=>?_,fun ad hA i hi=>?_⟩
 ·cases p with
  | nil=>rfl
  | cons c r=>obtain ⟨ad,e,_⟩:=hm (by rw [hcs]; simp); rw [hA] at e; cases e
 ·obtain ⟨ad',e,hmem⟩:=hm (by rw [hcs]; rintro e; have:=congrArg List.length e; rw [List.length_map] at this; simp only [List.length_nil] at this; omega)
  rw [hA] at e
  cases e
  rw [qcN ad i hmem.1]
  have:=(hmem.2 i (.int .u8 (p[i].toNat:Nat)) (by rw [hcs,List.getElem?_map,List.getElem?_eq_getElem hi]; rfl)).2
  rw [this]
  simp [List.getD,List.getElem?_map,List.getElem?_eq_getElem hi]
theorem qzj {w:World} {S:qa} (hS:∀ b o,S b o→b < w.heap.size) {vals:List Value} {p:List UInt8} {o:Lab} (ha:qae w S vals [.dat (.sl .byte) p o]) (hp:p.length≤1048576) :
 Ran Tryz.prog 38 vals.toArray w fun v w'=>∃ S',Grew w S w' S'∧ResRd (· < w.heap.size) w' S' v (.dat (.sl .byte) p (some (0,5))):=by
 obtain ⟨u,rfl,h1⟩:=args1 ha
 obtain ⟨A,cap,cs,ev,hcap,hch,hm⟩:=rd_sl h1
 have hcs:=qbq hch
 subst ev
 have hent:(callFunc 38 #[.slice A (List.length p) cap]).run Tryz.prog w=.ok (.enter 38 #[.slice A (List.length p) cap]) w:=enters_of (c:=Tryz.f38.body.getD .skip) Tryz.func38 (by kernel_rfl) (by kernel_rfl) _ _
 cases A with
 | none =>
  have hp0:p=[]:=by
   cases p with
   | nil=>rfl
   | cons c r=>obtain ⟨ad,e,_⟩:=hm (by rw [hcs]; simp); cases e
  subst hp0
  refine .inl ⟨hent,(Any.bytes_Clone_nil Tryz.laysSlK4 _ cap w).mono ?_⟩
  rintro e w' ⟨rfl,rfl⟩
  exact ⟨_,rfl,qEI hS (Below.refl _ _) ⟨rfl,.inl ⟨rfl,rfl⟩⟩⟩
 | some ad =>
  have hcell:∀ i,i < List.length p→w.cell? (ad.add i)=some (.int .u8 ((p.map fun c=>(c.toNat:Int)).getD i 0)):=fun i hi=>by
   obtain ⟨ad',e,hmem⟩:=hm (by rw [hcs]; rintro e; have:=congrArg List.length e; rw [List.length_map] at this; simp only [List.length_nil] at this; omega)
   cases e
   rw [qcN ad i hmem.1]
   have:=(hmem.2 i (.int .u8 (p[i].toNat:Nat)) (by rw [hcs,List.getElem?_map,List.getElem?_eq_getElem hi]; rfl)).2
   rw [this]
   simp [List.getD,List.getElem?_map,List.getElem?_eq_getElem hi]
  refine .inl ⟨hent,(Any.bytes_Clone_at Tryz.laysSlK4 ad (List.length p) cap (p.map fun c=>(c.toNat:Int)) w (by simp) (by omega) hcell).mono ?_⟩
  rintro e w' ⟨v',rfl,ho,_,hB⟩
  refine ⟨v',rfl,qEI hS hB ?_⟩
  rw [List.map_map] at ho
  exact ho
end Go.Av
