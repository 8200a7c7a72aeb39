import Derived.Test.YtmageajchmoomaaGreatDoorCtA
import Derived.Test.YtmageajchmoomaaGreatDoorProg
import Derived.Maps.OwnSet
import Derived.Maps.AppendAt
import Derived.WalkKit
import Derived.Shelf.Bytes.SlClone
import Derived.Test.YtmageajchmoomaaGreatDoorAvE
import Derived.Test.YtmageajchmoomaaGreatDoorAvE
import Derived.Lib.IndexEntry
import Derived.Laws.Externs
import Derived.KernelRfl
import Derived.WalkSmall
import Derived.Lib.SlBuf
section
namespace Go.Av
set_option linter.unusedVariables false
set_option linter.unusedSimpArgs false
open Go.Proofs Go.RowKit
def G (_:World) (_:qb):Prop:=True
theorem G_stays:Stays G:=fun _ _ _ _ _ _=>trivial
theorem qj (w:World) (S:qb) (_:G w S):GlOk (fun _=>none) w S:=fun g s x h=>by cases h
theorem args2 {w:World} {S:qb} {vals:List Value} {x y:AV} (h:qac w S vals [x,y]):∃ u v,vals=[u,v]∧Rd w S u x∧Rd w S v y:=by
 match vals,h with
 | [],h=>cases h.1
 | [_],h=>cases h.1
 | [u,v],h=>exact ⟨u,v,rfl,h.2 0 u x rfl rfl,h.2 1 v y rfl rfl⟩
 | _ :: _ :: _ :: _,h=>have:=h.1; simp at this
theorem args1 {w:World} {S:qb} {vals:List Value} {x:AV} (h:qac w S vals [x]):∃ u,vals=[u]∧Rd w S u x:=by
 match vals,h with
 | [],h=>cases h.1
 | [u],h=>exact ⟨u,rfl,h.2 0 u x rfl rfl⟩
 | _ :: _ :: _,h=>have:=h.1; simp at this
theorem qhI {w:World} {S:qb} (h:∀ b o,S b o→b < w.heap.size):Grew w S w S:=⟨Below.refl _ _,fun _ _ _=>Iff.rfl,h⟩
theorem qfd {n:Nat→Prop} {w:World} {S:qb} {k:IntKind} {i:Int}:ResRd n w S (.int k i) (.int k i):=⟨qaG _ _ _ _,fun s x e=>(by cases e),fun s p e=>(by cases e),fun l te e=>(by cases e)⟩
theorem qip {P:Program} {f:FuncId} {fn:Func} (hf:P.funcs[f]? = some fn) (hname:(fn.name == "runtime.NumGoroutine")=false) (hb:fn.body.isNone=true) (hn:Extern.findNext fn=none)
 (he:Extern.find fn=some Extern.BytealgIndexByte.indexByte) {w:World} {S:qb} (hS:∀ b o,S b o→b < w.heap.size) {vals:List Value} {a:List UInt8} {c:UInt8} {oa oc:Lab} (ha:qac w S vals [.dat .str a oa,.dat .byte c oc]) :
 Ran P f vals.toArray w fun v w'=>∃ S',Grew w S w' S'∧ResRd (· < w.heap.size) w' S' v (.int .i64 (Lib.indexByte a c)):=by
 obtain ⟨u,v,rfl,h1,h2⟩:=args2 ha;obtain ⟨b,rfl,rfl⟩:=qbc h1;obtain rfl:=qaz h2;refine .inr ⟨.int .i64 (Lib.indexByte b.data.toList c),w,?_,S,qhI hS,qfd⟩;rw [run_callFunc_extern hf hname hb hn he];show ((Extern.BytealgIndexByte.indexByte #[.string b,.int .u8 (c.toNat:Nat)]).run P w).andThen _=_;rw [Lib.run_indexByteString];simp [Result.andThen]
theorem qgH {w:World} {S:qb} {p:List UInt8} {o:Lab} {v:Value} (h:Rd w S v (da p o)):∃ A cap,v=.slice A p.length cap∧p.length≤cap∧(A=none→p=[]) ∧
 ∀ ad,A=some ad→∀ i,i < p.length→w.cell? (ad.add i)=some (.int .u8 ((p.map fun c=>(c.toNat:Int)).getD i 0)):=by
 obtain ⟨A,cap,cs,ev,hcap,hch,hm⟩:=rd_sl h;have hcs:=qaD hch;refine ⟨A,cap,ev,hcap,fun hA=>?_,fun ad hA i hi=>?_⟩
 ·cases p with
  | nil=>rfl
  | cons c r=>obtain ⟨ad,e,_⟩:=hm (by rw [hcs]; simp); rw [hA] at e; cases e
 ·obtain ⟨ad',e,hmem⟩:=hm (by rw [hcs]; rintro e; have:=congrArg List.length e; rw [yO] at this; simp only [List.length_nil] at this; omega);rw [hA] at e;cases e;rw [qbA ad i hmem.1];have:=(hmem.2 i (.int .u8 (p[i].toNat:Nat)) (by rw [hcs,List.getElem?_map,yN hi]; rfl)).2;rw [this];simp [List.getD,List.getElem?_map,yN hi]
theorem qhJ {w w':World} {S:qb} (hS:∀ b o,S b o→b < w.heap.size) {p:List UInt8} {te:TypeId} {v:Value} (hB:Below w.heap.size w w')
 (ho:w'.ownsRow w.heap.size te 1 v p.length (p.map fun c=>Value.int .u8 (c.toNat:Nat))) :
 ∃ S',Grew w S w' S'∧ResRd (· < w.heap.size) w' S' v (da p (some (0,te))):=by
 let S':qb:=fun b o=>S b o∨(v.ownBlock=some b∧o < p.length)
 have hch:∀ l:List UInt8,qf (RdC w' S' .byte) l (l.map fun c=>Value.int .u8 (c.toNat:Nat)):=fun l=>by
  induction l with
  | nil=>rfl
  | cons c l ih=>exact ⟨[_],_,rfl,rfl,ih⟩
 have hnew:∀ b,v.ownBlock=some b→w.heap.size≤b∧b < w'.heap.size:=fun b hb=>ho.lt b hb;refine ⟨S',⟨hB,fun b o hb=>⟨fun hh=>hh.elim id (fun hh=>by have:=(hnew b hh.1).1; omega),.inl⟩,fun b o hh=>hh.elim (fun hh=>yG (hS b o hh) hB.size) (fun hh=>(hnew b hh.1).2)⟩,?_⟩;refine ⟨?_,fun s x e=>(by cases e),fun s q e=>(by cases e),fun l te' e=>?_⟩
 ·rcases ho.2 with ⟨rfl,h0⟩ | ⟨g,cap,cur,rfl,h1,h2,h3,h4,h5,h6⟩
  ·have:p=[]:=yE h0;subst this;exact .dat _ _ _ _ ⟨none,0,[],rfl,yv _,rfl,fun h=>absurd rfl h⟩
  ·refine .dat _ _ _ _ ⟨some ⟨g,0,none⟩,cap,_,rfl,h3,hch p,fun _=>⟨⟨g,0,none⟩,rfl,rfl,fun i u hu=>⟨.inr ⟨rfl,?_⟩,?_⟩⟩⟩
   ·have:=(List.getElem?_eq_some_iff.1 hu).1;rw [yO] at this;show 0+i < p.length;omega
   ·have hi:=(List.getElem?_eq_some_iff.1 hu).1;rw [yO] at hi;rw [← h6,Nat.mul_one,List.getElem?_take_of_lt hi,Array.getElem?_toList] at hu;simp only [World.cell?,h2,Option.isSome_none,yq,if_false];rw [show 0+i=i by omega];exact hu
 ·simp only [AV.lab,ya,yb] at e;obtain ⟨rfl,rfl⟩:=e;refine ⟨.byte,p,rfl,_,⟨ho.1,?_⟩,hch p,fun b hb o=>?_,fun b hb=>by have:=(hnew b hb).1; omega⟩
  ·rcases ho.2 with h | ⟨g,cap,cur,rfl,h1,h2⟩
   ·exact .inl h
   ·exact .inr ⟨g,cap,cur,rfl,Nat.zero_le _,h2⟩
  ·constructor
   ·rintro (hh | hh)
    ·have:=hS b o hh;have:=(hnew b hb).1;omega
    ·simpa [Sh.size] using hh.2
   ·intro hh;exact .inr ⟨hb,by simpa [Sh.size] using hh⟩
theorem qkL (p:List UInt8):Lib.bytesOf (p.map fun c=>(c.toNat:Int))=p:=by
 unfold Lib.bytesOf;rw [List.map_map];conv=>rhs; rw [← List.map_id p]
 apply List.map_congr_left;intro c _;simp
theorem qdc {P:Program} (w:World) (a:Addr) (p:List UInt8) (cap:Nat) (hc:∀ i,i < p.length→w.cell? (a.add i)=some (.int .u8 ((p.map fun c=>(c.toNat:Int)).getD i 0))) (cv:Int) :
 (Extern.BytealgIndexByte.indexByte #[.slice (some a) p.length cap,.int .u8 cv]).run P w=.ok (.int .i64 (Lib.indexByte p cv.toNat.toUInt8)) w:=by
 have hl:=Lib.run_loadBytesX (P:=P) w (p.map fun c=>(c.toNat:Int)) a .empty (fun j x hj=>by
  have hjl:j < p.length:=by have:=(List.getElem?_eq_some_iff.1 hj).1; rwa [yO] at this
  rw [hc j hjl,List.getD_eq_getElem?_getD,hj];rfl)
 rw [qkL,yO] at hl;have hs:=Lib.run_indexByteString (P:=P) ⟨p.toArray⟩ cv w;have he:(⟨ByteArray.empty.data++p.toArray⟩:ByteArray)=⟨p.toArray⟩:=by
  apply ByteArray.ext;show (#[]:Array UInt8)++p.toArray=p.toArray;simp
 rw [he] at hl;change Sem.run P (do
  let b ← Extern.Bytes.bytesOf (.slice (some a) p.length cap)
  let c ← Extern.Bytes.asByte (.int .u8 cv)
  match (List.range b.size).find? fun i=>b[i]! == c with
  | some i=>pure (goInt i)
  | none=>pure (goInt (-1))) w=_
 change Sem.run P (do
  let b ← Extern.Bytes.bytesOf (.string ⟨p.toArray⟩)
  let c ← Extern.Bytes.asByte (.int .u8 cv)
  match (List.range b.size).find? fun i=>b[i]! == c with
  | some i=>pure (goInt i)
  | none=>pure (goInt (-1))) w=_ at hs
 simp only [Extern.Bytes.bytesOf,yh,yu,hl,Result.andThen] at hs ⊢;exact hs
theorem qkM {w:World} {S:qb} (hS:∀ b o,S b o→b < w.heap.size) {vals:List Value} {p:List UInt8} {c:UInt8} {o1 o2:Lab} (ha:qac w S vals [da p o1,.dat .byte c o2]) :
 Ran Tryz.prog 90 vals.toArray w fun v w'=>∃ S',Grew w S w' S'∧ResRd (· < w.heap.size) w' S' v (.int .i64 (Lib.indexByte p c)):=by
 obtain ⟨u,v,rfl,h1,h2⟩:=args2 ha;obtain ⟨A,cap,rfl,hcap,hA,hcA⟩:=qgH h1;obtain rfl:=qaz h2;have hx:(c.toNat:Int).toNat.toUInt8=c:=by simp
 refine .inr ⟨.int .i64 (Lib.indexByte p c),w,?_,S,qhI hS,qfd⟩;rw [run_callFunc_extern (e:=Extern.BytealgIndexByte.indexByte) Tryz.func90 (by kernel_rfl) (by kernel_rfl) (by kernel_rfl) (by kernel_rfl)];show ((Extern.BytealgIndexByte.indexByte #[.slice A p.length cap,.int .u8 (c.toNat:Nat)]).run Tryz.prog w).andThen _=_;cases A with
 | none =>
  have hp0:=hA rfl;subst hp0;rw [Lib.run_indexByteNil w _ cap];rfl
 | some a1 =>
  rw [qdc w a1 p cap (hcA _ rfl) _,hx];rfl
end Go.Av
namespace Go.Proofs
open Go.Shelf Go.RowKit Go.Lib Go.Av
set_option maxHeartbeats 2000000 in
set_option maxRecDepth 100000 in
theorem qor (a:Addr) (n c:Nat) (vs:List Value) (w:World) (hx:vs.length=n) (hbig:n≤1048576) (hty:∀ u∈vs,∃ x,u=Value.int .u8 x) (hc:∀ (i:Nat) u,vs[i]? = some u→w.cell? (a.add i)=some u) :
 Calls Tryz.prog 20 #[.slice (some a) n c] w fun e w'=>∃ v',e=.returned v'∧w'.ownsRow w.heap.size 5 1 v' n vs∧Below w.heap.size w w':=by
 have mixed:Tryz.prog.follows .mixedOrders=true:=by kernel_rfl
 obtain ⟨i0,hi,hz0,hz1,hz2⟩:=info_parts (show (Tryz.prog.info? 5).map (fun i=>(i.zero,i.size,i.bytes))=some (some (.int .u8 0),1,1) by kernel_rfl);have q22:∀ (w:World) (a:Option Addr) (n c n' c':Nat),(binOp .eql 22 (.slice a n c) (.slice none n' c')).run Tryz.prog w=.ok (.bool a.isNone) w:=fun w a n c n' c'=>Lib.run_eql_slice_nil w _ _ a n c n' c' Tryz.underlying22;have u22:∀ w,Sem.run Tryz.prog (underlying 22) w=.ok (TypeDesc.slice 5) w:=yr Tryz.underlying22;have z5:∀ w,Sem.run Tryz.prog (Go.sizeOf 5) w=.ok 1 w:=fun w=>by simp [Go.sizeOf,typeInfo,hi,hz1]
 have A:Aside (∀ (i:Nat) u,vs[i]? = some u→w.cell? (a.add i)=some u):=hc;clear hc
 go_enter Tryz.func20,Tryz.ntmps20
 go_wp2_with (at_builtin; refine wpList_append_own _ rfl _ _ 22 rfl w.heap.size 5 i0 (.int .u8 0) 1 1 Tryz.underlying22 hi hz0 hz1 hz2 rfl (by decide) _ _ _ rfl (World.ownsRow_made w #[] 0 (yv _) (Nat.zero_le _) rfl) a n c vs rfl ?qc1 ?qc2 ?qc3 ?qc4 ?qc5 ?qc6 ?_)
 case qc1=>rw [hx]; omega
 case qc2=>intro j u hj; exact Lib.cell?_alloc_some _ (A.out j u hj)
 case qc3=>intro u hu; obtain ⟨x,rfl⟩:=hty u hu; rfl
 case qc4=>unfold maxLen; omega
 case qc5=>omega
 case qc6=>simp
 intro v' w1 hown hgrow hnil
 go_wp2
 go_ret
 refine ⟨v',rfl,by simpa using hown,?_⟩;exact ((Below.refl _ w).alloc (yv _) _).grown hgrow (by simp) (by intro k hk; simp [Value.ownBlock] at hk; omega)
set_option maxHeartbeats 1000000 in
set_option maxRecDepth 100000 in
theorem qqY (n c:Nat) (w:World):Calls Tryz.prog 20 #[.slice none n c] w fun e w'=>e=.returned (.slice none 0 0)∧w'=w:=by
 have mixed:Tryz.prog.follows .mixedOrders=true:=by kernel_rfl
 have q22:∀ (w:World) (a:Option Addr) (n c n' c':Nat),(binOp .eql 22 (.slice a n c) (.slice none n' c')).run Tryz.prog w=.ok (.bool a.isNone) w:=fun w a n c n' c'=>Lib.run_eql_slice_nil w _ _ a n c n' c' Tryz.underlying22
 go_enter Tryz.func20,Tryz.ntmps20
 go_wp2
 go_ret
 exact ⟨rfl,rfl⟩
set_option maxHeartbeats 2000000 in
set_option maxRecDepth 100000 in
theorem qos (a:Addr) (n c:Nat) (vs:List Value) (w:World) (hx:vs.length=n) (hbig:n≤1048576) (hty:∀ u∈vs,∃ x,u=Value.int .u8 x) (hc:∀ (i:Nat) u,vs[i]? = some u→w.cell? (a.add i)=some u) :
 Calls Tryz.prog 82 #[.slice (some a) n c] w fun e w'=>∃ v',e=.returned v'∧w'.ownsRow w.heap.size 5 1 v' n vs∧Below w.heap.size w w':=by
 have mixed:Tryz.prog.follows .mixedOrders=true:=by kernel_rfl
 obtain ⟨i0,hi,hz0,hz1,hz2⟩:=info_parts (show (Tryz.prog.info? 5).map (fun i=>(i.zero,i.size,i.bytes))=some (some (.int .u8 0),1,1) by kernel_rfl);have q22:∀ (w:World) (a:Option Addr) (n c n' c':Nat),(binOp .eql 22 (.slice a n c) (.slice none n' c')).run Tryz.prog w=.ok (.bool a.isNone) w:=fun w a n c n' c'=>Lib.run_eql_slice_nil w _ _ a n c n' c' Tryz.underlying22;have u22:∀ w,Sem.run Tryz.prog (underlying 22) w=.ok (TypeDesc.slice 5) w:=yr Tryz.underlying22;have z5:∀ w,Sem.run Tryz.prog (Go.sizeOf 5) w=.ok 1 w:=fun w=>by simp [Go.sizeOf,typeInfo,hi,hz1]
 have A:Aside (∀ (i:Nat) u,vs[i]? = some u→w.cell? (a.add i)=some u):=hc;clear hc
 go_enter Tryz.func82,Tryz.ntmps82
 go_wp2_with (at_builtin; refine wpList_append_own _ rfl _ _ 22 rfl w.heap.size 5 i0 (.int .u8 0) 1 1 Tryz.underlying22 hi hz0 hz1 hz2 rfl (by decide) _ _ _ rfl (World.ownsRow_made w #[] 0 (yv _) (Nat.zero_le _) rfl) a n c vs rfl ?qc1 ?qc2 ?qc3 ?qc4 ?qc5 ?qc6 ?_)
 case qc1=>rw [hx]; omega
 case qc2=>intro j u hj; exact Lib.cell?_alloc_some _ (A.out j u hj)
 case qc3=>intro u hu; obtain ⟨x,rfl⟩:=hty u hu; rfl
 case qc4=>unfold maxLen; omega
 case qc5=>omega
 case qc6=>simp
 intro v' w1 hown hgrow hnil
 go_wp2
 go_ret
 refine ⟨v',rfl,by simpa using hown,?_⟩;exact ((Below.refl _ w).alloc (yv _) _).grown hgrow (by simp) (by intro k hk; simp [Value.ownBlock] at hk; omega)
set_option maxHeartbeats 1000000 in
set_option maxRecDepth 100000 in
theorem qqZ (n c:Nat) (w:World):Calls Tryz.prog 82 #[.slice none n c] w fun e w'=>e=.returned (.slice none 0 0)∧w'=w:=by
 have mixed:Tryz.prog.follows .mixedOrders=true:=by kernel_rfl
 have q22:∀ (w:World) (a:Option Addr) (n c n' c':Nat),(binOp .eql 22 (.slice a n c) (.slice none n' c')).run Tryz.prog w=.ok (.bool a.isNone) w:=fun w a n c n' c'=>Lib.run_eql_slice_nil w _ _ a n c n' c' Tryz.underlying22
 go_enter Tryz.func82,Tryz.ntmps82
 go_wp2
 go_ret
 exact ⟨rfl,rfl⟩
set_option maxHeartbeats 2000000 in
set_option maxRecDepth 100000 in
theorem qot (a:Addr) (n c:Nat) (vs:List Value) (w:World) (hx:vs.length=n) (hbig:n≤1048576) (hty:∀ u∈vs,∃ x,u=Value.int .i32 x) (hc:∀ (i:Nat) u,vs[i]? = some u→w.cell? (a.add i)=some u) :
 Calls Tryz.prog 43 #[.slice (some a) n c] w fun e w'=>∃ v',e=.returned v'∧w'.ownsRow w.heap.size 21 1 v' n vs∧Below w.heap.size w w':=by
 have mixed:Tryz.prog.follows .mixedOrders=true:=by kernel_rfl
 obtain ⟨i0,hi,hz0,hz1,hz2⟩:=info_parts (show (Tryz.prog.info? 21).map (fun i=>(i.zero,i.size,i.bytes))=some (some (.int .i32 0),1,4) by kernel_rfl);have q22:∀ (w:World) (a:Option Addr) (n c n' c':Nat),(binOp .eql 39 (.slice a n c) (.slice none n' c')).run Tryz.prog w=.ok (.bool a.isNone) w:=fun w a n c n' c'=>Lib.run_eql_slice_nil w _ _ a n c n' c' Tryz.underlying39;have u22:∀ w,Sem.run Tryz.prog (underlying 39) w=.ok (TypeDesc.slice 21) w:=yr Tryz.underlying39;have z5:∀ w,Sem.run Tryz.prog (Go.sizeOf 21) w=.ok 1 w:=fun w=>by simp [Go.sizeOf,typeInfo,hi,hz1]
 have A:Aside (∀ (i:Nat) u,vs[i]? = some u→w.cell? (a.add i)=some u):=hc;clear hc
 go_enter Tryz.func43,Tryz.ntmps43
 go_wp2_with (at_builtin; refine wpList_append_own _ rfl _ _ 39 rfl w.heap.size 21 i0 (.int .i32 0) 1 4 Tryz.underlying39 hi hz0 hz1 hz2 rfl (by decide) _ _ _ rfl (World.ownsRow_made w #[] 0 (yv _) (Nat.zero_le _) rfl) a n c vs rfl ?qc1 ?qc2 ?qc3 ?qc4 ?qc5 ?qc6 ?_)
 case qc1=>rw [hx]; omega
 case qc2=>intro j u hj; exact Lib.cell?_alloc_some _ (A.out j u hj)
 case qc3=>intro u hu; obtain ⟨x,rfl⟩:=hty u hu; rfl
 case qc4=>unfold maxLen; omega
 case qc5=>omega
 case qc6=>simp
 intro v' w1 hown hgrow hnil
 go_wp2
 go_ret
 refine ⟨v',rfl,by simpa using hown,?_⟩;exact ((Below.refl _ w).alloc (yv _) _).grown hgrow (by simp) (by intro k hk; simp [Value.ownBlock] at hk; omega)
set_option maxHeartbeats 1000000 in
set_option maxRecDepth 100000 in
theorem qra (n c:Nat) (w:World):Calls Tryz.prog 43 #[.slice none n c] w fun e w'=>e=.returned (.slice none 0 0)∧w'=w:=by
 have mixed:Tryz.prog.follows .mixedOrders=true:=by kernel_rfl
 have q22:∀ (w:World) (a:Option Addr) (n c n' c':Nat),(binOp .eql 39 (.slice a n c) (.slice none n' c')).run Tryz.prog w=.ok (.bool a.isNone) w:=fun w a n c n' c'=>Lib.run_eql_slice_nil w _ _ a n c n' c' Tryz.underlying39
 go_enter Tryz.func43,Tryz.ntmps43
 go_wp2
 go_ret
 exact ⟨rfl,rfl⟩
end Go.Proofs
namespace Go.Av
open Go.Proofs Go.RowKit
theorem qhK {w w':World} {S:qb} (hS:∀ b o,S b o→b < w.heap.size) {p:List Int} {te:TypeId} {v:Value} (hB:Below w.heap.size w w') (ho:w'.ownsRow w.heap.size te 1 v p.length (p.map (Value.int .i32))) :
 ∃ S',Grew w S w' S'∧ResRd (· < w.heap.size) w' S' v (.dat (.sl (.int .i32)) p none):=by
 let S':qb:=fun b o=>S b o∨(v.ownBlock=some b∧o < p.length)
 have hch:∀ l:List Int,qf (RdC w' S' (.int .i32)) l (l.map (Value.int .i32)):=fun l=>by
  induction l with
  | nil=>rfl
  | cons c l ih=>exact ⟨[_],_,rfl,rfl,ih⟩
 have hnew:∀ b,v.ownBlock=some b→w.heap.size≤b∧b < w'.heap.size:=fun b hb=>ho.lt b hb;refine ⟨S',⟨hB,fun b o hb=>⟨fun hh=>hh.elim id (fun hh=>by have:=(hnew b hh.1).1; omega),.inl⟩,fun b o hh=>hh.elim (fun hh=>yG (hS b o hh) hB.size) (fun hh=>(hnew b hh.1).2)⟩,?_⟩;refine ⟨?_,fun s x e=>(by cases e),fun s q e=>(by cases e),fun l te' e=>(by cases e)⟩;rcases ho.2 with ⟨rfl,h0⟩ | ⟨g,cap,cur,rfl,h1,h2,h3,h4,h5,h6⟩
 ·have:p=[]:=yE h0;subst this;exact .dat _ _ _ _ ⟨none,0,[],rfl,yv _,rfl,fun h=>absurd rfl h⟩
 ·refine .dat _ _ _ _ ⟨some ⟨g,0,none⟩,cap,_,rfl,h3,hch p,fun _=>⟨⟨g,0,none⟩,rfl,rfl,fun i u hu=>⟨.inr ⟨rfl,?_⟩,?_⟩⟩⟩
  ·have:=(List.getElem?_eq_some_iff.1 hu).1;rw [yO] at this;show 0+i < p.length;omega
  ·have hi:=(List.getElem?_eq_some_iff.1 hu).1;rw [yO] at hi;rw [← h6,Nat.mul_one,List.getElem?_take_of_lt hi,Array.getElem?_toList] at hu;simp only [World.cell?,h2,Option.isSome_none,yq,if_false];rw [show 0+i=i by omega];exact hu
theorem qgb {w:World} {S:qb}:∀ {l:List Int} {cs:List Value},qf (RdC w S (.int .i32)) l cs→cs=l.map (Value.int .i32)
 | [],cs,h=>h
 | x :: l,cs,h=>by
  obtain ⟨v1,v2,rfl,h1,h2⟩:=h;have h1:v1=[.int .i32 x]:=h1;rw [h1,qgb h2];rfl
theorem qkN {w:World} {S:qb} (hS:∀ b o,S b o→b < w.heap.size) {vals:List Value} {p:List UInt8} {o:Lab} (ha:qac w S vals [da p o]) (hp:p.length≤1048576) :
 Ran Tryz.prog 20 vals.toArray w fun v w'=>∃ S',Grew w S w' S'∧ResRd (· < w.heap.size) w' S' v (da p (some (0,5))):=by
 obtain ⟨u,rfl,h1⟩:=args1 ha;obtain ⟨A,cap,cs,ev,hcap,hch,hm⟩:=rd_sl h1;have hcs:=qaD hch;subst ev;have hent:(callFunc 20 #[.slice A (List.length p) cap]).run Tryz.prog w=.ok (.enter 20 #[.slice A (List.length p) cap]) w:=enters_of (c:=Tryz.f20.body.getD .skip) Tryz.func20 (by kernel_rfl) (by kernel_rfl) _ _;cases A with
 | none =>
  have hp0:p=[]:=by
   cases p with
   | nil=>rfl
   | cons c r=>obtain ⟨ad,e,_⟩:=hm (by rw [hcs]; simp); cases e
  subst hp0;refine .inl ⟨hent,(qqY _ cap w).mono ?_⟩;rintro e w' ⟨rfl,rfl⟩;exact ⟨_,rfl,qhJ (te:=5) hS (Below.refl _ _) ⟨rfl,.inl ⟨rfl,rfl⟩⟩⟩
 | some ad =>
  have hcell:∀ (i:Nat) u,(p.map (fun c=>Value.int .u8 (c.toNat:Nat)))[i]? = some u→w.cell? (ad.add i)=some u:=fun i u hi=>by
   have hil:i < p.length:=by have:=(List.getElem?_eq_some_iff.1 hi).1; rwa [yO] at this
   obtain ⟨ad',e,hmem⟩:=hm (by rw [hcs]; rintro e; have:=congrArg List.length e; rw [yO] at this; simp only [List.length_nil] at this; omega);cases e;rw [qbA ad i hmem.1];exact (hmem.2 i u (by rw [hcs]; exact hi)).2
  refine .inl ⟨hent,(qor ad (List.length p) cap (p.map (fun c=>Value.int .u8 (c.toNat:Nat))) w (by rw [yO]) hp (fun u hu=>by obtain ⟨x,_,rfl⟩:=List.mem_map.1 hu; exact ⟨_,rfl⟩) hcell).mono ?_⟩;rintro e w' ⟨v',rfl,ho,hB⟩;exact ⟨v',rfl,qhJ hS hB ho⟩
theorem qkO {w:World} {S:qb} (hS:∀ b o,S b o→b < w.heap.size) {vals:List Value} {p:List UInt8} {o:Lab} (ha:qac w S vals [da p o]) (hp:p.length≤1048576) :
 Ran Tryz.prog 82 vals.toArray w fun v w'=>∃ S',Grew w S w' S'∧ResRd (· < w.heap.size) w' S' v (da p (some (0,5))):=by
 obtain ⟨u,rfl,h1⟩:=args1 ha;obtain ⟨A,cap,cs,ev,hcap,hch,hm⟩:=rd_sl h1;have hcs:=qaD hch;subst ev;have hent:(callFunc 82 #[.slice A (List.length p) cap]).run Tryz.prog w=.ok (.enter 82 #[.slice A (List.length p) cap]) w:=enters_of (c:=Tryz.f82.body.getD .skip) Tryz.func82 (by kernel_rfl) (by kernel_rfl) _ _;cases A with
 | none =>
  have hp0:p=[]:=by
   cases p with
   | nil=>rfl
   | cons c r=>obtain ⟨ad,e,_⟩:=hm (by rw [hcs]; simp); cases e
  subst hp0;refine .inl ⟨hent,(qqZ _ cap w).mono ?_⟩;rintro e w' ⟨rfl,rfl⟩;exact ⟨_,rfl,qhJ (te:=5) hS (Below.refl _ _) ⟨rfl,.inl ⟨rfl,rfl⟩⟩⟩
 | some ad =>
  have hcell:∀ (i:Nat) u,(p.map (fun c=>Value.int .u8 (c.toNat:Nat)))[i]? = some u→w.cell? (ad.add i)=some u:=fun i u hi=>by
   have hil:i < p.length:=by have:=(List.getElem?_eq_some_iff.1 hi).1; rwa [yO] at this
   obtain ⟨ad',e,hmem⟩:=hm (by rw [hcs]; rintro e; have:=congrArg List.length e; rw [yO] at this; simp only [List.length_nil] at this; omega);cases e;rw [qbA ad i hmem.1];exact (hmem.2 i u (by rw [hcs]; exact hi)).2
  refine .inl ⟨hent,(qos ad (List.length p) cap (p.map (fun c=>Value.int .u8 (c.toNat:Nat))) w (by rw [yO]) hp (fun u hu=>by obtain ⟨x,_,rfl⟩:=List.mem_map.1 hu; exact ⟨_,rfl⟩) hcell).mono ?_⟩;rintro e w' ⟨v',rfl,ho,hB⟩;exact ⟨v',rfl,qhJ hS hB ho⟩
theorem qkP {w:World} {S:qb} (hS:∀ b o,S b o→b < w.heap.size) {vals:List Value} {p:List Int} {o:Lab} (ha:qac w S vals [.dat (.sl (.int .i32)) p o]) (hp:p.length≤1048576) :
 Ran Tryz.prog 43 vals.toArray w fun v w'=>∃ S',Grew w S w' S'∧ResRd (· < w.heap.size) w' S' v (.dat (.sl (.int .i32)) p none):=by
 obtain ⟨u,rfl,h1⟩:=args1 ha;obtain ⟨A,cap,cs,ev,hcap,hch,hm⟩:=rd_sl h1;have hcs:=qgb hch;subst ev;have hent:(callFunc 43 #[.slice A (List.length p) cap]).run Tryz.prog w=.ok (.enter 43 #[.slice A (List.length p) cap]) w:=enters_of (c:=Tryz.f43.body.getD .skip) Tryz.func43 (by kernel_rfl) (by kernel_rfl) _ _;cases A with
 | none =>
  have hp0:p=[]:=by
   cases p with
   | nil=>rfl
   | cons c r=>obtain ⟨ad,e,_⟩:=hm (by rw [hcs]; simp); cases e
  subst hp0;refine .inl ⟨hent,(qra _ cap w).mono ?_⟩;rintro e w' ⟨rfl,rfl⟩;exact ⟨_,rfl,qhK (te:=21) hS (Below.refl _ _) ⟨rfl,.inl ⟨rfl,rfl⟩⟩⟩
 | some ad =>
  have hcell:∀ (i:Nat) u,(p.map (Value.int .i32))[i]? = some u→w.cell? (ad.add i)=some u:=fun i u hi=>by
   have hil:i < p.length:=by have:=(List.getElem?_eq_some_iff.1 hi).1; rwa [yO] at this
   obtain ⟨ad',e,hmem⟩:=hm (by rw [hcs]; rintro e; have:=congrArg List.length e; rw [yO] at this; simp only [List.length_nil] at this; omega);cases e;rw [qbA ad i hmem.1];exact (hmem.2 i u (by rw [hcs]; exact hi)).2
  refine .inl ⟨hent,(qot ad (List.length p) cap (p.map (Value.int .i32)) w (by rw [yO]) hp (fun u hu=>by obtain ⟨x,_,rfl⟩:=List.mem_map.1 hu; exact ⟨_,rfl⟩) hcell).mono ?_⟩;rintro e w' ⟨v',rfl,ho,hB⟩;exact ⟨v',rfl,qhK hS hB ho⟩
end Go.Av
end
