import Derived.Ground.NamesProg
import Derived.Ground.SlbNamesProg
import Derived.Shelf.Spec.TrailingZeros
import Derived.Shelf.Bytes.SlJoin
import Derived.Test.YtmageajchmoomaaGreatDoorProg
import Derived.Test.YtmageajchmoomaaGreatDoorCbA
import Derived.Maps.OwnSet
import Derived.Maps.AppendAt
import Derived.WalkKit
import Derived.Shelf.Bytes.SlClone
import Derived.Test.YtmageajchmoomaaGreatDoorAvE
import Derived.Test.YtmageajchmoomaaGreatDoorAvE
import Derived.Lib.IndexEntry
import Derived.Laws.Externs
import Derived.KernelRfl
import Derived.WalkSmall
import Derived.Lib.SlBuf
section
namespace Go.Proofs
set_option linter.unusedVariables false
set_option linter.unusedSimpArgs false
open Go.Shelf
def Tryz.lays7_29_ren:Go.Shelf.Ren:=⟨fun | 29=>134 | n=>n,fun | 22=>157 | 3=>3 | 4=>4 | 25=>136 | 54=>174 | 0=>0 | 5=>5 | n=>n,fun | 1=>2 | n=>n⟩
theorem Tryz.lays7_29:Go.Proofs.Lays7.n29 Tryz.prog Tryz.lays7_29_ren:={
 mixed:=by kernel_rfl
 f29:=Tryz.func134.trans (congrArg some (by kernel_rfl))
 t0:=Tryz.underlying0
 a0:=Tryz.isAgg0
 z0:=Tryz.sizeOf0
 v0:=Tryz.zeroValue0
 i0:=by kernel_rfl
 t3:=Tryz.underlying3
 a3:=Tryz.isAgg3
 z3:=Tryz.sizeOf3
 v3:=Tryz.zeroValue3
 i3:=by kernel_rfl
 t4:=Tryz.underlying4
 a4:=Tryz.isAgg4
 z4:=Tryz.sizeOf4
 v4:=Tryz.zeroValue4
 i4:=by kernel_rfl
 t5:=Tryz.underlying5
 a5:=Tryz.isAgg5
 z5:=Tryz.sizeOf5
 v5:=Tryz.zeroValue5
 i5:=by kernel_rfl
 t22:=Tryz.underlying157
 a22:=Tryz.isAgg157
 z22:=Tryz.sizeOf157
 v22:=Tryz.zeroValue157
 i22:=by kernel_rfl
 t25:=Tryz.underlying136
 a25:=Tryz.isAgg136
 z25:=Tryz.sizeOf136
 v25:=Tryz.zeroValue136
 i25:=by kernel_rfl
 t54:=Tryz.underlying174
 a54:=Tryz.isAgg174
 z54:=Tryz.sizeOf174
 g1:=by kernel_rfl }
def Tryz.laysSlJ14_ren:Go.Shelf.Ren:=⟨fun | 14=>52 | 15=>76 | n=>n,fun | 26=>67 | 22=>22 | 3=>3 | 4=>4 | 0=>0 | 9=>9 | 20=>20 | 5=>5 | n=>n,fun | n=>n⟩
theorem Tryz.laysSlJ14:Go.Proofs.SlLaysJ.n14 Tryz.prog Tryz.laysSlJ14_ren:={
 mixed:=by kernel_rfl
 f14:=Tryz.func52.trans (congrArg some (by kernel_rfl))
 f15:=Tryz.func76.trans (congrArg some (by kernel_rfl))
 t0:=Tryz.underlying0
 a0:=Tryz.isAgg0
 z0:=Tryz.sizeOf0
 v0:=Tryz.zeroValue0
 t3:=Tryz.underlying3
 a3:=Tryz.isAgg3
 z3:=Tryz.sizeOf3
 v3:=Tryz.zeroValue3
 t4:=Tryz.underlying4
 a4:=Tryz.isAgg4
 z4:=Tryz.sizeOf4
 v4:=Tryz.zeroValue4
 t9:=Tryz.underlying9
 a9:=Tryz.isAgg9
 z9:=Tryz.sizeOf9
 v9:=Tryz.zeroValue9
 t20:=Tryz.underlying20
 a20:=Tryz.isAgg20
 z20:=Tryz.sizeOf20
 v20:=Tryz.zeroValue20
 t22:=Tryz.underlying22
 a22:=Tryz.isAgg22
 z22:=Tryz.sizeOf22
 v22:=Tryz.zeroValue22
 t26:=Tryz.underlying67
 a26:=Tryz.isAgg67
 z26:=Tryz.sizeOf67
 v26:=Tryz.zeroValue67
 t5:=Tryz.underlying5
 z5:=Tryz.sizeOf5
 i5:=by kernel_rfl }
end Go.Proofs
end

section
namespace Go.Av
set_option linter.unusedVariables false
set_option linter.unusedSimpArgs false
open Go.Proofs Go.RowKit
def TabC (g:Nat) (tab:List Nat) (w:World) (S:qa):Prop:=∀ j,j < tab.length→S g j∧w.cell? ⟨g,j,none⟩=some (.int .u8 (tab.getD j 0:Nat))
theorem qyq (g:Nat) (tab:List Nat):Stays (TabC g tab):=fun _ _ _ _ hk h j hj=>⟨(hk _ _ (h j hj).1).1,(hk _ _ (h j hj).1).2.trans (h j hj).2⟩
def G (w:World) (S:qa):Prop:=TabC 2 Lib.deBruijn64tab w S
theorem G_stays:Stays G:=qyq _ _
theorem glAny (w:World) (S:qa) (_:Any w S):GlOk (fun _=>none) w S:=fun g s x h=>by cases h
theorem qW (w:World) (S:qa) (_:G w S):GlOk (fun _=>none) w S:=fun g s x h=>by cases h
theorem args2 {w:World} {S:qa} {vals:List Value} {x y:AV} (h:qav w S vals [x,y]):∃ u v,vals=[u,v]∧Rd w S u x∧Rd w S v y:=by
 match vals,h with
 | [],h=>cases h.1
 | [_],h=>cases h.1
 | [u,v],h=>exact⟨u,v,rfl,h.2 0 u x rfl rfl,h.2 1 v y rfl rfl⟩
 | _ :: _ :: _ :: _,h=>have:=h.1;simp at this
theorem args1 {w:World} {S:qa} {vals:List Value} {x:AV} (h:qav w S vals [x]):∃ u,vals=[u]∧Rd w S u x:=by
 match vals,h with
 | [],h=>cases h.1
 | [u],h=>exact⟨u,rfl,h.2 0 u x rfl rfl⟩
 | _ :: _ :: _,h=>have:=h.1;simp at this
theorem qht {w:World} {S:qa} (h:∀ b o,S b o→b < w.heap.size):Grew w S w S:=⟨Below.refl _ _,fun _ _ _=>Iff.rfl,h⟩
theorem qhu {n:Nat→Prop} {w:World} {S:qa} {k:IntKind} {i:Int}:ResRd n w S (.int k i) (.int k i):=⟨qbP _ _ _ _,fun s x e=>(by cases e),fun s p e=>(by cases e),fun l te e=>(by cases e)⟩
theorem qud {P:Program} {f:FuncId} {fn:Func} (hf:P.funcs[f]? = some fn) (hname:(fn.name == "runtime.NumGoroutine")=false) (hb:fn.body.isNone=true) (hn:Extern.findNext fn=none)
 (he:Extern.find fn=some Extern.BytealgIndexByte.indexByte) {w:World} {S:qa} (hS:∀ b o,S b o→b < w.heap.size) {vals:List Value} {a:LU} {c:UInt8} {oa oc:Lab} (ha:qav w S vals [df a oa,dn c oc]) :
 Ran P f vals.toArray w fun v w'=>∃ S',Grew w S w' S'∧ResRd (· < w.heap.size) w' S' v (.int .i64 (Lib.indexByte a c)):=by
 obtain⟨u,v,rfl,h1,h2⟩:=args2 ha;obtain⟨b,rfl,rfl⟩:=qcS h1;obtain rfl:=qbC h2;refine .inr ⟨.int .i64 (Lib.indexByte b.data.toList c),w,?_,S,qht hS,qhu⟩;rw[run_callFunc_extern hf hname hb hn he];show ((Extern.BytealgIndexByte.indexByte #[.string b,.int .u8 (c.toNat:Nat)]).run P w).andThen _=_;rw[Lib.run_indexByteString];simp[Result.andThen]
theorem qix {w:World} {S:qa} {p:LU} {o:Lab} {v:Value} (h:Rd w S v (db p o)):∃ A cap,v=.slice A p.length cap∧p.length≤cap∧(A=none→p=[]) ∧
 ∀ ad,A=some ad→∀ i,i < p.length→w.cell? (ad.add i)=some (.int .u8 ((p.map fun c=>(c.toNat:Int)).getD i 0)):=by
 obtain⟨A,cap,cs,ev,hcap,hch,hm⟩:=rd_sl h;have hcs:=qbH hch;refine⟨A,cap,ev,hcap,fun hA=>?_,fun ad hA i hi=>?_⟩
 ·cases p with
  | nil=>rfl
  | cons c r=>obtain⟨ad,e,_⟩:=hm (by rw[hcs];simp);rw[hA] at e;cases e
 ·obtain⟨ad',e,hmem⟩:=hm (by rw[hcs];rintro e;have:=congrArg List.length e;rw[yP] at this;simp only[List.length_nil] at this;omega);rw[hA] at e;cases e;rw[qdm ad i hmem.1];have:=(hmem.2 i (.int .u8 (p[i].toNat:Nat)) (by rw[hcs,List.getElem?_map,yO hi];rfl)).2;rw[this];simp[List.getD,List.getElem?_map,yO hi]
theorem qrC {w w':World} {S:qa} (hS:∀ b o,S b o→b < w.heap.size) {p:LU} {te:TypeId} {v:Value} (hB:Below w.heap.size w w')
 (ho:w'.ownsRow w.heap.size te 1 v p.length (p.map fun c=>Value.int .u8 (c.toNat:Nat))) :
 ∃ S',Grew w S w' S'∧ResRd (· < w.heap.size) w' S' v (db p (some (0,te))):=by
 let S':qa:=fun b o=>S b o∨(v.ownBlock=some b∧o < p.length)
 have hch:∀ l:LU,qd (RdC w' S' .byte) l (l.map fun c=>Value.int .u8 (c.toNat:Nat)):=fun l=>by
  induction l with
  | nil=>rfl
  | cons c l ih=>exact⟨[_],_,rfl,rfl,ih⟩
 have hnew:∀ b,v.ownBlock=some b→w.heap.size≤b∧b < w'.heap.size:=fun b hb=>ho.lt b hb;refine⟨S',⟨hB,fun b o hb=>⟨fun hh=>hh.elim id (fun hh=>by have:=(hnew b hh.1).1;omega),.inl⟩,fun b o hh=>hh.elim (fun hh=>yH (hS b o hh) hB.size) (fun hh=>(hnew b hh.1).2)⟩,?_⟩;refine⟨?_,fun s x e=>(by cases e),fun s q e=>(by cases e),fun l te' e=>?_⟩
 ·rcases ho.2 with ⟨rfl,h0⟩ | ⟨g,cap,cur,rfl,h1,h2,h3,h4,h5,h6⟩
  ·have:p=[]:=yF h0;subst this;exact .dat _ _ _ _ ⟨none,0,[],rfl,yv _,rfl,fun h=>absurd rfl h⟩
  ·refine .dat _ _ _ _ ⟨some ⟨g,0,none⟩,cap,_,rfl,h3,hch p,fun _=>⟨⟨g,0,none⟩,rfl,rfl,fun i u hu=>⟨.inr ⟨rfl,?_⟩,?_⟩⟩⟩
   ·have:=(List.getElem?_eq_some_iff.1 hu).1;rw[yP] at this;show 0+i < p.length;omega
   ·have hi:=(List.getElem?_eq_some_iff.1 hu).1;rw[yP] at hi;rw[← h6,Nat.mul_one,List.getElem?_take_of_lt hi,Array.getElem?_toList] at hu;simp only[World.cell?,h2,Option.isSome_none,yq,if_false];rw[show 0+i=i by omega];exact hu
 ·simp only[AV.lab,ya,yb] at e;obtain⟨rfl,rfl⟩:=e;refine⟨.byte,p,rfl,_,⟨ho.1,?_⟩,hch p,fun b hb o=>?_,fun b hb=>by have:=(hnew b hb).1;omega⟩
  ·rcases ho.2 with h | ⟨g,cap,cur,rfl,h1,h2⟩
   ·exact .inl h
   ·exact .inr ⟨g,cap,cur,rfl,Nat.zero_le _,h2⟩
  ·constructor
   ·rintro (hh | hh)
    ·have:=hS b o hh;have:=(hnew b hb).1;omega
    ·simpa [Sh.size] using hh.2
   ·intro hh;exact .inr ⟨hb,by simpa [Sh.size] using hh⟩
theorem qyr (p:LU):Lib.bytesOf (p.map fun c=>(c.toNat:Int))=p:=by
 unfold Lib.bytesOf;rw[List.map_map];conv=>rhs;rw[← List.map_id p]
 apply List.map_congr_left;intro c _;simp
theorem qhg {P:Program} (w:World) (a:Addr) (p:LU) (cap:Nat) (hc:∀ i,i < p.length→w.cell? (a.add i)=some (.int .u8 ((p.map fun c=>(c.toNat:Int)).getD i 0))) (cv:Int) :
 (Extern.BytealgIndexByte.indexByte #[.slice (some a) p.length cap,.int .u8 cv]).run P w=.ok (.int .i64 (Lib.indexByte p cv.toNat.toUInt8)) w:=by
 have hl:=Lib.run_loadBytesX (P:=P) w (p.map fun c=>(c.toNat:Int)) a .empty (fun j x hj=>by
  have hjl:j < p.length:=by have:=(List.getElem?_eq_some_iff.1 hj).1;rwa[yP] at this
  rw[hc j hjl,yY,hj];rfl)
 rw[qyr,yP] at hl;have hs:=Lib.run_indexByteString (P:=P) ⟨p.toArray⟩ cv w;have he:(⟨ByteArray.empty.data++p.toArray⟩:ByteArray)=⟨p.toArray⟩:=by
  apply ByteArray.ext;show (#[]:Array UInt8)++p.toArray=p.toArray;simp
 rw[he] at hl;change Sem.run P (do
  let b ← Extern.Bytes.bytesOf (.slice (some a) p.length cap)
  let c ← Extern.Bytes.asByte (.int .u8 cv)
  match (List.range b.size).find? fun i=>b[i]! == c with
  | some i=>pure (goInt i)
  | none=>pure (goInt (-1))) w=_
 change Sem.run P (do
  let b ← Extern.Bytes.bytesOf (.string ⟨p.toArray⟩)
  let c ← Extern.Bytes.asByte (.int .u8 cv)
  match (List.range b.size).find? fun i=>b[i]! == c with
  | some i=>pure (goInt i)
  | none=>pure (goInt (-1))) w=_ at hs
 simp only[Extern.Bytes.bytesOf,yh,yu,hl,Result.andThen] at hs ⊢;exact hs
theorem qys {w:World} {S:qa} (hS:∀ b o,S b o→b < w.heap.size) {vals:List Value} {p:LU} {c:UInt8} {o1 o2:Lab} (ha:qav w S vals [db p o1,dn c o2]) :
 Ran Tryz.prog 90 vals.toArray w fun v w'=>∃ S',Grew w S w' S'∧ResRd (· < w.heap.size) w' S' v (.int .i64 (Lib.indexByte p c)):=by
 obtain⟨u,v,rfl,h1,h2⟩:=args2 ha;obtain⟨A,cap,rfl,hcap,hA,hcA⟩:=qix h1;obtain rfl:=qbC h2;have hx:(c.toNat:Int).toNat.toUInt8=c:=by simp
 refine .inr ⟨.int .i64 (Lib.indexByte p c),w,?_,S,qht hS,qhu⟩;rw[run_callFunc_extern (e:=Extern.BytealgIndexByte.indexByte) Tryz.func90 (by kernel_rfl) (by kernel_rfl) (by kernel_rfl) (by kernel_rfl)];show ((Extern.BytealgIndexByte.indexByte #[.slice A p.length cap,.int .u8 (c.toNat:Nat)]).run Tryz.prog w).andThen _=_;cases A with
 | none =>
  have hp0:=hA rfl;subst hp0;rw[Lib.run_indexByteNil w _ cap];rfl
 | some a1 =>
  rw[qhg w a1 p cap (hcA _ rfl) _,hx];rfl
end Go.Av
namespace Go.Proofs
open Go.Shelf Go.RowKit Go.Lib Go.Av
set_option maxHeartbeats 2000000 in
set_option maxRecDepth 100000 in
theorem qKn (a:Addr) (n c:Nat) (vs:List Value) (w:World) (hx:vs.length=n) (hbig:n≤1048576) (hty:∀ u∈vs,∃ x,u=Value.int .u8 x) (hc:∀ (i:Nat) u,vs[i]? = some u→w.cell? (a.add i)=some u) :
 Calls Tryz.prog 20 #[.slice (some a) n c] w fun e w'=>∃ v',e=.returned v'∧w'.ownsRow w.heap.size 5 1 v' n vs∧Below w.heap.size w w':=by
 have mixed:Tryz.prog.follows .mixedOrders=true:=by kernel_rfl
 obtain⟨i0,hi,hz0,hz1,hz2⟩:=info_parts (show (Tryz.prog.info? 5).map (fun i=>(i.zero,i.size,i.bytes))=some (some (.int .u8 0),1,1) by kernel_rfl);have q22:∀ (w:World) (a:Option Addr) (n c n' c':Nat),(binOp .eql 22 (.slice a n c) (.slice none n' c')).run Tryz.prog w=.ok (.bool a.isNone) w:=fun w a n c n' c'=>Lib.run_eql_slice_nil w _ _ a n c n' c' Tryz.underlying22;have u22:∀ w,Sem.run Tryz.prog (underlying 22) w=.ok (TypeDesc.slice 5) w:=yr Tryz.underlying22;have z5:∀ w,Sem.run Tryz.prog (Go.sizeOf 5) w=.ok 1 w:=fun w=>by simp[Go.sizeOf,typeInfo,hi,hz1]
 have A:Aside (∀ (i:Nat) u,vs[i]? = some u→w.cell? (a.add i)=some u):=hc;clear hc
 go_enter Tryz.func20,Tryz.ntmps20
 go_wp2_with (at_builtin;refine wpList_append_own _ rfl _ _ 22 rfl w.heap.size 5 i0 (.int .u8 0) 1 1 Tryz.underlying22 hi hz0 hz1 hz2 rfl (by decide) _ _ _ rfl (World.ownsRow_made w #[] 0 (yv _) (Nat.zero_le _) rfl) a n c vs rfl ?qc1 ?qc2 ?qc3 ?qc4 ?qc5 ?qc6 ?_)
 case qc1=>rw[hx];omega
 case qc2=>intro j u hj;exact Lib.cell?_alloc_some _ (A.out j u hj)
 case qc3=>intro u hu;obtain⟨x,rfl⟩:=hty u hu;rfl
 case qc4=>unfold maxLen;omega
 case qc5=>omega
 case qc6=>simp
 intro v' w1 hown hgrow hnil
 go_wp2
 go_ret
 refine⟨v',rfl,by simpa using hown,?_⟩;exact((Below.refl _ w).alloc (yv _) _).grown hgrow (by simp) (by intro k hk;simp[Value.ownBlock] at hk;omega)
set_option maxHeartbeats 1000000 in
set_option maxRecDepth 100000 in
theorem qPR (n c:Nat) (w:World):Calls Tryz.prog 20 #[.slice none n c] w fun e w'=>e=.returned (.slice none 0 0)∧w'=w:=by
 have mixed:Tryz.prog.follows .mixedOrders=true:=by kernel_rfl
 have q22:∀ (w:World) (a:Option Addr) (n c n' c':Nat),(binOp .eql 22 (.slice a n c) (.slice none n' c')).run Tryz.prog w=.ok (.bool a.isNone) w:=fun w a n c n' c'=>Lib.run_eql_slice_nil w _ _ a n c n' c' Tryz.underlying22
 go_enter Tryz.func20,Tryz.ntmps20
 go_wp2
 go_ret
 exact⟨rfl,rfl⟩
set_option maxHeartbeats 2000000 in
set_option maxRecDepth 100000 in
theorem qKo (a:Addr) (n c:Nat) (vs:List Value) (w:World) (hx:vs.length=n) (hbig:n≤1048576) (hty:∀ u∈vs,∃ x,u=Value.int .u8 x) (hc:∀ (i:Nat) u,vs[i]? = some u→w.cell? (a.add i)=some u) :
 Calls Tryz.prog 82 #[.slice (some a) n c] w fun e w'=>∃ v',e=.returned v'∧w'.ownsRow w.heap.size 5 1 v' n vs∧Below w.heap.size w w':=by
 have mixed:Tryz.prog.follows .mixedOrders=true:=by kernel_rfl
 obtain⟨i0,hi,hz0,hz1,hz2⟩:=info_parts (show (Tryz.prog.info? 5).map (fun i=>(i.zero,i.size,i.bytes))=some (some (.int .u8 0),1,1) by kernel_rfl);have q22:∀ (w:World) (a:Option Addr) (n c n' c':Nat),(binOp .eql 22 (.slice a n c) (.slice none n' c')).run Tryz.prog w=.ok (.bool a.isNone) w:=fun w a n c n' c'=>Lib.run_eql_slice_nil w _ _ a n c n' c' Tryz.underlying22;have u22:∀ w,Sem.run Tryz.prog (underlying 22) w=.ok (TypeDesc.slice 5) w:=yr Tryz.underlying22;have z5:∀ w,Sem.run Tryz.prog (Go.sizeOf 5) w=.ok 1 w:=fun w=>by simp[Go.sizeOf,typeInfo,hi,hz1]
 have A:Aside (∀ (i:Nat) u,vs[i]? = some u→w.cell? (a.add i)=some u):=hc;clear hc
 go_enter Tryz.func82,Tryz.ntmps82
 go_wp2_with (at_builtin;refine wpList_append_own _ rfl _ _ 22 rfl w.heap.size 5 i0 (.int .u8 0) 1 1 Tryz.underlying22 hi hz0 hz1 hz2 rfl (by decide) _ _ _ rfl (World.ownsRow_made w #[] 0 (yv _) (Nat.zero_le _) rfl) a n c vs rfl ?qc1 ?qc2 ?qc3 ?qc4 ?qc5 ?qc6 ?_)
 case qc1=>rw[hx];omega
 case qc2=>intro j u hj;exact Lib.cell?_alloc_some _ (A.out j u hj)
 case qc3=>intro u hu;obtain⟨x,rfl⟩:=hty u hu;rfl
 case qc4=>unfold maxLen;omega
 case qc5=>omega
 case qc6=>simp
 intro v' w1 hown hgrow hnil
 go_wp2
 go_ret
 refine⟨v',rfl,by simpa using hown,?_⟩;exact((Below.refl _ w).alloc (yv _) _).grown hgrow (by simp) (by intro k hk;simp[Value.ownBlock] at hk;omega)
set_option maxHeartbeats 1000000 in
set_option maxRecDepth 100000 in
theorem qPS (n c:Nat) (w:World):Calls Tryz.prog 82 #[.slice none n c] w fun e w'=>e=.returned (.slice none 0 0)∧w'=w:=by
 have mixed:Tryz.prog.follows .mixedOrders=true:=by kernel_rfl
 have q22:∀ (w:World) (a:Option Addr) (n c n' c':Nat),(binOp .eql 22 (.slice a n c) (.slice none n' c')).run Tryz.prog w=.ok (.bool a.isNone) w:=fun w a n c n' c'=>Lib.run_eql_slice_nil w _ _ a n c n' c' Tryz.underlying22
 go_enter Tryz.func82,Tryz.ntmps82
 go_wp2
 go_ret
 exact⟨rfl,rfl⟩
set_option maxHeartbeats 2000000 in
set_option maxRecDepth 100000 in
theorem qKp (a:Addr) (n c:Nat) (vs:List Value) (w:World) (hx:vs.length=n) (hbig:n≤1048576) (hty:∀ u∈vs,∃ x,u=Value.int .i32 x) (hc:∀ (i:Nat) u,vs[i]? = some u→w.cell? (a.add i)=some u) :
 Calls Tryz.prog 43 #[.slice (some a) n c] w fun e w'=>∃ v',e=.returned v'∧w'.ownsRow w.heap.size 21 1 v' n vs∧Below w.heap.size w w':=by
 have mixed:Tryz.prog.follows .mixedOrders=true:=by kernel_rfl
 obtain⟨i0,hi,hz0,hz1,hz2⟩:=info_parts (show (Tryz.prog.info? 21).map (fun i=>(i.zero,i.size,i.bytes))=some (some (.int .i32 0),1,4) by kernel_rfl);have q22:∀ (w:World) (a:Option Addr) (n c n' c':Nat),(binOp .eql 39 (.slice a n c) (.slice none n' c')).run Tryz.prog w=.ok (.bool a.isNone) w:=fun w a n c n' c'=>Lib.run_eql_slice_nil w _ _ a n c n' c' Tryz.underlying39;have u22:∀ w,Sem.run Tryz.prog (underlying 39) w=.ok (TypeDesc.slice 21) w:=yr Tryz.underlying39;have z5:∀ w,Sem.run Tryz.prog (Go.sizeOf 21) w=.ok 1 w:=fun w=>by simp[Go.sizeOf,typeInfo,hi,hz1]
 have A:Aside (∀ (i:Nat) u,vs[i]? = some u→w.cell? (a.add i)=some u):=hc;clear hc
 go_enter Tryz.func43,Tryz.ntmps43
 go_wp2_with (at_builtin;refine wpList_append_own _ rfl _ _ 39 rfl w.heap.size 21 i0 (.int .i32 0) 1 4 Tryz.underlying39 hi hz0 hz1 hz2 rfl (by decide) _ _ _ rfl (World.ownsRow_made w #[] 0 (yv _) (Nat.zero_le _) rfl) a n c vs rfl ?qc1 ?qc2 ?qc3 ?qc4 ?qc5 ?qc6 ?_)
 case qc1=>rw[hx];omega
 case qc2=>intro j u hj;exact Lib.cell?_alloc_some _ (A.out j u hj)
 case qc3=>intro u hu;obtain⟨x,rfl⟩:=hty u hu;rfl
 case qc4=>unfold maxLen;omega
 case qc5=>omega
 case qc6=>simp
 intro v' w1 hown hgrow hnil
 go_wp2
 go_ret
 refine⟨v',rfl,by simpa using hown,?_⟩;exact((Below.refl _ w).alloc (yv _) _).grown hgrow (by simp) (by intro k hk;simp[Value.ownBlock] at hk;omega)
set_option maxHeartbeats 1000000 in
set_option maxRecDepth 100000 in
theorem qPT (n c:Nat) (w:World):Calls Tryz.prog 43 #[.slice none n c] w fun e w'=>e=.returned (.slice none 0 0)∧w'=w:=by
 have mixed:Tryz.prog.follows .mixedOrders=true:=by kernel_rfl
 have q22:∀ (w:World) (a:Option Addr) (n c n' c':Nat),(binOp .eql 39 (.slice a n c) (.slice none n' c')).run Tryz.prog w=.ok (.bool a.isNone) w:=fun w a n c n' c'=>Lib.run_eql_slice_nil w _ _ a n c n' c' Tryz.underlying39
 go_enter Tryz.func43,Tryz.ntmps43
 go_wp2
 go_ret
 exact⟨rfl,rfl⟩
end Go.Proofs
namespace Go.Av
open Go.Proofs Go.RowKit
theorem qrD {w w':World} {S:qa} (hS:∀ b o,S b o→b < w.heap.size) {p:LI} {te:TypeId} {v:Value} (hB:Below w.heap.size w w') (ho:w'.ownsRow w.heap.size te 1 v p.length (p.map (Value.int .i32))) :
 ∃ S',Grew w S w' S'∧ResRd (· < w.heap.size) w' S' v (.dat (.sl (.int .i32)) p none):=by
 let S':qa:=fun b o=>S b o∨(v.ownBlock=some b∧o < p.length)
 have hch:∀ l:LI,qd (RdC w' S' (.int .i32)) l (l.map (Value.int .i32)):=fun l=>by
  induction l with
  | nil=>rfl
  | cons c l ih=>exact⟨[_],_,rfl,rfl,ih⟩
 have hnew:∀ b,v.ownBlock=some b→w.heap.size≤b∧b < w'.heap.size:=fun b hb=>ho.lt b hb;refine⟨S',⟨hB,fun b o hb=>⟨fun hh=>hh.elim id (fun hh=>by have:=(hnew b hh.1).1;omega),.inl⟩,fun b o hh=>hh.elim (fun hh=>yH (hS b o hh) hB.size) (fun hh=>(hnew b hh.1).2)⟩,?_⟩;refine⟨?_,fun s x e=>(by cases e),fun s q e=>(by cases e),fun l te' e=>(by cases e)⟩;rcases ho.2 with ⟨rfl,h0⟩ | ⟨g,cap,cur,rfl,h1,h2,h3,h4,h5,h6⟩
 ·have:p=[]:=yF h0;subst this;exact .dat _ _ _ _ ⟨none,0,[],rfl,yv _,rfl,fun h=>absurd rfl h⟩
 ·refine .dat _ _ _ _ ⟨some ⟨g,0,none⟩,cap,_,rfl,h3,hch p,fun _=>⟨⟨g,0,none⟩,rfl,rfl,fun i u hu=>⟨.inr ⟨rfl,?_⟩,?_⟩⟩⟩
  ·have:=(List.getElem?_eq_some_iff.1 hu).1;rw[yP] at this;show 0+i < p.length;omega
  ·have hi:=(List.getElem?_eq_some_iff.1 hu).1;rw[yP] at hi;rw[← h6,Nat.mul_one,List.getElem?_take_of_lt hi,Array.getElem?_toList] at hu;simp only[World.cell?,h2,Option.isSome_none,yq,if_false];rw[show 0+i=i by omega];exact hu
theorem qmV {w:World} {S:qa}:∀ {l:LI} {cs:List Value},qd (RdC w S (.int .i32)) l cs→cs=l.map (Value.int .i32)
 | [],cs,h=>h
 | x :: l,cs,h=>by
  obtain⟨v1,v2,rfl,h1,h2⟩:=h;have h1:v1=[.int .i32 x]:=h1;rw[h1,qmV h2];rfl
theorem qyt {w:World} {S:qa} (hS:∀ b o,S b o→b < w.heap.size) {vals:List Value} {p:LU} {o:Lab} (ha:qav w S vals [db p o]) (hp:p.length≤1048576) :
 Ran Tryz.prog 20 vals.toArray w fun v w'=>∃ S',Grew w S w' S'∧ResRd (· < w.heap.size) w' S' v (db p (some (0,5))):=by
 obtain⟨u,rfl,h1⟩:=args1 ha;obtain⟨A,cap,cs,ev,hcap,hch,hm⟩:=rd_sl h1;have hcs:=qbH hch;subst ev;have hent:(callFunc 20 #[.slice A (List.length p) cap]).run Tryz.prog w=.ok (.enter 20 #[.slice A (List.length p) cap]) w:=enters_of (c:=Tryz.f20.body.getD .skip) Tryz.func20 (by kernel_rfl) (by kernel_rfl) _ _;cases A with
 | none =>
  have hp0:p=[]:=by
   cases p with
   | nil=>rfl
   | cons c r=>obtain⟨ad,e,_⟩:=hm (by rw[hcs];simp);cases e
  subst hp0;refine .inl ⟨hent,(qPR _ cap w).mono ?_⟩;rintro e w' ⟨rfl,rfl⟩;exact⟨_,rfl,qrC (te:=5) hS (Below.refl _ _) ⟨rfl,.inl ⟨rfl,rfl⟩⟩⟩
 | some ad =>
  have hcell:∀ (i:Nat) u,(p.map (fun c=>Value.int .u8 (c.toNat:Nat)))[i]? = some u→w.cell? (ad.add i)=some u:=fun i u hi=>by
   have hil:i < p.length:=by have:=(List.getElem?_eq_some_iff.1 hi).1;rwa[yP] at this
   obtain⟨ad',e,hmem⟩:=hm (by rw[hcs];rintro e;have:=congrArg List.length e;rw[yP] at this;simp only[List.length_nil] at this;omega);cases e;rw[qdm ad i hmem.1];exact(hmem.2 i u (by rw[hcs];exact hi)).2
  refine .inl ⟨hent,(qKn ad (List.length p) cap (p.map (fun c=>Value.int .u8 (c.toNat:Nat))) w (by rw[yP]) hp (fun u hu=>by obtain⟨x,_,rfl⟩:=List.mem_map.1 hu;exact⟨_,rfl⟩) hcell).mono ?_⟩;rintro e w' ⟨v',rfl,ho,hB⟩;exact⟨v',rfl,qrC hS hB ho⟩
theorem qyu {w:World} {S:qa} (hS:∀ b o,S b o→b < w.heap.size) {vals:List Value} {p:LU} {o:Lab} (ha:qav w S vals [db p o]) (hp:p.length≤1048576) :
 Ran Tryz.prog 82 vals.toArray w fun v w'=>∃ S',Grew w S w' S'∧ResRd (· < w.heap.size) w' S' v (db p (some (0,5))):=by
 obtain⟨u,rfl,h1⟩:=args1 ha;obtain⟨A,cap,cs,ev,hcap,hch,hm⟩:=rd_sl h1;have hcs:=qbH hch;subst ev;have hent:(callFunc 82 #[.slice A (List.length p) cap]).run Tryz.prog w=.ok (.enter 82 #[.slice A (List.length p) cap]) w:=enters_of (c:=Tryz.f82.body.getD .skip) Tryz.func82 (by kernel_rfl) (by kernel_rfl) _ _;cases A with
 | none =>
  have hp0:p=[]:=by
   cases p with
   | nil=>rfl
   | cons c r=>obtain⟨ad,e,_⟩:=hm (by rw[hcs];simp);cases e
  subst hp0;refine .inl ⟨hent,(qPS _ cap w).mono ?_⟩;rintro e w' ⟨rfl,rfl⟩;exact⟨_,rfl,qrC (te:=5) hS (Below.refl _ _) ⟨rfl,.inl ⟨rfl,rfl⟩⟩⟩
 | some ad =>
  have hcell:∀ (i:Nat) u,(p.map (fun c=>Value.int .u8 (c.toNat:Nat)))[i]? = some u→w.cell? (ad.add i)=some u:=fun i u hi=>by
   have hil:i < p.length:=by have:=(List.getElem?_eq_some_iff.1 hi).1;rwa[yP] at this
   obtain⟨ad',e,hmem⟩:=hm (by rw[hcs];rintro e;have:=congrArg List.length e;rw[yP] at this;simp only[List.length_nil] at this;omega);cases e;rw[qdm ad i hmem.1];exact(hmem.2 i u (by rw[hcs];exact hi)).2
  refine .inl ⟨hent,(qKo ad (List.length p) cap (p.map (fun c=>Value.int .u8 (c.toNat:Nat))) w (by rw[yP]) hp (fun u hu=>by obtain⟨x,_,rfl⟩:=List.mem_map.1 hu;exact⟨_,rfl⟩) hcell).mono ?_⟩;rintro e w' ⟨v',rfl,ho,hB⟩;exact⟨v',rfl,qrC hS hB ho⟩
theorem qyv {w:World} {S:qa} (hS:∀ b o,S b o→b < w.heap.size) {vals:List Value} {p:LI} {o:Lab} (ha:qav w S vals [.dat (.sl (.int .i32)) p o]) (hp:p.length≤1048576) :
 Ran Tryz.prog 43 vals.toArray w fun v w'=>∃ S',Grew w S w' S'∧ResRd (· < w.heap.size) w' S' v (.dat (.sl (.int .i32)) p none):=by
 obtain⟨u,rfl,h1⟩:=args1 ha;obtain⟨A,cap,cs,ev,hcap,hch,hm⟩:=rd_sl h1;have hcs:=qmV hch;subst ev;have hent:(callFunc 43 #[.slice A (List.length p) cap]).run Tryz.prog w=.ok (.enter 43 #[.slice A (List.length p) cap]) w:=enters_of (c:=Tryz.f43.body.getD .skip) Tryz.func43 (by kernel_rfl) (by kernel_rfl) _ _;cases A with
 | none =>
  have hp0:p=[]:=by
   cases p with
   | nil=>rfl
   | cons c r=>obtain⟨ad,e,_⟩:=hm (by rw[hcs];simp);cases e
  subst hp0;refine .inl ⟨hent,(qPT _ cap w).mono ?_⟩;rintro e w' ⟨rfl,rfl⟩;exact⟨_,rfl,qrD (te:=21) hS (Below.refl _ _) ⟨rfl,.inl ⟨rfl,rfl⟩⟩⟩
 | some ad =>
  have hcell:∀ (i:Nat) u,(p.map (Value.int .i32))[i]? = some u→w.cell? (ad.add i)=some u:=fun i u hi=>by
   have hil:i < p.length:=by have:=(List.getElem?_eq_some_iff.1 hi).1;rwa[yP] at this
   obtain⟨ad',e,hmem⟩:=hm (by rw[hcs];rintro e;have:=congrArg List.length e;rw[yP] at this;simp only[List.length_nil] at this;omega);cases e;rw[qdm ad i hmem.1];exact(hmem.2 i u (by rw[hcs];exact hi)).2
  refine .inl ⟨hent,(qKp ad (List.length p) cap (p.map (Value.int .i32)) w (by rw[yP]) hp (fun u hu=>by obtain⟨x,_,rfl⟩:=List.mem_map.1 hu;exact⟨_,rfl⟩) hcell).mono ?_⟩;rintro e w' ⟨v',rfl,ho,hB⟩;exact⟨v',rfl,qrD hS hB ho⟩
end Go.Av
namespace Go.Proofs
open Go.Shelf Go.RowKit Go.Lib Go.Av
theorem res_fresh {w w':World} {S:qa} (hS:∀ b o,S b o→b < w.heap.size) {p:LU} {v:Value} (hB:Below w.heap.size w w') (hf:Lib.FreshBytes w.heap.size w' v p) :
 ∃ S',Grew w S w' S'∧ResRd (· < w.heap.size) w' S' v (da p):=by
 obtain⟨g,cap,zs,rfl,h1,h2,h3,h4,h5,h6,h7,h8⟩:=hf
 let S':qa:=fun b o=>S b o∨(b=g∧o < p.length)
 have hlt:p.length≠0→g < w'.heap.size:=fun hne=>World.block_lt_of_cell? w' ⟨g,0,none⟩ (h7 0 (by omega));have hz:∀ i x,p[i]? = some x→w'.cell? ⟨g,i,none⟩=some (.int .u8 (x.toNat:Int)):=fun i x hi=>by
  have hil:=(List.getElem?_eq_some_iff.1 hi).1;have hzi:zs[i]? = some (zs[i]'(by omega)):=yO (by omega);have hr:=h5 _ (List.getElem_mem (h:=(by omega:i < zs.length)));rw[h7 i (by omega),yY,hzi];have e:p[i]? = (Lib.bytesOf (zs.take p.length))[i]? := by rw[h6]
  unfold Lib.bytesOf at e;rw[List.getElem?_map,List.getElem?_take_of_lt hil,hzi,hi] at e;simp only[yU,ya] at e;subst e;simp only[Option.getD_some];congr 2;have:(UInt8.ofNat (zs[i]'(by omega)).toNat).toNat=(zs[i]'(by omega)).toNat % 256:=rfl;rw[this];omega
 have hch:∀ l:LU,qd (RdC w' S' .byte) l (l.map fun c=>Value.int .u8 (c.toNat:Nat)):=fun l=>by
  induction l with
  | nil=>rfl
  | cons c l ih=>exact⟨[_],_,rfl,rfl,ih⟩
 refine⟨S',⟨hB,fun b o hb=>⟨fun hh=>hh.elim id (fun hh=>by have:=hh.1;omega),.inl⟩,fun b o hh=>hh.elim (fun hh=>yH (hS b o hh) hB.size) (fun hh=>by rw[hh.1];exact hlt (by have:=hh.2;omega))⟩,?_⟩;refine⟨.dat _ _ _ _ ⟨some ⟨g,0,none⟩,cap,_,rfl,h2,hch p,fun _=>⟨⟨g,0,none⟩,rfl,rfl,fun i u hu=>?_⟩⟩,fun s x e=>(by cases e),fun s q e=>(by cases e),fun l te' e=>(by cases e)⟩;rw[List.getElem?_map] at hu;obtain⟨x,hx,rfl⟩:=Option.map_eq_some_iff.1 hu;have hil:=(List.getElem?_eq_some_iff.1 hx).1;refine⟨.inr ⟨rfl,by show 0+i < p.length;omega⟩,?_⟩;show w'.cell? ⟨g,0+i,none⟩=_;rw[yE];exact hz i x hx
end Go.Proofs
namespace Go.Av
open Go.Proofs Go.RowKit
theorem que {w:World} {S:qa} (hT:TabC 2 Lib.deBruijn64tab w S) (hS:∀ b o,S b o→b < w.heap.size) {vals:List Value} {x:Int} {o:Lab}
 (ha:qav w S vals [.dat (.int .u64) x o]) (h0:0≤x) (h1:x < 18446744073709551616) :
 Ran Tryz.prog 134 vals.toArray w fun v w'=>∃ S',Grew w S w' S'∧ResRd (· < w.heap.size) w' S' v (.int .i64 (z134 x)):=by
 obtain⟨u,rfl,h2⟩:=args1 ha;obtain rfl:=qaL h2;obtain⟨n,rfl⟩:∃ n:Nat,x=n:=⟨x.toNat,by omega⟩;refine .inl ⟨enters_of (c:=Tryz.f134.body.getD .skip) Tryz.func134 (by kernel_rfl) (by kernel_rfl) _ _,(Any7.bits_TrailingZeros64 Tryz.lays7_29 n (by omega) w (fun _ j hj=>(hT j hj).2)).mono ?_⟩;rintro e w' ⟨rfl,rfl⟩;exact⟨_,rfl,S,qht hS,by
  have:z134 (n:Int)=((Lib.ctz 64 n:Nat):Int):=by simp[z134]
  rw[this];exact qhu⟩
theorem qKq {w:World} {S:qa} {x:LU} {v:Value} (h:RdC w S (.sl .byte) x [v]):Lib.HoldsBytes w v x:=by
 have h':Rd w S v (da x):=.dat _ _ _ _ (by simpa [RdV,Sh.agg] using h);obtain⟨A,cap,rfl,_,hA,hc⟩:=qix h';refine⟨A,cap,rfl,hA,fun ad e i y hi=>?_⟩;have hil:=(List.getElem?_eq_some_iff.1 hi).1;rw[hc ad e i hil];simp[List.getD,List.getElem?_map,hi]
theorem qyw {w:World} {S:qa}:∀ (l:List LU) (cs:List Value),qd (RdC w S (.sl .byte)) l cs→cs.length=l.length∧∀ (i:Nat) v x,cs[i]? = some v→l[i]? = some x→Lib.HoldsBytes w v x
 | [],cs,h=>by
  have:cs=[]:=h;subst this;exact⟨rfl,fun i v x h=>by simp at h⟩
 | y :: l,cs,h=>by
  obtain⟨v1,v2,rfl,h1,h2⟩:=h;have h1':=h1;obtain⟨A,cap,cs',e,_,_⟩:=h1';subst e;obtain⟨k1,k2⟩:=qyw l v2 h2;refine⟨by simp[k1],fun i v x hv hx=>?_⟩;match i,hv,hx with
  | 0,hv,hx =>
   simp only[List.singleton_append,y3,ya] at hv hx;subst hv hx;exact qKq h1
  | i+1,hv,hx =>
   simp only[List.singleton_append,yZ] at hv hx;exact k2 i v x hv hx
theorem qyx (sep:LU):∀ l:List LU,joinB sep l=Lib.join l sep
 | []=>rfl
 | [a]=>by simp[joinB,Lib.join_one]
 | a :: b :: l=>by
  rw[Lib.join_cons];have:=qyx sep (b :: l);rw[Lib.join_cons] at this;simp[joinB,this,Lib.joinTail]
theorem qGO (m:Nat):∀ l:List LU,(∀ s∈l,s.length≤m)→Lib.lens l≤m*l.length
 | [],_=>by simp[Lib.lens]
 | a :: l,h=>by
  have h1:=qGO m l (fun s hs=>h s (List.mem_cons_of_mem _ hs));have h2:=h a List.mem_cons_self;have:Lib.lens (a :: l)=a.length+Lib.lens l:=by simp[Lib.lens]
  rw[this,yg,Nat.mul_succ];omega
theorem qyy {w:World} {S:qa} (hS:∀ b o,S b o→b < w.heap.size) {vals:List Value} {l:List LU} {sep:LU} {o1 o2:Lab}
 (ha:qav w S vals [.dat (.sl (.sl .byte)) l o1,db sep o2]) (hok:quL l sep=true) :
 Ran Tryz.prog 52 vals.toArray w fun v w'=>∃ S',Grew w S w' S'∧ResRd (· < w.heap.size) w' S' v (db (z52 l sep) none):=by
 unfold quL at hok;simp only[yf,ym,List.all_eq_true] at hok;obtain⟨hn,hsep,hl⟩:=hok;have hsl:=qf hsep;obtain⟨u,v,rfl,h1,h2⟩:=args2 ha;obtain⟨A,cap,cs,rfl,hcap,hch,hm⟩:=rd_sl h1;obtain⟨B,cap2,rfl,_,hB,hcB⟩:=qix h2;have hent:∀ a b,(callFunc 52 #[a,b]).run Tryz.prog w=.ok (.enter 52 #[a,b]) w:=fun a b=>enters_of (c:=Tryz.f52.body.getD .skip) Tryz.func52 (by kernel_rfl) (by kernel_rfl) _ _;obtain⟨hcl,hpc⟩:=qyw l cs hch;match l,hcap,hch,hm,hn,hl,hcl,hpc with
 | [],hcap,hch,hm,hn,hl,hcl,hpc =>
  refine .inl ⟨hent _ _,(Any.bytes_Join_none Tryz.laysSlJ14 A cap _ w).mono ?_⟩;rintro e w' ⟨rfl,rfl⟩;refine⟨_,rfl,Go.Proofs.res_fresh hS (qK w _) ⟨w.heap.size,0,[],rfl,yv _,yv _,by decide,rfl,by simp,rfl,by simp,by simp⟩⟩
 | x :: l,hcap,hch,hm,hn,hl,hcl,hpc =>
  obtain⟨ad,rfl,hmem⟩:=hm (by rintro rfl;simp at hcl);have had:∀ i,ad.add i=⟨ad.block,ad.off+i,none⟩:=fun i=>qdm ad i hmem.1;have hadd:ad=⟨ad.block,ad.off,none⟩:=by
   obtain⟨b,o,s⟩:=ad;have:=hmem.1;simp only at this;subst this;rfl
  have hP:Lib.PartsAt w ⟨ad.block,ad.off,none⟩ cs (x :: l):=⟨hcl,fun i v hi=>by rw[← hadd,had];exact(hmem.2 i v hi).2,hpc⟩;match l,hcap,hch,hn,hl,hcl,hpc,hP with
  | [],hcap,hch,hn,hl,hcl,hpc,hP =>
   obtain⟨p0,c0,y,hy,hcell,hp0,hc⟩:=Lib.PartsAt.get hP 0 (by simp);simp only[y3,ya] at hy;subst hy;have hx75:=hl x (by simp);have e0:(⟨ad.block,ad.off,none⟩:Addr).add 0=⟨ad.block,ad.off,none⟩:=Lib.add_plain2 _ _ 0;rw[e0] at hcell;rw[hadd];rcases Nat.eq_zero_or_pos x.length with h0 | h0
   ·have hx:x=[]:=yF h0;subst hx;refine .inl ⟨hent _ _,(Any.bytes_Join_one_empty Tryz.laysSlJ14 ad.block ad.off cap p0 c0 _ w hcell).mono ?_⟩;rintro e w' ⟨rfl,rfl⟩;exact⟨_,rfl,S,qht hS,⟨.dat _ _ _ _ ⟨none,0,[],rfl,yv _,rfl,fun h=>absurd rfl h⟩,fun s x e=>(by cases e),fun s p e=>(by cases e),fun l te e=>(by cases e)⟩⟩
   ·cases p0 with
    | none=>have:=hp0 rfl;subst this;simp at h0
    | some ad0 =>
     refine .inl ⟨hent _ _,(Any.bytes_Join_one Tryz.laysSlJ14 ad.block ad.off cap ad0 c0 x _ w hcell (hc ad0 rfl) h0 (by omega)).mono ?_⟩;rintro e w' ⟨v,rfl,hf,hb⟩;exact⟨v,rfl,Go.Proofs.res_fresh hS hb hf⟩
  | y :: l,hcap,hch,hn,hl,hcl,hpc,hP =>
   rw[hadd];have hlens:=qGO 75 (x :: y :: l) hl;have hmul:sep.length*((x :: y :: l).length - 1)≤1048576*65536:=Nat.mul_le_mul hsl (by omega);refine .inl ⟨hent _ _,(Any.bytes_Join_many Tryz.laysSlJ14 ad.block ad.off (x :: y :: l).length cap cs (x :: y :: l) _ sep w rfl (by simp) hP hcap ⟨B,cap2,rfl,hB,fun a e i z hi=>?_⟩ (by omega) (by omega)).mono ?_⟩
   ·have hil:=(List.getElem?_eq_some_iff.1 hi).1;rw[hcB a e i hil];simp[List.getD,List.getElem?_map,hi]
   ·rintro e w' ⟨v,rfl,hf,hb⟩;refine⟨v,rfl,?_⟩;rw[← qyx] at hf;exact Go.Proofs.res_fresh hS hb hf
end Go.Av
end
