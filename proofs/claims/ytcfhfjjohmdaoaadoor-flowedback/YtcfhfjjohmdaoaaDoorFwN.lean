import Derived.Test.YtcfhfjjohmdaoaaDoorFwM
import Derived.Test.YtcfhfjjohmdaoaaDoorFiN
import Derived.Test.YtcfhfjjohmdaoaaDoorFwLay
import Derived.Test.YtcfhfjjohmdaoaaDoorAvE
import Derived.Test.YtcfhfjjohmdaoaaDoorAvE
namespace Go.Av
set_option linter.unusedVariables false
set_option linter.unusedSimpArgs false
open Go.Proofs Go.RowKit
theorem qfh {P:Program} (w:World) (a:Addr) (p:List UInt8) (cap:Nat) (hc:∀ i,i < p.length→w.cell? (a.add i)=some (.int .u8 ((p.map fun c=>(c.toNat:Int)).getD i 0))) (cv:Int) :
 (Extern.BytealgIndexByte.indexByte #[.slice (some a) p.length cap,.int .u8 cv]).run P w=.ok (.int .i64 (Lib.indexByte p cv.toNat.toUInt8)) w:=by
 have hl:=Lib.run_loadBytesX (P:=P) w (p.map fun c=>(c.toNat:Int)) a .empty (fun j x hj=>by
  have hjl:j < p.length:=by have:=(List.getElem?_eq_some_iff.1 hj).1; rwa [yP] at this
  rw [hc j hjl,List.getD_eq_getElem?_getD,hj];rfl)
 rw [qdO,yP] at hl;have hs:=Lib.run_indexByteString (P:=P) ⟨p.toArray⟩ cv w;have he:(⟨ByteArray.empty.data++p.toArray⟩:ByteArray)=⟨p.toArray⟩:=by
  apply ByteArray.ext;show (#[]:Array UInt8)++p.toArray=p.toArray;simp
 rw [he] at hl;change Sem.run P (do
  let b ← Extern.Bytes.bytesOf (.slice (some a) p.length cap)
  let c ← Extern.Bytes.asByte (.int .u8 cv)
  match (List.range b.size).find? fun i=>b[i]! == c with
  | some i=>pure (goInt i)
  | none=>pure (goInt (-1))) w=_
 change Sem.run P (do
  let b ← Extern.Bytes.bytesOf (.string ⟨p.toArray⟩)
  let c ← Extern.Bytes.asByte (.int .u8 cv)
  match (List.range b.size).find? fun i=>b[i]! == c with
  | some i=>pure (goInt i)
  | none=>pure (goInt (-1))) w=_ at hs
 simp only [Extern.Bytes.bytesOf,yh,yu,hl,Result.andThen] at hs ⊢;exact hs
theorem qoq {w:World} {S:qa} (hS:∀ b o,S b o→b < w.heap.size) {vals:List Value} {p:List UInt8} {c:UInt8} {o1 o2:Lab} (ha:qav w S vals [db p o1,.dat .byte c o2]) :
 Ran Tryd.prog 120 vals.toArray w fun v w'=>∃ S',Grew w S w' S'∧ResRd (· < w.heap.size) w' S' v (.int .i64 (Lib.indexByte p c)):=by
 obtain ⟨u,v,rfl,h1,h2⟩:=args2 ha;obtain ⟨A,cap,rfl,hcap,hA,hcA⟩:=qif h1;obtain rfl:=qbb h2;have hx:(c.toNat:Int).toNat.toUInt8=c:=by simp
 refine .inr ⟨.int .i64 (Lib.indexByte p c),w,?_,S,qcz hS,qbO⟩;rw [run_callFunc_extern (e:=Extern.BytealgIndexByte.indexByte) Tryd.func120 (by kernel_rfl) (by kernel_rfl) (by kernel_rfl) (by kernel_rfl)];show ((Extern.BytealgIndexByte.indexByte #[.slice A p.length cap,.int .u8 (c.toNat:Nat)]).run Tryd.prog w).andThen _=_;cases A with
 | none =>
  have hp0:=hA rfl;subst hp0;rw [Lib.run_indexByteNil w _ cap];rfl
 | some a1 =>
  rw [qfh w a1 p cap (hcA _ rfl) _,hx];rfl
end Go.Av
