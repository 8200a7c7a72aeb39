import Derived.Test.YtcfhfjjohmdaoaaDoorFwRep
import Derived.Test.YtcfhfjjohmdaoaaDoorAvA
import Derived.ArgAppend
namespace Go.Proofs
set_option linter.unusedVariables false
set_option linter.unusedSimpArgs false
open Go.Shelf Go.RowKit Go.Lib Go.Av
def ocs (l:List UInt8):List Value:=l.map fun x=>Value.int .u8 (x.toNat:Int)
theorem qgO (l:List UInt8):(ocs l).length=l.length:=yP _
theorem qkx (l m:List UInt8):ocs (l++m)=ocs l++ocs m:=List.map_append
theorem qwZ (l:List UInt8):∀ u∈ocs l,u.oneCell'=true:=fun u hu=>by
 obtain ⟨x,_,rfl⟩:=List.mem_map.1 hu;rfl
def qcq (B:Nat) (w:World) (v:Value) (l:List UInt8):Prop:=w.ownsRow B 5 1 v l.length (ocs l)
theorem qaf {P:Program} (w:World) {ops:Array Oper} {rest:List Oper} {o:Oper} {a:Act} {Q:Exit→Act→World→Prop} (hgd:o.guard=none) (s x:Operand) (t:TypeId)
 (ho:o.op=.call { callee:=.builtin .append,args := #[s,x],argTypes := #[t,t] }) (v u:Value) (hs:a.eval s=v) (hx:a.eval x=u) {R:Value→World→Prop}
 (hr:∃ v' w',(Builtin.append_ #[t,t] o.type #[v,u]).run P w=.ok v' w'∧R v' w') (h:∀ v' w',R v' w'→wpList P ops Q rest (a.put o.dst v') w'):wpList P ops Q (o :: rest) a w:=by
 obtain ⟨v',w',hr,hR⟩:=hr;exact Lib.wpList_append_run_sl w hgd s x t ho v u hs hx hr (h v' w' hR)
theorem info5:∃ i,Tryd.prog.info? 5=some i∧i.zero=some (.int .u8 0)∧i.size=1∧i.bytes=1:=by
 have h:(Tryd.prog.info? 5).map (fun i=>(i.zero,i.size,i.bytes))=some (some (Value.int IntKind.u8 0),1,1):=by kernel_rfl
 obtain ⟨i,hi,e⟩:=Option.map_eq_some_iff.1 h;simp only [yb] at e;exact ⟨i,hi,e⟩
theorem qvP {w:World} {B g c:Nat} (ty:TypeId) (hB:B≤w.heap.size) {l:List UInt8} (hl:l.length=c) (hc:∀ i x,l[i]? = some x→w.cell? ⟨g,i,none⟩=some (.int .u8 (x.toNat:Int))) (a:Addr) (m:List UInt8) (cap:Nat) (hm:m≠[])
 (hs:∀ i x,m[i]? = some x→w.cell? (a.add i)=some (.int .u8 (x.toNat:Int))) (hle:c+m.length≤4194304) :
 ∃ v' w',(Builtin.append_ #[22,22] ty #[.slice (some ⟨g,0,none⟩) c c,.slice (some a) m.length cap]).run Tryd.prog w=.ok v' w'∧qcq B w' v' (l++m)∧Below w.heap.size w w':=by
 obtain ⟨i,hi,hz,hsz,hby⟩:=info5;have hml:0 < m.length:=List.length_pos_iff.2 hm;obtain ⟨v',w',h1,h2,h3⟩:=run_append_arg_grows (P:=Tryd.prog) (w:=w) 22 ty 5 i _ 1 1 Tryd.underlying22 hi hz hsz hby rfl (by omega) ⟨g,0,none⟩ c c (ocs l) (by rw [qgO,hl,Nat.mul_one])
  (fun j u hj=>by
   unfold ocs at hj;rw [List.getElem?_map] at hj;obtain ⟨x,hx,rfl⟩:=Option.map_eq_some_iff.1 hj;have:=hc j x hx;simp only [Addr.add];split
   ·rename_i h0; rw [h0] at this; exact this
   ·simpa using this) a m.length cap (ocs m) (by rw [qgO,Nat.mul_one])
  (fun j u hj=>by
   unfold ocs at hj;rw [List.getElem?_map] at hj;obtain ⟨x,hx,rfl⟩:=Option.map_eq_some_iff.1 hj;exact hs j x hx) (by omega) (by unfold maxLen; omega) (by omega)
 refine ⟨v',w',h1,?_,qbl h3⟩;unfold qcq;rw [qkx,yn,hl];refine ⟨h2.1,h2.2.imp id ?_⟩;rintro ⟨g',cap',cur,k1,k2,k3⟩;exact ⟨g',cap',cur,k1,yL hB k2,k3⟩
theorem qnb {w:World} {B:Nat} (ty:TypeId) (hB:B≤w.heap.size) {v:Value} {l:List UInt8} (hn:qcq B w v l) (A:Option Addr) (m:List UInt8) (cap:Nat) (hA:A=none→m=[])
 (hs:∀ a,A=some a→∀ i x,m[i]? = some x→w.cell? (a.add i)=some (.int .u8 (x.toNat:Int))) (hle:l.length+m.length≤4194304) :
 ∃ v' w',(Builtin.append_ #[22,22] ty #[v,.slice A m.length cap]).run Tryd.prog w=.ok v' w'∧qcq B w' v' (l++m)∧∀ w0:World,w0.heap.size=B→Below B w0 w→Below B w0 w':=by
 obtain ⟨i,hi,hz,hsz,hby⟩:=info5;have key:∃ v' w',(Builtin.append_ #[22,22] ty #[v,.slice A m.length cap]).run Tryd.prog w=.ok v' w'∧App w B 5 1 v l.length m.length (ocs l) (ocs m) v' w':=by
  cases A with
  | none =>
   have:=hA rfl;subst this;obtain ⟨r1,r2⟩:=qkB (P:=Tryd.prog) w B 22 ty 5 i 1 Tryd.underlying22 hi v l.length (ocs l) hn cap;exact ⟨v,w,r1,r2⟩
  | some a =>
   exact qfi (P:=Tryd.prog) w B 22 ty 5 i _ 1 1 Tryd.underlying22 hi hz hsz hby rfl (by omega) v l.length (ocs l) hn a m.length cap (ocs m) (by rw [qgO,Nat.mul_one])
    (fun j u hj=>by
     unfold ocs at hj;rw [List.getElem?_map] at hj;obtain ⟨x,hx,rfl⟩:=Option.map_eq_some_iff.1 hj;exact hs a rfl j x hx) (qwZ m) (by unfold maxLen; omega) (by omega) hB
 obtain ⟨v',w',h1,h2⟩:=key;refine ⟨v',w',h1,?_,fun w0 h0 hb=>?_⟩
 ·unfold qcq;rw [qkx,yn];exact h2.own
 ·have hlt:∀ k,v.ownBlock=some k→B≤k:=fun k hk=>by
   rcases hn.2 with ⟨rfl,_⟩ | ⟨g,cap',cur,rfl,hg,_⟩
   ·cases hk
   ·cases hk; exact hg
  rcases h2.loc with ⟨_,h3⟩ | ⟨_,h3⟩
  ·exact ⟨h3.os.trans hb.os,h3.tape.trans hb.tape,h3.output.trans hb.output,yL hb.size h3.size,fun k hk=>(h3.block k (by rw [← h0] at hk; exact yH hk hb.size) (fun e=>by have:=hlt k e.symm; omega)).trans (hb.block k hk)⟩
  ·exact hb.trans (h3.mono hB)
end Go.Proofs
