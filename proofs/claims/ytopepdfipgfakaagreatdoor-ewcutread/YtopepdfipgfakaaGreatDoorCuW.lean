import Derived.Test.YtopepdfipgfakaaGreatDoorCuN
import Derived.WalkKit
import Derived.Lib.Walk
namespace Go.Proofs
set_option linter.unusedVariables false
set_option linter.unusedSimpArgs false
open Go.Shelf Go.RowKit Go.Lib Go.Av
set_option maxHeartbeats 4000000 in
set_option maxRecDepth 1000000 in
theorem qtq (a0 a1 a3:Int) (A:Option Addr) (n cap:Nat) (w:World) :
 Calls Tryz.prog 67 #[.int .i64 a0,.int .i64 a1,.slice A n cap,.int .i64 a3] w fun e w'=>e=.returned (qgq 113 [w.heap.size+2,w.heap.size,w.heap.size+1,w.heap.size+3]) ∧
  w'=(((w.alloc (.cells #[.int .i64 a0] 3)).alloc (.cells #[.int .i64 a1] 3)).alloc (.cells #[.slice A n cap] 40)).alloc (.cells #[.int .i64 a3] 3):=by
 have mixed:Tryz.prog.follows .mixedOrders=true:=by kernel_rfl
 go_enter Tryz.func67,Tryz.ntmps67
 go_wp2
 go_ret
 exact ⟨rfl,rfl⟩
theorem qfP {w:World} {S:qa} {s:Sh} {x:Den s} {b:Nat} {v:Value} {T:TypeId} (hb:w.heap[b]? = some (.cells #[v] T (0,0))) (hr:RdC w S s x [v]) (hs:PSh.size (.leaf s)=1) (hn:∀ o,¬ S b o) :
 Root w S (.leaf s) x none (.blk b 0) (fun k=>k=b) where
 blk:=fun g hg=>by
  simp only [Spot.block,Option.some.injEq] at hg
  subst hg
  exact ⟨rfl,hn,_,_,hb,by simp [hs]⟩
 core:=by
  refine ⟨fun k hk=>hk.2 (by simp [Spot.block,hk.1]),[v],hr,fun i u hi=>?_⟩
  match i,hi with
  | 0,hi =>
   simp only [List.getElem?_cons_zero,Option.some.injEq] at hi
   subst hi
   simp [Spot.rdr,blkR,World.cell?,hb]
  | i+1,hi=>simp at hi
 hdr:=fun v hv=>by cases hv
theorem qyY {w:World} {S:qa} (hS:∀ b o,S b o→b < w.heap.size) {vals:List Value} {a0 a1 a3:Int} {a2:List Int} {o0 o1 o2 o3:Lab}
 (ha:qae w S vals [.dat (.int .i64) a0 o0,.dat (.int .i64) a1 o1,.dat (.sl (.int .i32)) a2 o2,.dat (.int .i64) a3 o3]) :
 Ran Tryz.prog 67 vals.toArray w fun v w'=>∃ (S':qa) (F:Nat→Prop),TurnedBut (fun _=>False) w S w' S'∧AbsOk Tryz.prog (clInv 113 [.leaf (.sl (.int .i32)),.leaf (.int .i64),.leaf (.int .i64),.leaf (.int .i64)]) ∧
  (clInv 113 [.leaf (.sl (.int .i32)),.leaf (.int .i64),.leaf (.int .i64),.leaf (.int .i64)]).I (a2,(a0,(a1,(a3,())))) v w' S' F∧∀ b,F b→w.heap.size≤b:=by
 match vals,ha with
 | [],h=>cases h.1
 | [_],h=>cases h.1
 | [_,_],h=>cases h.1
 | [_,_,_],h=>cases h.1
 | _ :: _ :: _ :: _ :: _ :: _,h=>have:=h.1; simp at this
 | [v0,v1,v2,v3],h =>
  have h0:=h.2 0 v0 _ rfl rfl
  have h1:=h.2 1 v1 _ rfl rfl
  have h2:=h.2 2 v2 _ rfl rfl
  have h3:=h.2 3 v3 _ rfl rfl
  obtain rfl:=qT h0
  obtain rfl:=qT h1
  obtain rfl:=qT h3
  obtain ⟨A,cap,cs,rfl,hcap,hch,hm⟩:=rd_sl h2
  have hd:RdC w S (.sl (.int .i32)) a2 [.slice A a2.length cap]:=⟨A,cap,cs,rfl,hcap,hch,hm⟩
  refine .inl ⟨enters_of (c:=Tryz.f67.body.getD .skip) Tryz.func67 (by kernel_rfl) (by kernel_rfl) _ _,(qtq a0 a1 a3 A a2.length cap w).mono ?_⟩
  rintro e w' ⟨rfl,hw'⟩
  have hB:Below w.heap.size w w':=by
   rw [hw']
   exact ((((Below.refl _ w).alloc (Nat.le_refl _) _).alloc (by simp) _).alloc (by simp; omega) _).alloc (by simp; omega) _
  have hk:Keeps w S w' S:=fun b o hs=>⟨hs,qi (hB.block b (hS b o hs)) o⟩
  have hh:w'.heap=(((w.heap.push (.cells #[.int .i64 a0] 3)).push (.cells #[.int .i64 a1] 3)).push (.cells #[.slice A a2.length cap] 40)).push (.cells #[.int .i64 a3] 3):=by rw [hw']; rfl
  have e0:w'.heap[w.heap.size]? = some (.cells #[.int .i64 a0] 3 (0,0)):=by rw [hh]; simp only [Array.getElem?_push,Array.size_push]; repeat (first | rfl | rw [if_pos (by omega)] | rw [if_neg (by omega)] | rw [if_pos trivial])
  have e1:w'.heap[w.heap.size+1]? = some (.cells #[.int .i64 a1] 3 (0,0)):=by rw [hh]; simp only [Array.getElem?_push,Array.size_push]; repeat (first | rfl | rw [if_pos (by omega)] | rw [if_neg (by omega)] | rw [if_pos trivial])
  have e2:w'.heap[w.heap.size+2]? = some (.cells #[.slice A a2.length cap] 40 (0,0)):=by rw [hh]; simp only [Array.getElem?_push,Array.size_push]; repeat (first | rfl | rw [if_pos (by omega)] | rw [if_neg (by omega)] | rw [if_pos trivial])
  have e3:w'.heap[w.heap.size+3]? = some (.cells #[.int .i64 a3] 3 (0,0)):=by rw [hh]; simp only [Array.getElem?_push,Array.size_push]; repeat (first | rfl | rw [if_pos (by omega)] | rw [if_neg (by omega)] | rw [if_pos trivial])
  have hn:∀ k o,w.heap.size≤k→¬ S k o:=fun k o hle hs=>by have:=hS k o hs; omega
  refine ⟨_,rfl,S,fun k=>k=w.heap.size+2∨k=w.heap.size∨k=w.heap.size+1∨k=w.heap.size+3,⟨⟨hB.os,hB.tape,hB.output,hB.size,fun k hk=>hB.block k hk.1⟩,fun _ _ _ _=>Iff.rfl,hk,fun b o hs=>Nat.lt_of_lt_of_le (hS b o hs) hB.size⟩,qEN _ _ _,⟨_,rfl,?_⟩,fun b hb=>by omega⟩
  refine ⟨_,_,fun k=>k=w.heap.size+2,fun k=>k=w.heap.size∨k=w.heap.size+1∨k=w.heap.size+3,rfl,qfP e2 (RdC.keeps hk _ _ _ hd) rfl (fun o=>hn _ o (by omega)),?_,fun k=>Iff.rfl,fun k h h'=>by omega⟩
  refine ⟨_,_,fun k=>k=w.heap.size,fun k=>k=w.heap.size+1∨k=w.heap.size+3,rfl,qfP e0 rfl rfl (fun o=>hn _ o (by omega)),?_,fun k=>Iff.rfl,fun k h h'=>by omega⟩
  refine ⟨_,_,fun k=>k=w.heap.size+1,fun k=>k=w.heap.size+3,rfl,qfP e1 rfl rfl (fun o=>hn _ o (by omega)),?_,fun k=>Iff.rfl,fun k h h'=>by omega⟩
  exact ⟨_,_,fun k=>k=w.heap.size+3,fun _=>False,rfl,qfP e3 rfl rfl (fun o=>hn _ o (by omega)),⟨rfl,fun _ h=>h⟩,fun k=>⟨.inl,fun h=>h.elim id False.elim⟩,fun _ _ h=>h⟩
end Go.Proofs
