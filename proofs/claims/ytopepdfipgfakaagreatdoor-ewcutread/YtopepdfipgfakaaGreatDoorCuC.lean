import Derived.Test.YtopepdfipgfakaaGreatDoorCuW
import Derived.Shelf.Bytes.SlClone
namespace Go.Proofs
set_option linter.unusedVariables false
set_option linter.unusedSimpArgs false
open Go.Shelf Go.RowKit Go.Lib Go.Av
set_option maxHeartbeats 2000000 in
set_option maxRecDepth 100000 in
theorem quL (a:Addr) (n c:Nat) (xs:List Int) (w:World) (hx:xs.length=n) (hbig:n≤1048576) (hc:∀ i,i < n→w.cell? (a.add i)=some (.int .i32 (xs.getD i 0))) :
 Calls Tryz.prog 68 #[.slice (some a) n c] w fun e w'=>∃ v',e=.returned v'∧w'.ownsRow w.heap.size 21 1 v' n (xs.map (Value.int .i32))∧Below w.heap.size w w':=by
 have mixed:Tryz.prog.follows .mixedOrders=true:=by kernel_rfl
 obtain ⟨i0,hi,hz0,hz1,hz2⟩:=info_parts (show (Tryz.prog.info? 21).map (fun i=>(i.zero,i.size,i.bytes))=some (some (.int .i32 0),1,4) by kernel_rfl)
 have q22:∀ (w:World) (a:Option Addr) (n c n' c':Nat),(binOp .eql 40 (.slice a n c) (.slice none n' c')).run Tryz.prog w=.ok (.bool a.isNone) w:=fun w a n c n' c'=>Lib.run_eql_slice_nil w _ _ a n c n' c' Tryz.underlying40
 have u22:∀ w,Sem.run Tryz.prog (underlying 40) w=.ok (TypeDesc.slice 21) w:=run_underlying Tryz.underlying40
 have z5:∀ w,Sem.run Tryz.prog (Go.sizeOf 21) w=.ok 1 w:=fun w=>by simp [Go.sizeOf,typeInfo,hi,hz1]
 have A:Aside (∀ i,i < n→w.cell? (a.add i)=some (.int .i32 (xs.getD i 0))):=hc
 clear hc
 go_enter Tryz.func68,Tryz.ntmps68
 go_wp2_with (at_builtin; refine wpList_append_own _ rfl _ _ 40 rfl w.heap.size 21 i0 (.int .i32 0) 1 4 Tryz.underlying40 hi hz0 hz1 hz2 rfl (by decide) _ _ _ rfl (World.ownsRow_made w #[] 0 (Nat.le_refl _) (Nat.zero_le _) rfl) a n c (xs.map (Value.int .i32)) rfl ?qc1 ?qc2 ?qc3 ?qc4 ?qc5 ?qc6 ?_)
 case qc1=>simp; omega
 case qc2 =>
  intro j u hj
  have hjn:j < n:=by
   have:=(List.getElem?_eq_some_iff.1 hj).1
   simp at this
   omega
  refine Lib.cell?_alloc_some _ ?_
  rw [A.out j hjn]
  have e:(xs.map (Value.int .i32))[j]? = some (Value.int .i32 (xs.getD j 0)):=by simp [List.getD,List.getElem?_eq_getElem (show j < xs.length by omega)]
  rw [e] at hj
  exact hj
 case qc3=>intro u hu; obtain ⟨x,_,rfl⟩:=List.mem_map.1 hu; rfl
 case qc4=>unfold maxLen; omega
 case qc5=>omega
 case qc6=>simp
 intro v' w1 hown hgrow hnil
 go_wp2
 go_ret
 refine ⟨v',rfl,by simpa using hown,?_⟩
 exact ((Below.refl _ w).alloc (Nat.le_refl _) _).grown hgrow (by simp) (by intro k hk; simp [Value.ownBlock] at hk; omega)
set_option maxHeartbeats 1000000 in
set_option maxRecDepth 100000 in
theorem qAe (n c:Nat) (w:World):Calls Tryz.prog 68 #[.slice none n c] w fun e w'=>e=.returned (.slice none 0 0)∧w'=w:=by
 have mixed:Tryz.prog.follows .mixedOrders=true:=by kernel_rfl
 have q22:∀ (w:World) (a:Option Addr) (n c n' c':Nat),(binOp .eql 40 (.slice a n c) (.slice none n' c')).run Tryz.prog w=.ok (.bool a.isNone) w:=fun w a n c n' c'=>Lib.run_eql_slice_nil w _ _ a n c n' c' Tryz.underlying40
 go_enter Tryz.func68,Tryz.ntmps68
 go_wp2
 go_ret
 exact ⟨rfl,rfl⟩
theorem qAf {w w':World} {S:qa} (hS:∀ b o,S b o→b < w.heap.size) {p:List Int} {te:TypeId} {v:Value} (hB:Below w.heap.size w w') (ho:w'.ownsRow w.heap.size te 1 v p.length (p.map (Value.int .i32))) :
 ∃ S',Grew w S w' S'∧ResRd (· < w.heap.size) w' S' v (.dat (.sl (.int .i32)) p none):=by
 let S':qa:=fun b o=>S b o∨(v.ownBlock=some b∧o < p.length)
 have hch:∀ l:List Int,qd (RdC w' S' (.int .i32)) l (l.map (Value.int .i32)):=fun l=>by
  induction l with
  | nil=>rfl
  | cons c l ih=>exact ⟨[_],_,rfl,rfl,ih⟩
 have hnew:∀ b,v.ownBlock=some b→w.heap.size≤b∧b < w'.heap.size:=fun b hb=>ho.lt b hb
 refine ⟨S',⟨hB,fun b o hb=>⟨fun hh=>hh.elim id (fun hh=>by have:=(hnew b hh.1).1; omega),.inl⟩,fun b o hh=>hh.elim (fun hh=>Nat.lt_of_lt_of_le (hS b o hh) hB.size) (fun hh=>(hnew b hh.1).2)⟩,?_⟩
 refine ⟨?_,fun s x e=>(by cases e),fun s q e=>(by cases e),fun l te' e=>(by cases e)⟩
 rcases ho.2 with ⟨rfl,h0⟩ | ⟨g,cap,cur,rfl,h1,h2,h3,h4,h5,h6⟩
 ·have:p=[]:=List.eq_nil_of_length_eq_zero h0
  subst this
  exact .dat _ _ _ _ ⟨none,0,[],rfl,Nat.le_refl _,rfl,fun h=>absurd rfl h⟩
 ·refine .dat _ _ _ _ ⟨some ⟨g,0,none⟩,cap,_,rfl,h3,hch p,fun _=>⟨⟨g,0,none⟩,rfl,rfl,fun i u hu=>⟨.inr ⟨rfl,?_⟩,?_⟩⟩⟩
  ·have:=(List.getElem?_eq_some_iff.1 hu).1
   rw [List.length_map] at this
   show 0+i < p.length
   omega
  ·have hi:=(List.getElem?_eq_some_iff.1 hu).1
   rw [List.length_map] at hi
   rw [← h6,Nat.mul_one,List.getElem?_take_of_lt hi,Array.getElem?_toList] at hu
   simp only [World.cell?,h2,Option.isSome_none,Bool.false_eq_true,if_false]
   rw [show 0+i=i by omega]
   exact hu
theorem qlv {w:World} {S:qa}:∀ {l:List Int} {cs:List Value},qd (RdC w S (.int .i32)) l cs→cs=l.map (Value.int .i32)
 | [],cs,h=>h
 | x :: l,cs,h=>by
  obtain ⟨v1,v2,rfl,h1,h2⟩:=h
  have h1:v1=[.int .i32 x]:=h1
  rw [h1,qlv h2]
  rfl
theorem quM {w:World} {S:qa} (hS:∀ b o,S b o→b < w.heap.size) {vals:List Value} {p:List Int} {o:Lab} (ha:qae w S vals [.dat (.sl (.int .i32)) p o]) (hp:p.length≤1048576) :
 Ran Tryz.prog 68 vals.toArray w fun v w'=>∃ S',Grew w S w' S'∧ResRd (· < w.heap.size) w' S' v (.dat (.sl (.int .i32)) p none):=by
 obtain ⟨u,rfl,h1⟩:=args1 ha
 obtain ⟨A,cap,cs,ev,hcap,hch,hm⟩:=rd_sl h1
 have hcs:=qlv hch
 subst ev
 have hent:(callFunc 68 #[.slice A (List.length p) cap]).run Tryz.prog w=.ok (.enter 68 #[.slice A (List.length p) cap]) w:=enters_of (c:=Tryz.f68.body.getD .skip) Tryz.func68 (by kernel_rfl) (by kernel_rfl) _ _
 cases A with
 | none =>
  have hp0:p=[]:=by
   cases p with
   | nil=>rfl
   | cons c r=>obtain ⟨ad,e,_⟩:=hm (by rw [hcs]; simp); cases e
  subst hp0
  refine .inl ⟨hent,(qAe _ cap w).mono ?_⟩
  rintro e w' ⟨rfl,rfl⟩
  exact ⟨_,rfl,S,qfT hS,⟨.dat _ _ _ _ ⟨none,0,[],rfl,Nat.le_refl _,rfl,fun h=>absurd rfl h⟩,fun s x e=>(by cases e),fun s q e=>(by cases e),fun l te' e=>(by cases e)⟩⟩
 | some ad =>
  have hcell:∀ i,i < List.length p→w.cell? (ad.add i)=some (.int .i32 (p.getD i 0)):=fun i hi=>by
   obtain ⟨ad',e,hmem⟩:=hm (by rw [hcs]; rintro e; have:=congrArg List.length e; rw [List.length_map] at this; simp only [List.length_nil] at this; omega)
   cases e
   rw [qcN ad i hmem.1]
   have:=(hmem.2 i (.int .i32 p[i]) (by rw [hcs,List.getElem?_map,List.getElem?_eq_getElem hi]; rfl)).2
   rw [this]
   simp [List.getD,List.getElem?_eq_getElem hi]
  refine .inl ⟨hent,(quL ad (List.length p) cap p w rfl hp hcell).mono ?_⟩
  rintro e w' ⟨v',rfl,ho,hB⟩
  exact ⟨v',rfl,qAf hS hB ho⟩
end Go.Proofs
