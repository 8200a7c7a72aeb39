import Derived.Test.YtmageajchmoomaaGreatDoorCtC
import Derived.Lib.IndexBytes
section
namespace Go.Proofs
set_option linter.unusedVariables false
set_option linter.unusedSimpArgs false
open Go.Shelf Go.RowKit Go.Lib Go.Av Go.Maps
theorem qfe (i:Nat):optI (some i)=(i:Int):=rfl
theorem qdq:optI none = -1:=rfl
theorem qmA {name:List UInt8} {l:List qN} {n i:Nat} (hnum:∀ p∈l,-1≤p.2.1∧p.2.1 < 1000) (h:qw name (numP (n:Int)) l=some i):n < 1000:=by
 induction l generalizing i with
 | nil=>cases h
 | cons p l ih =>
  unfold qw at h;cases e:z42 p.1 name&&numP (n:Int) p with
  | true =>
   rw [yf] at e;have:=e.2;unfold numP at this;rw [beq_iff_eq] at this;have:=hnum p List.mem_cons_self;omega
  | false =>
   rw [e,yd] at h;obtain ⟨j,hj,_⟩:=Option.map_eq_some_iff.1 h;exact ih (fun q hq=>hnum q (List.mem_cons_of_mem _ hq)) hj
def LeftD (l:List qN) (name:List UInt8) (n:Nat) (D:DataW Unit):Prop :=
 ∀ m:Nat,n≤m→Maps.has D (.int .i64 (m:Int))=(qw name (numP (m:Int)) l).isSome∧∀ i,qw name (numP (m:Int)) l=some i→D.atKey (.int .i64 (m:Int)) (.lit (.int .i64 0))=.lit (.int .i64 (i:Int))
theorem qmB {l:List qN} {name:List UInt8} {n i:Nat} (hn:n≤1000) (h:qw name (numP (n:Int)) l=some i):numsP l name (1001 - n) (n:Int)=(i:Int) :: numsP l name (1001 - (n+1)) ((n+1:Nat):Int):=by
 rw [show 1001 - n=(1001 - (n+1))+1 by omega];show (match qw name (numP (n:Int)) l with | some i=>(i:Int) :: numsP l name (1001 - (n+1)) ((n:Int)+1) | none=>[])=_;rw [h];rfl
theorem qmC {l:List qN} {name:List UInt8} {n:Nat} (hn:n≤1000) (h:qw name (numP (n:Int)) l=none):numsP l name (1001 - n) (n:Int)=[]:=by
 rw [show 1001 - n=(1001 - (n+1))+1 by omega];show (match qw name (numP (n:Int)) l with | some i=>(i:Int) :: numsP l name (1001 - (n+1)) ((n:Int)+1) | none=>[])=_;rw [h]
theorem qrb {w:World} {base:Nat} {e:TypeId} {size:Nat} {v:Value} {n:Nat} {xs:List Value} (h:w.ownsRow base e size v n xs) {b:Nat} (hb:b < base):some b≠v.ownBlock:=fun e1=>by
 have:=(h.lt b e1.symm).1;omega
theorem qkQ (w:World) (x:Value) (t:TypeId) {b B:Nat} (e:b=w.heap.size) (h:B≤b):(w.alloc (.cells #[x] t)).ownsRow B t 1 (.slice (some ⟨b,0,none⟩) 1 1) 1 [x]:=by
 subst e;exact ⟨rfl,.inr ⟨w.heap.size,1,#[x],rfl,h,heap_alloc_new w _,yv _,by decide,rfl,rfl⟩⟩
structure UseS (w:World) (l:List qN) (name:List UInt8) (r n:Nat) (v:Value) (wr:World):Prop where
 box:wr.heap[r]? = some (.cells #[.int .i64 (optI (qw name extP l)),.int .i64 (optI (qw name qav l)),.map (some (w.heap.size+1))] 120 (0,0))
 high:w.heap.size+1 < r
 map:∃ D,wr.ownsMap Tryz.prog 3 (plainElem (H:=Unit) Tryz.prog 3) (w.heap.size+1) l.length D∧LeftD l name n D
 le:n≤1000
 out:∃ xs:List Int,xs.length=n∧numsP l name 1001 0=xs++numsP l name (1001 - n) (n:Int)∧wr.ownsRow (r+1) 3 1 v n (xs.map (Value.int .i64))
 below:Below w.heap.size w wr
set_option maxHeartbeats 8000000 in
set_option maxRecDepth 1000000 in
theorem qmD (A:Option Addr) (b off n cap:Nat) (hA:0 < n→A=some ⟨b,off,none⟩) (nv vv:Heads) (l:List qN) (name:List UInt8) (N:Value) (w:World) (hn:n=l.length) (hl:n≤1048576) (hc:qgJ w b off nv vv l) (hS:qff w nv l name N)
 (hnum:∀ p∈l,-1≤p.2.1∧p.2.1 < 1000) :
 Calls Tryz.prog 56 #[.slice A n cap,N] w fun e w'=>∃ v,e=.returned v∧w'.ownsRow w.heap.size 3 1 v (usedP l name).length ((usedP l name).map (Value.int .i64))∧Below w.heap.size w w':=by
 subst hn;have hmm := @run_makeMap Tryz.prog;have e45:∀ args w,(callFunc 80 args).run Tryz.prog w=.ok (.enter 80 args) w:=enters_of Tryz.func80 (by kernel_rfl) rfl;obtain ⟨i0,hi,hz0,hz1,hz2⟩:=info_parts (show (Tryz.prog.info? 3).map (fun i=>(i.zero,i.size,i.bytes))=some (some (.int .i64 0),1,8) by kernel_rfl);have HG:Aside (Calls Tryz.prog 80 #[.slice A l.length cap,N] w fun e w'=>(∃ D,w'.ownsMap Tryz.prog 3 (plainElem (H:=Unit) Tryz.prog 3) (w.heap.size+1) l.length D∧NumsD l name l.length D)∧Below w.heap.size w w'∧e=.returned (.agg #[.int .i64 (optI (qw name extP l)),.int .i64 (optI (qw name qav l)),.map (some (w.heap.size+1))])) :=
  qis A b off l.length cap hA nv vv l name N w rfl hl hc hS hnum
 clear hc hS hA;cases e1:qw name extP l with
 | some i =>
  have hi1:((i:Nat):Int) ≠ -1:=by omega
  have hu:usedP l name=[(i:Int)]:=by unfold usedP; rw [e1]
  rw [e1,qfe] at HG
  go_enter Tryz.func56,Tryz.ntmps56
  go_wp2_with (go_at_fn 80; refine HG.out.mono ?_; rintro e w1 ⟨hm,hb,rfl⟩; have hbs:=hb.size)
  go_ret
  rw [hu];exact ⟨_,rfl,qkQ _ _ _ (by simp) (by omega),(hb.alloc hb.size _).alloc (by simp; omega) _⟩
 | none =>
  rw [e1,qdq] at HG
  go_enter Tryz.func56,Tryz.ntmps56
  go_wp2_with (go_at_fn 80; refine HG.out.mono ?_; rintro e w1 ⟨hm,hb,rfl⟩; have hbs:=hb.size; have hmm1:Aside (∃ D,w1.ownsMap Tryz.prog 3 (plainElem (H:=Unit) Tryz.prog 3) (w.heap.size+1) l.length D∧NumsD l name l.length D):=hm; clear hm)
  go_loopw [6,7] (fun v i wr=>∃ n:Nat,i=.int .i64 (n:Int)∧UseS w l name w1.heap.size n v wr) (fun _ i _=>1001 - (RowKit.intOf i).toNat)
  case atStart =>
   obtain ⟨D,hown,hN⟩:=hmm1.out;refine ⟨0,rfl,⟨by rw [e1,qdq]; exact heap_alloc_new w1 _,hown.lt,⟨D,hown.alloc _,fun m _=>?_⟩,by omega,⟨[],rfl,rfl,World.ownsRow_nil _ _ _ _⟩,hb.alloc hbs _⟩⟩;have:=hN (m:Int);rw [List.take_length,decide_eq_true (by omega:(0:Int)≤(m:Int)),Bool.true_and] at this;exact ⟨this.1,fun i hi=>this.2 i (by omega) hi⟩
  case round =>
   obtain ⟨n,rfl,hU⟩:=hrel;have U:Aside (UseS w l name w1.heap.size n u6 wr):=hU;have b1:=qJ U.out.box 1;have b2:=qJ U.out.box 2;simp at b1 b2;obtain ⟨D,hown,hL0⟩:=hU.map;have hL:Aside (LeftD l name n D):=hL0;have hn1:=hU.le;have hkey:keyOf Tryz.prog 3 (.int .i64 (n:Int))=some (.int .i64 (n:Int)):=keyOf_int_mk Tryz.underlying3 (qov _ (by omega));clear hU hL0;cases e2:qw name (numP (n:Int)) l with
   | some i =>
    have hhas:Maps.has D (.int .i64 (n:Int))=true:=by rw [(hL.out n (yv _)).1,e2]; rfl
    have hatD:D.atKey (.int .i64 (n:Int)) (.lit (.int .i64 0))=.lit (.int .i64 (i:Int)):=(hL.out n (yv _)).2 i e2;have hlk:=qmA hnum e2;have b2':Aside (wr.heap[w1.heap.size]? = some (.cells #[.int .i64 (optI (qw name extP l)),.int .i64 (optI (qw name qav l)),.map (some (w.heap.size+1))] 120 (0,0))):=U.out.box;have hhi:=U.out.high;obtain ⟨xs,hx1,hx2,hrow0⟩:=U.out.out;have hrow:Aside (wr.ownsRow (w1.heap.size+1) 3 1 u6 n (xs.map (Value.int .i64))):=hrow0;have hx2':Aside (numsP l name 1001 0=xs++numsP l name (1001 - n) (n:Int)):=hx2;have hown0:Aside (wr.ownsMap Tryz.prog 3 (plainElem (H:=Unit) Tryz.prog 3) (w.heap.size+1) l.length D):=hown;have hrl:=hrow0.1;clear hrow0 hx2
    go_wp2_with (first
     | (at_lookup; refine wpList_lookup_own_ok_int _ rfl _ _ 118 rfl 3 3 .i64 law3 Tryz.underlying118 Tryz.underlying3 (zero3 _) (w.heap.size+1) l.length D rfl hown _ _ rfl hkey ?_; intro cc hat hwc; rw [hhas])
     | (at_delete; refine wpList_delete_own _ rfl _ _ 118 3 rfl 3 law3 Tryz.underlying118 _ (w.heap.size+1) l.length D rfl hown2 _ _ rfl hkey ?_; intro w3 hown3 hturn3)
     | (at_builtin; refine wpList_append_own _ rfl _ _ 98 rfl (w1.heap.size+1) 3 i0 (.int .i64 0) 1 8 Tryz.underlying98 hi hz0 hz1 hz2 rfl (by decide) _ _ _ rfl (hrow.out.alloc _) ⟨wr.heap.size,0,none⟩ 1 1 [.int .i64 cc] rfl rfl (cell_one_new _ _ _) (ints_oneCell .i64 [cc]) (by unfold maxLen; omega) (by omega) (by have:=(Array.getElem?_eq_some_iff.1 b2'.out).1; simp; omega) ?_; intro v' w2 hown' hgrow2 hnil2; have hne2:some (w.heap.size+1)≠u6.ownBlock:=qrb hrow.out (by omega); have hown2:=(hown0.out.alloc (.cells #[.int .i64 cc] 3)).kept hgrow2 hne2; have hb2:=(hgrow2.block w1.heap.size (by have:=(Array.getElem?_eq_some_iff.1 b2'.out).1; simp; omega) (qrb hrow.out (Nat.lt_succ_self _))).trans ((Below.heap_alloc wr _ _ (Array.getElem?_eq_some_iff.1 b2'.out).1).trans b2'.out); have c2:=qJ hb2 2; simp at c2))
    have hcc:cc=(i:Int):=by
     rw [hatD] at hat;injection hat with h1
     injection h1 with h1 h2
     exact h2.symm
    subst hcc;have hlt2:=(Array.getElem?_eq_some_iff.1 hb2).1;have hg3:=hturn3.grown;have hsz:=hgrow2.size;simp only [World.size_alloc] at hsz
    go_roundw
    case rel =>
     refine ⟨n+1,by go_num,⟨(hg3.block _ hlt2 (by simp; omega)).trans hb2,hhi,⟨_,hown3,fun m hm=>?_⟩,by omega,⟨xs++[(i:Int)],by rw [yn,hx1]; rfl,by rw [hx2'.out,qmB hn1 e2,yl]; rfl,?_⟩,?_⟩⟩
     ·have hne:(Lit.int IntKind.i64 (m:Int))≠.int .i64 (n:Int):=fun e=>by injection e with e1 e2; omega
      rw [Maps.has_del_other hne];refine ⟨(hL.out m (by omega)).1,fun j hj=>?_⟩;rw [Maps.atKey_del_other hne];exact (hL.out m (by omega)).2 j hj
     ·rw [List.map_append];refine hown'.kept hg3 (.inr fun e=>?_);have:=(hown'.lt _ e).1;omega
     ·exact ((U.out.below.alloc U.out.below.size _).grown hgrow2 (by have:=U.out.below.size; simp; omega) (fun k hk=>by have:=(hrow.out.lt _ hk).1; omega)).grown hg3 (by have:=U.out.below.size; omega) (fun k hk=>by cases hk; omega)
    case measure=>simp [RowKit.intOf]; omega
   | none =>
    have hhas:Maps.has D (.int .i64 (n:Int))=false:=by rw [(hL.out n (yv _)).1,e2]; rfl
    obtain ⟨xs,hx1,hx2,hrow⟩:=U.out.out;rw [qmC hn1 e2,yF] at hx2;have hbel:Aside (Below w.heap.size w wr):=U.out.below;have hwr:=U.out.below.size;have hhi:=U.out.high;have hR:Aside (wr.ownsRow (w1.heap.size+1) 3 1 u6 n (xs.map (Value.int .i64))):=hrow;have hX:Aside (numsP l name 1001 0=xs):=hx2;rcases hrow.2 with ⟨rfl,rfl⟩ | ⟨g,cp,cur,rfl,hg⟩
    ·have hxs:xs=[]:=yE hx1;subst hxs;cases e3:qw name qav l with
     | some j =>
      have hj1:((j:Nat):Int) ≠ -1:=by omega
      rw [e3,qfe] at b1;have hu:usedP l name=[(j:Int)]:=by unfold usedP; rw [e1,hX.out,e3]
      clear hrow hx2
      go_wp2_with (first
       | (at_lookup; refine wpList_lookup_own_ok_int _ rfl _ _ 118 rfl 3 3 .i64 law3 Tryz.underlying118 Tryz.underlying3 (zero3 _) (w.heap.size+1) l.length D rfl hown _ _ rfl hkey ?_; intro cc hat hwc; rw [hhas]))
      go_ret
      rw [hu];exact ⟨_,rfl,qkQ _ _ _ rfl (by omega),hbel.out.alloc hbel.out.size _⟩
     | none =>
      rw [e3,qdq] at b1;have hu:usedP l name=[]:=by unfold usedP; rw [e1,hX.out,e3]
      clear hrow hx2
      go_wp2_with (first
       | (at_lookup; refine wpList_lookup_own_ok_int _ rfl _ _ 118 rfl 3 3 .i64 law3 Tryz.underlying118 Tryz.underlying3 (zero3 _) (w.heap.size+1) l.length D rfl hown _ _ rfl hkey ?_; intro cc hat hwc; rw [hhas]))
      go_ret
      rw [hu];exact ⟨_,rfl,World.ownsRow_nil _ _ _ _,hbel.out⟩
    ·clear hrow hx2 hg;cases xs with
     | nil =>
      obtain rfl:n=0:=hx1.symm;cases e3:qw name qav l with
      | some j =>
       have hj1:((j:Nat):Int) ≠ -1:=by omega
       rw [e3,qfe] at b1;have hu:usedP l name=[(j:Int)]:=by unfold usedP; rw [e1,hX.out,e3]
       go_wp2_with (first
        | (at_lookup; refine wpList_lookup_own_ok_int _ rfl _ _ 118 rfl 3 3 .i64 law3 Tryz.underlying118 Tryz.underlying3 (zero3 _) (w.heap.size+1) l.length D rfl hown _ _ rfl hkey ?_; intro cc hat hwc; rw [hhas]))
       go_ret
       rw [hu];exact ⟨_,rfl,qkQ _ _ _ rfl (by omega),hbel.out.alloc hbel.out.size _⟩
      | none =>
       rw [e3,qdq] at b1;have hu:usedP l name=[]:=by unfold usedP; rw [e1,hX.out,e3]
       go_wp2_with (first
        | (at_lookup; refine wpList_lookup_own_ok_int _ rfl _ _ 118 rfl 3 3 .i64 law3 Tryz.underlying118 Tryz.underlying3 (zero3 _) (w.heap.size+1) l.length D rfl hown _ _ rfl hkey ?_; intro cc hat hwc; rw [hhas]))
       go_ret
       rw [hu];exact ⟨_,rfl,⟨rfl,hR.out.2.imp id fun ⟨g,c,cu,h1,h2,h3⟩=>⟨g,c,cu,h1,by omega,h3⟩⟩,hbel.out⟩
     | cons x xs =>
      have hn0:n≠0:=by rw [yg] at hx1; omega
      have hn2:((n:Nat):Int)≠0:=by omega
      have hu:usedP l name=x :: xs:=by unfold usedP; rw [e1,hX.out]
      go_wp2_with (first
       | (at_lookup; refine wpList_lookup_own_ok_int _ rfl _ _ 118 rfl 3 3 .i64 law3 Tryz.underlying118 Tryz.underlying3 (zero3 _) (w.heap.size+1) l.length D rfl hown _ _ rfl hkey ?_; intro cc hat hwc; rw [hhas]))
      go_ret
      rw [hu];refine ⟨_,rfl,?_,hbel.out⟩;rw [hx1];exact ⟨hR.out.1,hR.out.2.imp id fun ⟨g,c,cu,h1,h2,h3⟩=>⟨g,c,cu,h1,by omega,h3⟩⟩
end Go.Proofs
namespace Go.Av
open Go.Proofs Go.RowKit
theorem qkR {w w':World} {S:qb} (hS:∀ b o,S b o→b < w.heap.size) (hb:Below w.heap.size w w'):Grew w S w' S :=
 ⟨hb,fun _ _ _=>Iff.rfl,fun b o hs=>yG (hS b o hs) hb.size⟩
theorem qss {w w':World} {S:qb} (hS:∀ b o,S b o→b < w.heap.size) (hb:Below w.heap.size w w'):Keeps w S w' S :=
 fun b o hs=>⟨hs,qp (hb.block b (hS b o hs)) o⟩
theorem qmE {w w':World} {S:qb} (hS:∀ b o,S b o→b < w.heap.size) {p:List Int} {te:TypeId} {v:Value} (hB:Below w.heap.size w w') (ho:w'.ownsRow w.heap.size te 1 v p.length (p.map (Value.int .i64))) :
 ∃ S',Grew w S w' S'∧ResRd (· < w.heap.size) w' S' v (.dat (.sl (.int .i64)) p none):=by
 let S':qb:=fun b o=>S b o∨(v.ownBlock=some b∧o < p.length)
 have hch:∀ l:List Int,qf (RdC w' S' (.int .i64)) l (l.map (Value.int .i64)):=fun l=>by
  induction l with
  | nil=>rfl
  | cons c l ih=>exact ⟨[_],_,rfl,rfl,ih⟩
 have hnew:∀ b,v.ownBlock=some b→w.heap.size≤b∧b < w'.heap.size:=fun b hb=>ho.lt b hb;refine ⟨S',⟨hB,fun b o hb=>⟨fun hh=>hh.elim id (fun hh=>by have:=(hnew b hh.1).1; omega),.inl⟩,fun b o hh=>hh.elim (fun hh=>yG (hS b o hh) hB.size) (fun hh=>(hnew b hh.1).2)⟩,?_⟩;refine ⟨?_,fun s x e=>(by cases e),fun s q e=>(by cases e),fun l te' e=>(by cases e)⟩;rcases ho.2 with ⟨rfl,h0⟩ | ⟨g,cap,cur,rfl,h1,h2,h3,h4,h5,h6⟩
 ·have:p=[]:=yE h0;subst this;exact .dat _ _ _ _ ⟨none,0,[],rfl,yv _,rfl,fun h=>absurd rfl h⟩
 ·refine .dat _ _ _ _ ⟨some ⟨g,0,none⟩,cap,_,rfl,h3,hch p,fun _=>⟨⟨g,0,none⟩,rfl,rfl,fun i u hu=>⟨.inr ⟨rfl,?_⟩,?_⟩⟩⟩
  ·have:=(List.getElem?_eq_some_iff.1 hu).1;rw [yO] at this;show 0+i < p.length;omega
  ·have hi:=(List.getElem?_eq_some_iff.1 hu).1;rw [yO] at hi;rw [← h6,Nat.mul_one,List.getElem?_take_of_lt hi,Array.getElem?_toList] at hu;simp only [World.cell?,h2,Option.isSome_none,yq,if_false];rw [show 0+i=i by omega];exact hu
abbrev parSh:Sh:=.pair (.sl .byte) (.pair (.int .i64) (.pair .bool (.pair (.sl .byte) .unit)))
theorem qou {w:World} {S:qb} {p:qN} {c:List Value} (h:RdC w S parSh p c):∃ a n k a' n' k',c=[.slice a n k,.int .i64 p.2.1,.bool p.2.2.1,.slice a' n' k']∧RdC w S (.sl .byte) p.1 [.slice a n k]:=by
 obtain ⟨v1,v2,rfl,h1,v3,v4,rfl,h3,v5,v6,rfl,h5,v7,v8,rfl,h7,h8⟩:=h;have e1:=h1;obtain ⟨A,cap,cs,rfl,_⟩:=e1;obtain ⟨A',cap',cs',rfl,_⟩:=h7;have e3:v3=[.int .i64 p.2.1]:=h3;have e5:v5=[.bool p.2.2.1]:=h5;have e8:v8=[]:=h8;subst e3 e5 e8;exact ⟨_,_,_,_,_,_,rfl,h1⟩
theorem qmT {w:World} {S:qb}:∀ {l:List qN} {cs:List Value},qf (RdC w S parSh) l cs→∀ (i:Nat) p,l[i]? = some p→∃ a n k a' n' k',cs[i*4]? = some (.slice a n k)∧cs[i*4+1]? = some (.int .i64 p.2.1)∧cs[i*4+2]? = some (.bool p.2.2.1)∧cs[i*4+3]? = some (.slice a' n' k')∧RdC w S (.sl .byte) p.1 [.slice a n k]
 | [],cs,h,i,p,hp=>by simp at hp
 | q :: l,cs,h,i,p,hp=>by
  obtain ⟨v1,v2,rfl,h1,h2⟩:=h;obtain ⟨a,n,k,a',n',k',rfl,hr⟩:=qou h1;match i,hp with
  | 0,hp =>
   simp only [yX,ya] at hp;subst hp;exact ⟨a,n,k,a',n',k',rfl,rfl,rfl,rfl,hr⟩
  | i+1,hp =>
   simp only [yW] at hp;obtain ⟨b,m,j,b',m',j',g1,g2,g3,g4,g5⟩:=qmT h2 i p hp;refine ⟨b,m,j,b',m',j',?_,?_,?_,?_,g5⟩;all_goals
    rw [show (i+1)*4=i*4+4 by omega];simpa using (by assumption)
def slA:Option Value→Option Addr
 | some (.slice a _ _)=>a
 | _=>none
def slN:Option Value→Nat
 | some (.slice _ n _)=>n
 | _=>0
def slC:Option Value→Nat
 | some (.slice _ _ c)=>c
 | _=>0
def qbv (cs:List Value) (k:Nat):Heads:=⟨fun i=>slA cs[i*4+k]?,fun i=>slN cs[i*4+k]?,fun i=>slC cs[i*4+k]?⟩
theorem qiq {sp:List AV→Bool×AV} (hso:qds G Tryz.prog 42 sp) (hsp:∀ (a b:List UInt8) (o1 o2:Lab),sp [da a o1,da b o2]=(qkK a b,.dat .bool (z42 a b) none))
 {w:World} {S:qb} (hS:∀ b o,S b o→b < w.heap.size) {vals:List Value} {l:List qN} {nm:List UInt8} {o1 o2:Lab} (ha:qac w S vals [.dat (.sl parSh) l o1,da nm o2]) (hok:qoq l nm=true) :
 Ran Tryz.prog 56 vals.toArray w fun v w'=>∃ S',Grew w S w' S'∧ResRd (· < w.heap.size) w' S' v (.dat (.sl (.int .i64)) (z56 l nm) none):=by
 obtain ⟨u,N,rfl,h1,h2⟩:=args2 ha;obtain ⟨A,cap,cs,rfl,hcap,hch,hm⟩:=rd_sl h1;unfold qoq psOk at hok;simp only [yf,ym] at hok;obtain ⟨⟨hl,hall⟩,hn⟩:=hok;have hall':∀ p∈l,lenOk p.1=true∧(-1≤p.2.1∧p.2.1 < 1000):=fun p hp=>by
  have:=List.all_eq_true.1 hall p hp;simp only [yf,ym] at this;exact ⟨this.1,this.2.2⟩
 have hent:(callFunc 56 #[.slice A (List.length l) cap,N]).run Tryz.prog w=.ok (.enter 56 #[.slice A (List.length l) cap,N]) w:=enters_of (c:=Tryz.f56.body.getD .skip) Tryz.func56 (by kernel_rfl) (by kernel_rfl) _ _;have h4:=qmT hch;have hA:∃ b off,(0 < l.length→A=some ⟨b,off,none⟩)∧∀ i u,cs[i]? = some u→S b (off+i)∧w.cell? ⟨b,off+i,none⟩=some u:=by
  by_cases h0:cs=[]
  ·subst h0;refine ⟨0,0,fun h=>?_,fun i u hu=>by simp at hu⟩;obtain ⟨p,hp⟩:∃ p,l[0]? = some p:=⟨l[0],yN h⟩;obtain ⟨_,_,_,_,_,_,g,_⟩:=h4 0 p hp;simp at g
  ·obtain ⟨ad,rfl,hs,hmem⟩:=hm h0;refine ⟨ad.block,ad.off,fun _=>?_,fun i u hu=>hmem i u hu⟩;obtain ⟨b,o,s⟩:=ad;have:s=none:=by simpa using hs
   subst this;rfl
 obtain ⟨b,off,hA,hcell⟩:=hA;have hcells:qgJ w b off (qbv cs 0) (qbv cs 3) l:=fun i p hp=>by
  obtain ⟨a,n,k,a',n',k',g1,g2,g3,g4,_⟩:=h4 i p hp;refine ⟨?_,(hcell _ _ g2).2,(hcell _ _ g3).2,?_⟩
  ·have:=(hcell _ _ g1).2;simpa [qbv,slA,slN,slC,g1] using this
  ·have:=(hcell _ _ g4).2;rw [← yQ] at this;simpa [qbv,slA,slN,slC,g4] using this
 have hsame:qff w (qbv cs 0) l nm N:=fun w' i p hb hp=>by
  obtain ⟨a,n,k,a',n',k',g1,g2,g3,g4,g5⟩:=h4 i p hp;have hk:=qss hS hb;have hS':∀ b o,S b o→b < w'.heap.size:=fun b o hs=>yG (hS b o hs) hb.size;have hr1:Rd w' S (.slice a n k) (da p.1 none):=.dat _ _ _ _ (by simpa [RdV,Sh.agg] using RdC.keeps hk _ _ _ g5);have hr2:Rd w' S N (da nm o2):=h2.keeps hk;have hv:(qbv cs 0).a i=a∧(qbv cs 0).n i=n∧(qbv cs 0).c i=k:=by simp [qbv,slA,slN,slC,g1]
  rw [hv.1,hv.2.1,hv.2.2];have hp1:=(hall' p (List.mem_of_getElem? hp)).1;rcases hso w' S trivial [.slice a n k,N] [da p.1 none,da nm o2] _ (by rw [hsp]; exact Prod.ext (by unfold qkK; rw [hp1,hn]; rfl) rfl) hS' (qan hr1 (qan hr2 (qdu _ _))) with ⟨_,h3⟩ | ⟨v,w2,h3,_⟩
  ·refine h3.mono fun e w2 ⟨v,he,S2,g2,hr⟩=>?_;have:=qaL hr.rd;subst this;exact ⟨he,g2.below⟩
  ·exfalso;have:(callFunc 42 #[.slice a n k,N]).run Tryz.prog w'=.ok (.enter 42 #[.slice a n k,N]) w':=enters_of (c:=Tryz.f42.body.getD .skip) Tryz.func42 (by kernel_rfl) (by kernel_rfl) _ _;rw [this] at h3;cases h3
 refine .inl ⟨hent,(qmD A b off l.length cap hA (qbv cs 0) (qbv cs 3) l nm N w rfl hl hcells hsame (fun p hp=>(hall' p hp).2)).mono ?_⟩;rintro e w' ⟨v,rfl,ho,hB⟩;exact ⟨v,rfl,qmE hS hB ho⟩
theorem qgI {sp:List AV→Bool×AV} (hso:qds G Tryz.prog 62 sp) (hsp:∀ (a:List UInt8) (c:UInt8) (o1 o2:Lab),sp [da a o1,.dat .byte c o2]=(true,.dat (.int .i64) (Lib.indexByte a c) none))
 {w:World} {S:qb} (hS:∀ b o,S b o→b < w.heap.size) {vals:List Value} {s t:List UInt8} {o1 o2:Lab} (ha:qac w S vals [da s o1,da t o2]) (hok:qkJ s t=true) :
 Ran Tryz.prog 143 vals.toArray w fun v w'=>∃ S',Grew w S w' S'∧ResRd (· < w.heap.size) w' S' v (.dat (.int .i64) (z143 s t) none):=by
 obtain ⟨u,N,rfl,h1,h2⟩:=args2 ha;obtain ⟨A,cap,rfl,hcap,hA,hcA⟩:=qgH h1;obtain ⟨B,cap2,rfl,hcap2,hB,hcB⟩:=qgH h2;unfold qkJ at hok;simp only [yf,ym] at hok;obtain ⟨c,rfl⟩:∃ c,t=[c]:=List.length_eq_one_iff.1 hok.2.2;have hent:(callFunc 143 #[.slice A (List.length s) cap,.slice B (List.length [c]) cap2]).run Tryz.prog w=.ok (.enter 143 #[.slice A (List.length s) cap,.slice B (List.length [c]) cap2]) w:=enters_of (c:=Tryz.f143.body.getD .skip) Tryz.func143 (by kernel_rfl) (by kernel_rfl) _ _;cases B with
 | none=>cases hB rfl
 | some b2 =>
  have hc:=hcB b2 rfl 0 (by simp);refine .inl ⟨hent,(index_one A s.length cap b2 cap2 c (Lib.indexByte s c) w (by simpa [Addr.add] using hc) ?_).mono ?_⟩
  ·have hr2:Rd w S (.int .u8 (c.toNat:Int)) (.dat .byte c none):=.dat _ _ _ _ (by simp [RdV,Sh.agg,RdC]);rcases hso w S trivial [.slice A s.length cap,.int .u8 (c.toNat:Int)] [da s o1,.dat .byte c none] _ (hsp s c o1 none) hS (qan h1 (qan hr2 (qdu _ _))) with ⟨_,h3⟩ | ⟨v,w2,h3,_⟩
   ·refine h3.mono fun e w2 ⟨v,he,S2,g2,hr⟩=>?_;have:=qal hr.rd;subst this;exact ⟨he,g2.below⟩
   ·exfalso;have:(callFunc 62 #[.slice A s.length cap,.int .u8 (c.toNat:Int)]).run Tryz.prog w=.ok (.enter 62 #[.slice A s.length cap,.int .u8 (c.toNat:Int)]) w:=enters_of (c:=Tryz.f62.body.getD .skip) Tryz.func62 (by kernel_rfl) (by kernel_rfl) _ _;rw [this] at h3;cases h3
  ·rintro e w' ⟨rfl,hb⟩;refine ⟨_,rfl,S,qkR hS hb,?_⟩;rw [show z143 s [c]=Lib.indexByte s c from Lib.index_one s c];exact qfd
end Go.Av
end
