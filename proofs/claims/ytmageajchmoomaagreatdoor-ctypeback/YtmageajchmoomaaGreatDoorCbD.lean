import Derived.Test.YtmageajchmoomaaGreatDoorCbC
import Derived.Deep.LoopGhost
import Derived.Maps.RangeWalk
import Derived.Lib.IndexBytes
section
namespace Go.Proofs
set_option linter.unusedVariables false
set_option linter.unusedSimpArgs false
open Go.Shelf Go.RowKit Go.Lib Go.Av Go.Maps
set_option maxHeartbeats 2000000 in
set_option maxRecDepth 100000 in
theorem index_one (A:Option Addr) (n cap:Nat) (a2:Addr) (cap2:Nat) (c:UInt8) (v:Int) (w:World) (hc:w.cell? a2=some (.int .u8 (c.toNat:Int)))
 (h91:Calls Tryz.prog 62 #[.slice A n cap,.int .u8 (c.toNat:Int)] w fun e w'=>e=.returned (.int .i64 v)∧Below w.heap.size w w') :
 Calls Tryz.prog 143 #[.slice A n cap,.slice (some a2) 1 cap2] w fun e w'=>e=.returned (.int .i64 v)∧Below w.heap.size w w':=by
 have e91:∀ args w,(callFunc 62 args).run Tryz.prog w=.ok (.enter 62 args) w:=enters_of Tryz.func62 (by kernel_rfl) rfl;have hc0:w.cell? (a2.add 0)=some (.int .u8 (c.toNat:Int)):=by simpa [Addr.add] using hc
 go_enter Tryz.func143,Tryz.ntmps143
 go_wp2_with (go_at_fn 62;refine h91.mono ?_;rintro e w1 ⟨rfl,hb⟩)
 go_ret
 exact⟨rfl,hb⟩
structure Heads where
 a:Nat→Option Addr
 n:Nat→Nat
 c:Nat→Nat
def qlP (w:World) (nv:Heads) (l:List qc) (name:LU) (N:Value):Prop :=
 ∀ w' i p,Below w.heap.size w w'→l[i]? = some p→Calls Tryz.prog 42 #[.slice (nv.a i) (nv.n i) (nv.c i),N] w' fun e w''=>e=.returned (.bool (z42 p.1 name))∧Below w'.heap.size w' w''
def qqz (w:World) (b off:Nat) (nv vv:Heads) (l:List qc):Prop :=
 ∀ i p,l[i]? = some p→w.cell? ⟨b,off+i*4,none⟩=some (.slice (nv.a i) (nv.n i) (nv.c i))∧w.cell? ⟨b,off+i*4+1,none⟩=some (.int .i64 p.2.1)∧w.cell? ⟨b,off+i*4+2,none⟩=some (.bool p.2.2.1)∧w.cell? ⟨b,off+i*4+3,none⟩=some (.slice (vv.a i) (vv.n i) (vv.c i))
def optI:Option Nat→Int
 | none => -1
 | some i=>(i:Int)
def NumsD (l:List qc) (name:LU) (k:Nat) (D:DataW Unit):Prop :=
 ∀ n:Int,Maps.has D (.int .i64 n)=(decide (0≤n)&&(qm name (numP n) (l.take k)).isSome)∧∀ i,0≤n→qm name (numP n) (l.take k)=some i→D.atKey (.int .i64 n) (.lit (.int .i64 0))=.lit (.int .i64 (i:Int))
structure GatS (w:World) (l:List qc) (name:LU) (k:Nat) (wr:World):Prop where
 box:wr.heap[w.heap.size+2]? = some (.cells #[.int .i64 (optI (qm name extP (l.take k))),.int .i64 (optI (qm name qaE (l.take k))),.map (some (w.heap.size+1))] 120 (0,0))
 res:wr.heap[w.heap.size]? = some (.cells #[.int .i64 0,.int .i64 0,.map none] 120 (0,0))
 map:∃ D,wr.ownsMap Tryz.prog 3 (plainElem (H:=Unit) Tryz.prog 3) (w.heap.size+1) k D∧NumsD l name k D
 below:Below w.heap.size w wr
theorem qV {w:World} {b:Nat} {cs:Array Value} {t:TypeId} {fr:Nat×Nat} (h:w.heap[b]? = some (.cells cs t fr)) (o:Nat):w.cell? ⟨b,o,none⟩=cs[o]? := by
 unfold World.cell?
 rw[h];rfl
theorem qaR (name:LU) (f:qc→Bool):∀ (l:List qc) (k:Nat) (p:qc),l[k]? = some p →
 qm name f (l.take (k+1))=match qm name f (l.take k) with | some i=>some i | none=>bif z42 p.1 name&&f p then some k else none
 | [],k,p,h=>by simp at h
 | q :: l,0,p,h=>by
  simp only[y3,ya] at h;subst h;simp[qm]
 | q :: l,k+1,p,h=>by
  simp only[yZ] at h;rw[List.take_succ_cons,List.take_succ_cons];unfold qm;rw[qaR name f l k p h];cases z42 q.1 name&&f q with
  | true=>rfl
  | false =>
   simp only[yd];cases qm name f (l.take k) with
   | some i=>rfl
   | none =>
    simp only[Option.map_none];cases z42 p.1 name&&f p <;> rfl
theorem qr {w:World} {b:Nat} {cs:Array Value} {t:TypeId} (h:w.heap[b]? = some (.cells cs t (0,0))) (o:Nat):w.frozen? ⟨b,o,none⟩=false:=by
 unfold World.frozen?
 rw[h];simp
theorem qbY {w:World} {b o:Nat} {cs:Array Value} {t:TypeId} {fr:Nat×Nat} {v:Value} (h:w.heap[b]? = some (.cells cs t fr)):(w.setCell ⟨b,o,none⟩ v).heap[b]? = some (.cells (cs.setIfInBounds o v) t fr):=by
 obtain⟨h1,h2⟩:=Array.getElem?_eq_some_iff.1 h;simp only[World.setCell];rw[Array.getElem?_eq_getElem (by rw[Array.size_modify];exact h1),Array.getElem_modify_self,h2];rfl
theorem qAJ {w wr w1:World} {l:List qc} {name:LU} {k:Nat} (h:GatS w l name k wr) (hb:Below wr.heap.size wr w1):GatS w l name k w1 where
 box:=(hb.block _ (Array.getElem?_eq_some_iff.1 h.box).1).trans h.box
 res:=(hb.block _ (Array.getElem?_eq_some_iff.1 h.res).1).trans h.res
 map:=by
  obtain⟨D,⟨es,clock,h1,h2⟩,h3⟩:=h.map;exact⟨D,⟨es,clock,(hb.block _ (Array.getElem?_eq_some_iff.1 h1).1).trans h1,h2⟩,h3⟩
 below:=h.below.trans (hb.mono h.below.size)
theorem qlQ {w wr:World} {l:List qc} {name:LU} {k:Nat} {p:qc} (hp:l[k]? = some p) (h:GatS w l name k wr)
 (h1:z42 p.1 name=true→(extP p=true→(qm name extP (l.take k)).isSome=true)∧(qaE p=true→(qm name qaE (l.take k)).isSome=true)∧(0≤p.2.1→(qm name (numP p.2.1) (l.take k)).isSome=true)):GatS w l name (k+1) wr:=by
 have key:∀ f:qc→Bool,(z42 p.1 name=true→f p=true→(qm name f (l.take k)).isSome=true)→qm name f (l.take (k+1))=qm name f (l.take k):=fun f hf=>by
  rw[qaR name f l k p hp];cases e:qm name f (l.take k) with
  | some i=>rfl
  | none =>
   cases e1:z42 p.1 name with
   | false=>rfl
   | true =>
    cases e2:f p with
    | false=>rfl
    | true=>have:=hf e1 e2;rw[e] at this;cases this
 refine⟨?_,h.res,?_,h.below⟩
 ·rw[key extP fun a b=>(h1 a).1 b,key qaE fun a b=>(h1 a).2.1 b];exact h.box
 ·obtain⟨D,hD,hN⟩:=h.map;refine⟨D,hD.mono (Nat.le_succ _),fun n=>?_⟩
  by_cases hn:0≤n
  ·rw[key (numP n) fun a b=>by have:=(h1 a).2.2;unfold numP at b;rw[beq_iff_eq] at b;subst b;exact this hn];exact hN n
  ·have:=hN n;rw[yx hn,y5] at this ⊢;exact⟨this.1,fun i h=>absurd h hn⟩
theorem qMR (n:Int) (h : -1≤n∧n < 1048577):(Lit.int .i64 n).wf=true:=Go.WalkArith.wf_i64 (by omega)
structure AftS (w:World) (l:List qc) (name:LU) (k:Nat) (num:Int) (ext:Bool) (r:Nat) (w1:World):Prop where
 gat:GatS w l name k w1
 p1:w1.cell? ⟨r,1,none⟩=some (.int .i64 num)
 p2:w1.cell? ⟨r,2,none⟩=some (.bool ext)
theorem quH {w wr w1:World} {l:List qc} {name:LU} {k:Nat} {num:Int} {ext:Bool} {v0 v3:Value} {t:TypeId} (hG:GatS w l name k wr) (hb:Below (wr.alloc (.cells #[v0,.int .i64 num,.bool ext,v3] t)).heap.size (wr.alloc (.cells #[v0,.int .i64 num,.bool ext,v3] t)) w1) :
 AftS w l name k num ext wr.heap.size w1 where
 gat:=qAJ hG (((Below.refl _ _).alloc (yv _) _).trans (hb.mono (by simp)))
 p1:=(hb.cell (by simp)).trans (qV (heap_alloc_new wr _) 1)
 p2:=(hb.cell (by simp)).trans (qV (heap_alloc_new wr _) 2)
theorem qRx {w w1 w2:World} {l:List qc} {name:LU} {k:Nat} {p:qc} {D:DataW Unit} (hp:l[k]? = some p) (hk:k≤1048576) (hG:GatS w l name k w1) (hs:z42 p.1 name=true) (h0:0≤p.2.1∧p.2.1 < 1000) (h1:qm name (numP p.2.1) (l.take k)=none)
 (hown:w1.ownsMap Tryz.prog 3 (plainElem (H:=Unit) Tryz.prog 3) (w.heap.size+1) k D) (hN:NumsD l name k D)
 (hown2:w2.ownsMap Tryz.prog 3 (plainElem (H:=Unit) Tryz.prog 3) (w.heap.size+1) (k+1) (D.put (.int .i64 p.2.1) (.lit (.int .i64 (k:Int))))) (hg:w1.grownBy w2 (some (w.heap.size+1))):GatS w l name (k+1) w2:=by
 have key:∀ f:qc→Bool,f p=false→qm name f (l.take (k+1))=qm name f (l.take k):=fun f hf=>by
  rw[qaR name f l k p hp,hf,y4];cases qm name f (l.take k) <;> rfl
 have e1:extP p=false:=by unfold extP;rw[beq_eq_false_iff_ne.2 (by omega:p.2.1 ≠ -1)];rfl
 have e2:qaE p=false:=by unfold qaE;rw[beq_eq_false_iff_ne.2 (by omega:p.2.1 ≠ -1)];rfl
 refine⟨?_,?_,⟨_,hown2,fun n=>?_⟩,hG.below.grown hg (hG.below.size) (fun j hj=>by cases hj;omega)⟩
 ·rw[key _ e1,key _ e2];exact(hg.block _ (Array.getElem?_eq_some_iff.1 hG.box).1 (by simp)).trans hG.box
 ·exact(hg.block _ (Array.getElem?_eq_some_iff.1 hG.res).1 (by simp)).trans hG.res
 ·by_cases hn:n=p.2.1
  ·subst hn;have hpl:qm name (numP p.2.1) (l.take (k+1))=some k:=by
    rw[qaR name _ l k p hp,h1,hs];unfold numP;simp
   rw[hpl];exact⟨by rw[Maps.has_put_same hown.isMap (show WideAt.IsKeyLit (.int .i64 p.2.1) from trivial),yo h0.1];rfl,fun i _ hi=>by cases hi;exact Maps.atKey_put_same hown.isMap (show WideAt.IsKeyLit (.int .i64 p.2.1) from trivial) _ _⟩
  ·have hpl:qm name (numP n) (l.take (k+1))=qm name (numP n) (l.take k):=key _ (by unfold numP;exact beq_eq_false_iff_ne.2 (fun e=>hn e.symm));have hne:(Lit.int IntKind.i64 n)≠.int .i64 p.2.1:=fun e=>hn (by injection e);rw[hpl,Maps.has_put_other hne];exact⟨(hN n).1,fun i a b=>by rw[Maps.atKey_put_other hne];exact(hN n).2 i a b⟩
theorem qsV {w w1:World} {l:List qc} {name:LU} {k o:Nat} {v:Value} {p:qc} (hp:l[k]? = some p) (hn:p.2.1 = -1) (hG:GatS w l name k w1)
 (hb:(#[.int .i64 (optI (qm name extP (l.take k))),.int .i64 (optI (qm name qaE (l.take k))),.map (some (w.heap.size+1))]:Array Value).setIfInBounds o v = #[.int .i64 (optI (qm name extP (l.take (k+1)))),.int .i64 (optI (qm name qaE (l.take (k+1)))),.map (some (w.heap.size+1))]) :
 GatS w l name (k+1) (w1.setCell ⟨w.heap.size+2,o,none⟩ v):=by
 refine⟨by rw[← hb];exact qbY hG.box,?_,?_,hG.below.setCell (by show _≤w.heap.size+2;omega) _⟩
 ·rw[Below.heap_setCell _ _ _ _ (by show w.heap.size≠w.heap.size+2;omega)];exact hG.res
 ·obtain⟨D,h1,h2⟩:=hG.map;refine⟨D,(h1.setCell (by show w.heap.size+1≠w.heap.size+2;omega) _).mono (Nat.le_succ _),fun n=>?_⟩
  by_cases hn0:0≤n
  ·have:qm name (numP n) (l.take (k+1))=qm name (numP n) (l.take k):=by
    rw[qaR name _ l k p hp,show numP n p=false from by unfold numP;exact beq_eq_false_iff_ne.2 (by omega),y4];cases qm name (numP n) (l.take k) <;> rfl
   rw[this];exact h2 n
  ·have:=h2 n;rw[yx hn0,y5] at this ⊢;exact⟨this.1,fun i a=>absurd a hn0⟩
theorem law3:Keyed Tryz.prog 3:=int_keyed Tryz.underlying3
theorem zero3 (w:World):(zeroValue 3).run Tryz.prog w=.ok (.int .i64 0) w:=by kernel_rfl
theorem qFS (w:World) (l:List qc) (name:LU):GatS w l name 0 (((w.alloc (.cells #[.int .i64 0,.int .i64 0,.map none] 120)).alloc (.map #[] 0)).alloc (.cells #[.int .i64 (-1),.int .i64 (-1),.map (some (w.heap.size+1))] 120)) where
 box:=by
  show ((((w.heap.push _).push _).push _))[w.heap.size+2]? = _;rw[List.take_zero];simp[qm,optI];rw[Array.getElem_push];simp
 res:=by
  show ((((w.heap.push _).push _).push _))[w.heap.size]? = _;simp only[Array.getElem?_push,Array.size_push];rw[if_neg (by omega),if_neg (by omega),if_pos trivial]
 map:=by
  have h:=(World.ownsMap_made (H:=Unit) (w.alloc (.cells #[.int .i64 0,.int .i64 0,.map none] 120)) Tryz.prog 3 (plainElem (H:=Unit) Tryz.prog 3)).alloc (.cells #[.int .i64 (-1),.int .i64 (-1),.map (some (w.heap.size+1))] 120);rw[show (w.alloc (.cells #[.int .i64 0,.int .i64 0,.map none] 120)).heap.size=w.heap.size+1 from by simp] at h;exact⟨_,h,fun n=>⟨by simp[Maps.has,qm],fun i _ h=>by simp[qm] at h⟩⟩
 below:=(((Below.refl _ w).alloc (yv _) _).alloc (by simp) _).alloc (by simp;omega) _
set_option maxHeartbeats 8000000 in
set_option maxRecDepth 1000000 in
theorem quI (A:Option Addr) (b off n cap:Nat) (hA:0 < n→A=some ⟨b,off,none⟩) (nv vv:Heads) (l:List qc) (name:LU) (N:Value) (w:World) (hn:n=l.length) (hl:n≤1048576) (hc:qqz w b off nv vv l) (hS:qlP w nv l name N)
 (hnum:∀ p∈l,-1≤p.2.1∧p.2.1 < 1000) :
 Calls Tryz.prog 80 #[.slice A n cap,N] w fun e w'=>(∃ D,w'.ownsMap Tryz.prog 3 (plainElem (H:=Unit) Tryz.prog 3) (w.heap.size+1) n D∧NumsD l name n D)∧Below w.heap.size w w'∧e=.returned (.agg #[.int .i64 (optI (qm name extP l)),.int .i64 (optI (qm name qaE l)),.map (some (w.heap.size+1))]):=by
 subst hn;have hmm := @run_makeMap Tryz.prog;have e19:∀ args w,(callFunc 42 args).run Tryz.prog w=.ok (.enter 42 args) w:=enters_of Tryz.func42 (by kernel_rfl) rfl
 go_enter Tryz.func80,Tryz.ntmps80
 go_wp2
 go_loopw [14] (fun i wr=>∃ k:Nat,k≤l.length∧i=.int .i64 (k:Int)∧GatS w l name k wr) (fun i _=>l.length - (RowKit.intOf i).toNat)
 case atStart=>exact⟨0,Nat.zero_le _,rfl,qFS w l name⟩
 case round =>
  obtain⟨k,hk,rfl,hG⟩:=hrel;have B:Aside (GatS w l name k wr):=hG;have hws:=hG.below.size
  by_cases hlt:k < l.length
  ·obtain rfl:=hA (by omega);obtain⟨⟨pn,num,ext,pv,pu⟩,hp⟩:∃ p,l[k]? = some p:=⟨l[k]'hlt,yO hlt⟩;obtain⟨d0,d1,d2,d3⟩:=hc k _ hp;have blt:=World.block_lt_of_cell? w _ d0;have c0:=(hG.below.cell blt).trans d0;have c1:=(hG.below.cell (World.block_lt_of_cell? w _ d1)).trans d1;have c2:=(hG.below.cell (World.block_lt_of_cell? w _ d2)).trans d2;have c3:=(hG.below.cell (World.block_lt_of_cell? w _ d3)).trans d3;simp only at c0 c1 c2 c3;clear hG d0 d1 d2 d3;cases hs:z42 pn name with
   | false =>
    go_wp2_with (go_at_fn 42;refine(hS _ k _ (B.out.below.alloc B.out.below.size _) hp).mono ?_;rw[hs];rintro e w1 ⟨rfl,hb1⟩)
    go_roundw
    case rel=>exact⟨k+1,by omega,by go_num,qlQ hp (qAJ B.out (((Below.refl _ _).alloc (yv _) _).trans (hb1.mono (by simp)))) (fun h=>by rw[hs] at h;cases h)⟩
    case measure=>simp[RowKit.intOf];omega
   | true =>
    have hr:=hnum _ (List.mem_of_getElem? hp);simp only at hr;have hwf:(Lit.int .i64 num).wf=true:=qMR num (by omega);have hkey:keyOf Tryz.prog 3 (.int .i64 num)=some (.int .i64 num):=keyOf_int_mk Tryz.underlying3 hwf
    by_cases h0:0≤num
    ·have hm1:num ≠ -1:=by omega
     cases e1:qm name (numP num) (l.take k) with
     | some i =>
      go_wp2_with (first
       | (go_at_fn 42;refine(hS _ k _ (B.out.below.alloc B.out.below.size _) hp).mono ?_;rw[hs];rintro e w1 ⟨rfl,hb1⟩;have A1:Aside (AftS w l name k num ext wr.heap.size w1):=quH B.out hb1;obtain⟨D,hown,hN0⟩:=A1.out.gat.map;have hN:Aside (NumsD l name k D):=hN0;have hhas:Maps.has D (.int .i64 num)=true:=(by rw[(hN0 num).1];simp[e1,h0]);have b0:=qV A1.out.gat.box 0;have b1:=qV A1.out.gat.box 1;have b2:=qV A1.out.gat.box 2;have f0:=qr A1.out.gat.box 0;have f1:=qr A1.out.gat.box 1;have p1:=A1.out.p1;have p2:=A1.out.p2;simp at b0 b1 b2;clear hN0)
       | (at_lookup;refine wpList_lookup_own_ok_int _ rfl _ _ 118 rfl 3 3 .i64 law3 Tryz.underlying118 Tryz.underlying3 (zero3 _) (w.heap.size+1) k D rfl hown _ _ rfl hkey ?_;intro cc hat hwc;rw[hhas]))
      go_roundw
      case rel=>exact⟨k+1,by omega,by go_num,qlQ hp A1.out.gat fun _=>⟨fun h=>absurd (by simpa [extP] using h) (fun h:_∧_=>hm1 h.1),fun h=>absurd (by simpa [qaE] using h) (fun h:_∧_=>hm1 h.1),fun _=>by simp only[e1,Option.isSome_some]⟩⟩
      case measure=>simp[RowKit.intOf];omega
     | none =>
      go_wp2_with (first
       | (go_at_fn 42;refine(hS _ k _ (B.out.below.alloc B.out.below.size _) hp).mono ?_;rw[hs];rintro e w1 ⟨rfl,hb1⟩;have A1:Aside (AftS w l name k num ext wr.heap.size w1):=quH B.out hb1;obtain⟨D,hown,hN0⟩:=A1.out.gat.map;have hN:Aside (NumsD l name k D):=hN0;have hhas:Maps.has D (.int .i64 num)=false:=(by rw[(hN0 num).1];simp[e1,h0]);have b0:=qV A1.out.gat.box 0;have b1:=qV A1.out.gat.box 1;have b2:=qV A1.out.gat.box 2;have f0:=qr A1.out.gat.box 0;have f1:=qr A1.out.gat.box 1;have p1:=A1.out.p1;have p2:=A1.out.p2;simp at b0 b1 b2;clear hN0)
       | (at_lookup;refine wpList_lookup_own_ok_int _ rfl _ _ 118 rfl 3 3 .i64 law3 Tryz.underlying118 Tryz.underlying3 (zero3 _) (w.heap.size+1) k D rfl hown _ _ rfl hkey ?_;intro cc hat hwc;rw[hhas])
       | (at_mapUpdate;refine wpList_mapUpdate_own _ rfl _ _ _ 118 rfl 3 3 law3 Tryz.underlying118 (plainElem (H:=Unit) Tryz.prog 3) (w.heap.size+1) k _ rfl hown (by unfold maxLen;omega) _ _ _ rfl rfl hkey _ [] (plainElem_int Tryz.underlying3 (qMR _ (by omega))) ?_;intro w2 hown2 hgrow2))
      go_roundw
      case rel=>exact⟨k+1,by omega,by go_num,qRx hp (by omega) A1.out.gat hs ⟨h0,hr.2⟩ e1 hown hN.out hown2 hgrow2⟩
      case measure=>simp[RowKit.intOf];omega
    ·obtain rfl:num = -1:=by omega
     cases ext with
     | true =>
      cases e1:qm name extP (l.take k) with
      | some i =>
       have hi:((i:Nat):Int) ≠ -1:=by omega
       go_wp2_with (first
        | (go_at_fn 42;refine(hS _ k _ (B.out.below.alloc B.out.below.size _) hp).mono ?_;rw[hs];rintro e w1 ⟨rfl,hb1⟩;have A1:Aside (AftS w l name k (-1) true wr.heap.size w1):=quH B.out hb1;obtain⟨D,hown,hN0⟩:=A1.out.gat.map;have hN:Aside (NumsD l name k D):=hN0;have hhas:Maps.has D (.int .i64 (-1))=false:=(by rw[(hN0 (-1)).1];simp);have b0:=qV A1.out.gat.box 0;have b1:=qV A1.out.gat.box 1;have b2:=qV A1.out.gat.box 2;have f0:=qr A1.out.gat.box 0;have f1:=qr A1.out.gat.box 1;have p1:=A1.out.p1;have p2:=A1.out.p2;rw[e1] at b0;simp[optI] at b0 b1 b2;clear hN0)
        | (at_lookup;refine wpList_lookup_own_ok_int _ rfl _ _ 118 rfl 3 3 .i64 law3 Tryz.underlying118 Tryz.underlying3 (zero3 _) (w.heap.size+1) k D rfl hown _ _ rfl hkey ?_;intro cc hat hwc;rw[hhas]))
       go_roundw
       case rel=>exact⟨k+1,by omega,by go_num,qlQ hp A1.out.gat fun _=>⟨fun _=>by rw[e1];rfl,fun h=>(by simp[qaE] at h),fun h=>absurd h (by show ¬ (0:Int) ≤ -1;omega)⟩⟩
       case measure=>simp[RowKit.intOf];omega
      | none =>
       go_wp2_with (first
        | (go_at_fn 42;refine(hS _ k _ (B.out.below.alloc B.out.below.size _) hp).mono ?_;rw[hs];rintro e w1 ⟨rfl,hb1⟩;have A1:Aside (AftS w l name k (-1) true wr.heap.size w1):=quH B.out hb1;obtain⟨D,hown,hN0⟩:=A1.out.gat.map;have hN:Aside (NumsD l name k D):=hN0;have hhas:Maps.has D (.int .i64 (-1))=false:=(by rw[(hN0 (-1)).1];simp);have b0:=qV A1.out.gat.box 0;have b1:=qV A1.out.gat.box 1;have b2:=qV A1.out.gat.box 2;have f0:=qr A1.out.gat.box 0;have f1:=qr A1.out.gat.box 1;have p1:=A1.out.p1;have p2:=A1.out.p2;rw[e1] at b0;simp[optI] at b0 b1 b2;clear hN0)
        | (at_lookup;refine wpList_lookup_own_ok_int _ rfl _ _ 118 rfl 3 3 .i64 law3 Tryz.underlying118 Tryz.underlying3 (zero3 _) (w.heap.size+1) k D rfl hown _ _ rfl hkey ?_;intro cc hat hwc;rw[hhas]))
       go_roundw
       case rel=>exact⟨k+1,by omega,by go_num,qsV hp rfl A1.out.gat (by rw[qaR name extP l k _ hp,qaR name qaE l k _ hp,e1,hs,show extP (pn,(-1:Int),true,pv,pu)=true from rfl,show qaE (pn,(-1:Int),true,pv,pu)=false from rfl];cases qm name qaE (l.take k) <;> rfl)⟩
       case measure=>simp[RowKit.intOf];omega
     | false =>
      cases e1:qm name qaE (l.take k) with
      | some i =>
       have hi:((i:Nat):Int) ≠ -1:=by omega
       go_wp2_with (first
        | (go_at_fn 42;refine(hS _ k _ (B.out.below.alloc B.out.below.size _) hp).mono ?_;rw[hs];rintro e w1 ⟨rfl,hb1⟩;have A1:Aside (AftS w l name k (-1) false wr.heap.size w1):=quH B.out hb1;obtain⟨D,hown,hN0⟩:=A1.out.gat.map;have hN:Aside (NumsD l name k D):=hN0;have hhas:Maps.has D (.int .i64 (-1))=false:=(by rw[(hN0 (-1)).1];simp);have b0:=qV A1.out.gat.box 0;have b1:=qV A1.out.gat.box 1;have b2:=qV A1.out.gat.box 2;have f0:=qr A1.out.gat.box 0;have f1:=qr A1.out.gat.box 1;have p1:=A1.out.p1;have p2:=A1.out.p2;rw[e1] at b1;simp[optI] at b0 b1 b2;clear hN0)
        | (at_lookup;refine wpList_lookup_own_ok_int _ rfl _ _ 118 rfl 3 3 .i64 law3 Tryz.underlying118 Tryz.underlying3 (zero3 _) (w.heap.size+1) k D rfl hown _ _ rfl hkey ?_;intro cc hat hwc;rw[hhas]))
       go_roundw
       case rel=>exact⟨k+1,by omega,by go_num,qlQ hp A1.out.gat fun _=>⟨fun h=>(by simp[extP] at h),fun _=>by rw[e1];rfl,fun h=>absurd h (by show ¬ (0:Int) ≤ -1;omega)⟩⟩
       case measure=>simp[RowKit.intOf];omega
      | none =>
       go_wp2_with (first
        | (go_at_fn 42;refine(hS _ k _ (B.out.below.alloc B.out.below.size _) hp).mono ?_;rw[hs];rintro e w1 ⟨rfl,hb1⟩;have A1:Aside (AftS w l name k (-1) false wr.heap.size w1):=quH B.out hb1;obtain⟨D,hown,hN0⟩:=A1.out.gat.map;have hN:Aside (NumsD l name k D):=hN0;have hhas:Maps.has D (.int .i64 (-1))=false:=(by rw[(hN0 (-1)).1];simp);have b0:=qV A1.out.gat.box 0;have b1:=qV A1.out.gat.box 1;have b2:=qV A1.out.gat.box 2;have f0:=qr A1.out.gat.box 0;have f1:=qr A1.out.gat.box 1;have p1:=A1.out.p1;have p2:=A1.out.p2;rw[e1] at b1;simp[optI] at b0 b1 b2;clear hN0)
        | (at_lookup;refine wpList_lookup_own_ok_int _ rfl _ _ 118 rfl 3 3 .i64 law3 Tryz.underlying118 Tryz.underlying3 (zero3 _) (w.heap.size+1) k D rfl hown _ _ rfl hkey ?_;intro cc hat hwc;rw[hhas]))
       go_roundw
       case rel=>exact⟨k+1,by omega,by go_num,qsV hp rfl A1.out.gat (by rw[qaR name extP l k _ hp,qaR name qaE l k _ hp,e1,hs,show extP (pn,(-1:Int),false,pv,pu)=false from rfl,show qaE (pn,(-1:Int),false,pv,pu)=true from rfl];cases qm name extP (l.take k) <;> rfl)⟩
       case measure=>simp[RowKit.intOf];omega
  ·have hkl:k=l.length:=by omega
   have b0:=qV B.out.box 0;have b1:=qV B.out.box 1;have b2:=qV B.out.box 2;have r0:=qV B.out.res 0;have r1:=qV B.out.res 1;have r2:=qV B.out.res 2;have f0:=qr B.out.res 0;have f1:=qr B.out.res 1;have f2:=qr B.out.res 2;simp at b0 b1 b2 r0 r1 r2;clear hG
   go_wp2
   subst hkl;have S3:=qbY (o:=2) (v:=.map (some (w.heap.size+1))) (qbY (o:=1) (v:=.int .i64 (optI (qm name qaE l))) (qbY (o:=0) (v:=.int .i64 (optI (qm name extP l))) B.out.res))
   (try simp only[Exit.inBlock,Exit.then])
   refine bodyPost_ret (results_cell_row rfl _ _ w.heap.size 120 _ (0,0) _ rfl S3 Tryz.underlying120 rfl (by kernel_rfl)) rfl ?_;obtain⟨D,hown,hN⟩:=B.out.map;have hne:∀ o,w.heap.size+1≠(⟨w.heap.size,o,none⟩:Addr).block:=fun o=>by show w.heap.size+1≠w.heap.size;omega
   refine⟨⟨D,((hown.setCell (hne 0) _).setCell (hne 1) _).setCell (hne 2) _,hN⟩,((B.out.below.setCell (yv _) _).setCell (yv _) _).setCell (yv _) _,?_⟩;rfl
end Go.Proofs
end

section
namespace Go.Proofs
set_option linter.unusedVariables false
set_option linter.unusedSimpArgs false
open Go.Shelf Go.RowKit Go.Lib Go.Av Go.Maps
theorem qlO (i:Nat):optI (some i)=(i:Int):=rfl
theorem qhR:optI none = -1:=rfl
theorem qFN {name:LU} {l:List qc} {n i:Nat} (hnum:∀ p∈l,-1≤p.2.1∧p.2.1 < 1000) (h:qm name (numP (n:Int)) l=some i):n < 1000:=by
 induction l generalizing i with
 | nil=>cases h
 | cons p l ih =>
  unfold qm at h;cases e:z42 p.1 name&&numP (n:Int) p with
  | true =>
   rw[yf] at e;have:=e.2;unfold numP at this;rw[beq_iff_eq] at this;have:=hnum p List.mem_cons_self;omega
  | false =>
   rw[e,yd] at h;obtain⟨j,hj,_⟩:=Option.map_eq_some_iff.1 h;exact ih (fun q hq=>hnum q (List.mem_cons_of_mem _ hq)) hj
def LeftD (l:List qc) (name:LU) (n:Nat) (D:DataW Unit):Prop :=
 ∀ m:Nat,n≤m→Maps.has D (.int .i64 (m:Int))=(qm name (numP (m:Int)) l).isSome∧∀ i,qm name (numP (m:Int)) l=some i→D.atKey (.int .i64 (m:Int)) (.lit (.int .i64 0))=.lit (.int .i64 (i:Int))
theorem qFO {l:List qc} {name:LU} {n i:Nat} (hn:n≤1000) (h:qm name (numP (n:Int)) l=some i):numsP l name (1001 - n) (n:Int)=(i:Int) :: numsP l name (1001 - (n+1)) ((n+1:Nat):Int):=by
 rw[show 1001 - n=(1001 - (n+1))+1 by omega];show (match qm name (numP (n:Int)) l with | some i=>(i:Int) :: numsP l name (1001 - (n+1)) ((n:Int)+1) | none=>[])=_;rw[h];rfl
theorem qFP {l:List qc} {name:LU} {n:Nat} (hn:n≤1000) (h:qm name (numP (n:Int)) l=none):numsP l name (1001 - n) (n:Int)=[]:=by
 rw[show 1001 - n=(1001 - (n+1))+1 by omega];show (match qm name (numP (n:Int)) l with | some i=>(i:Int) :: numsP l name (1001 - (n+1)) ((n:Int)+1) | none=>[])=_;rw[h]
theorem qRw {w:World} {base:Nat} {e:TypeId} {size:Nat} {v:Value} {n:Nat} {xs:List Value} (h:w.ownsRow base e size v n xs) {b:Nat} (hb:b < base):some b≠v.ownBlock:=fun e1=>by
 have:=(h.lt b e1.symm).1;omega
theorem qAH (w:World) (x:Value) (t:TypeId) {b B:Nat} (e:b=w.heap.size) (h:B≤b):(w.alloc (.cells #[x] t)).ownsRow B t 1 (.slice (some ⟨b,0,none⟩) 1 1) 1 [x]:=by
 subst e;exact⟨rfl,.inr ⟨w.heap.size,1,#[x],rfl,h,heap_alloc_new w _,yv _,by decide,rfl,rfl⟩⟩
structure UseS (w:World) (l:List qc) (name:LU) (r n:Nat) (v:Value) (wr:World):Prop where
 box:wr.heap[r]? = some (.cells #[.int .i64 (optI (qm name extP l)),.int .i64 (optI (qm name qaE l)),.map (some (w.heap.size+1))] 120 (0,0))
 high:w.heap.size+1 < r
 map:∃ D,wr.ownsMap Tryz.prog 3 (plainElem (H:=Unit) Tryz.prog 3) (w.heap.size+1) l.length D∧LeftD l name n D
 le:n≤1000
 out:∃ xs:LI,xs.length=n∧numsP l name 1001 0=xs++numsP l name (1001 - n) (n:Int)∧wr.ownsRow (r+1) 3 1 v n (xs.map (Value.int .i64))
 below:Below w.heap.size w wr
set_option maxHeartbeats 8000000 in
set_option maxRecDepth 1000000 in
theorem qFQ (A:Option Addr) (b off n cap:Nat) (hA:0 < n→A=some ⟨b,off,none⟩) (nv vv:Heads) (l:List qc) (name:LU) (N:Value) (w:World) (hn:n=l.length) (hl:n≤1048576) (hc:qqz w b off nv vv l) (hS:qlP w nv l name N)
 (hnum:∀ p∈l,-1≤p.2.1∧p.2.1 < 1000) :
 Calls Tryz.prog 56 #[.slice A n cap,N] w fun e w'=>∃ v,e=.returned v∧w'.ownsRow w.heap.size 3 1 v (usedP l name).length ((usedP l name).map (Value.int .i64))∧Below w.heap.size w w':=by
 subst hn;have hmm := @run_makeMap Tryz.prog;have e45:∀ args w,(callFunc 80 args).run Tryz.prog w=.ok (.enter 80 args) w:=enters_of Tryz.func80 (by kernel_rfl) rfl;obtain⟨i0,hi,hz0,hz1,hz2⟩:=info_parts (show (Tryz.prog.info? 3).map (fun i=>(i.zero,i.size,i.bytes))=some (some (.int .i64 0),1,8) by kernel_rfl);have HG:Aside (Calls Tryz.prog 80 #[.slice A l.length cap,N] w fun e w'=>(∃ D,w'.ownsMap Tryz.prog 3 (plainElem (H:=Unit) Tryz.prog 3) (w.heap.size+1) l.length D∧NumsD l name l.length D)∧Below w.heap.size w w'∧e=.returned (.agg #[.int .i64 (optI (qm name extP l)),.int .i64 (optI (qm name qaE l)),.map (some (w.heap.size+1))])) :=
  quI A b off l.length cap hA nv vv l name N w rfl hl hc hS hnum
 clear hc hS hA;cases e1:qm name extP l with
 | some i =>
  have hi1:((i:Nat):Int) ≠ -1:=by omega
  have hu:usedP l name=[(i:Int)]:=by unfold usedP;rw[e1]
  rw[e1,qlO] at HG
  go_enter Tryz.func56,Tryz.ntmps56
  go_wp2_with (go_at_fn 80;refine HG.out.mono ?_;rintro e w1 ⟨hm,hb,rfl⟩;have hbs:=hb.size)
  go_ret
  rw[hu];exact⟨_,rfl,qAH _ _ _ (by simp) (by omega),(hb.alloc hb.size _).alloc (by simp;omega) _⟩
 | none =>
  rw[e1,qhR] at HG
  go_enter Tryz.func56,Tryz.ntmps56
  go_wp2_with (go_at_fn 80;refine HG.out.mono ?_;rintro e w1 ⟨hm,hb,rfl⟩;have hbs:=hb.size;have hmm1:Aside (∃ D,w1.ownsMap Tryz.prog 3 (plainElem (H:=Unit) Tryz.prog 3) (w.heap.size+1) l.length D∧NumsD l name l.length D):=hm;clear hm)
  go_loopw [6,7] (fun v i wr=>∃ n:Nat,i=.int .i64 (n:Int)∧UseS w l name w1.heap.size n v wr) (fun _ i _=>1001 - (RowKit.intOf i).toNat)
  case atStart =>
   obtain⟨D,hown,hN⟩:=hmm1.out;refine⟨0,rfl,⟨by rw[e1,qhR];exact heap_alloc_new w1 _,hown.lt,⟨D,hown.alloc _,fun m _=>?_⟩,by omega,⟨[],rfl,rfl,World.ownsRow_nil _ _ _ _⟩,hb.alloc hbs _⟩⟩;have:=hN (m:Int);rw[List.take_length,yo (by omega:(0:Int)≤(m:Int)),y6] at this;exact⟨this.1,fun i hi=>this.2 i (by omega) hi⟩
  case round =>
   obtain⟨n,rfl,hU⟩:=hrel;have U:Aside (UseS w l name w1.heap.size n u6 wr):=hU;have b1:=qV U.out.box 1;have b2:=qV U.out.box 2;simp at b1 b2;obtain⟨D,hown,hL0⟩:=hU.map;have hL:Aside (LeftD l name n D):=hL0;have hn1:=hU.le;have hkey:keyOf Tryz.prog 3 (.int .i64 (n:Int))=some (.int .i64 (n:Int)):=keyOf_int_mk Tryz.underlying3 (qMR _ (by omega));clear hU hL0;cases e2:qm name (numP (n:Int)) l with
   | some i =>
    have hhas:Maps.has D (.int .i64 (n:Int))=true:=by rw[(hL.out n (yv _)).1,e2];rfl
    have hatD:D.atKey (.int .i64 (n:Int)) (.lit (.int .i64 0))=.lit (.int .i64 (i:Int)):=(hL.out n (yv _)).2 i e2;have hlk:=qFN hnum e2;have b2':Aside (wr.heap[w1.heap.size]? = some (.cells #[.int .i64 (optI (qm name extP l)),.int .i64 (optI (qm name qaE l)),.map (some (w.heap.size+1))] 120 (0,0))):=U.out.box;have hhi:=U.out.high;obtain⟨xs,hx1,hx2,hrow0⟩:=U.out.out;have hrow:Aside (wr.ownsRow (w1.heap.size+1) 3 1 u6 n (xs.map (Value.int .i64))):=hrow0;have hx2':Aside (numsP l name 1001 0=xs++numsP l name (1001 - n) (n:Int)):=hx2;have hown0:Aside (wr.ownsMap Tryz.prog 3 (plainElem (H:=Unit) Tryz.prog 3) (w.heap.size+1) l.length D):=hown;have hrl:=hrow0.1;clear hrow0 hx2
    go_wp2_with (first
     | (at_lookup;refine wpList_lookup_own_ok_int _ rfl _ _ 118 rfl 3 3 .i64 law3 Tryz.underlying118 Tryz.underlying3 (zero3 _) (w.heap.size+1) l.length D rfl hown _ _ rfl hkey ?_;intro cc hat hwc;rw[hhas])
     | (at_delete;refine wpList_delete_own _ rfl _ _ 118 3 rfl 3 law3 Tryz.underlying118 _ (w.heap.size+1) l.length D rfl hown2 _ _ rfl hkey ?_;intro w3 hown3 hturn3)
     | (at_builtin;refine wpList_append_own _ rfl _ _ 98 rfl (w1.heap.size+1) 3 i0 (.int .i64 0) 1 8 Tryz.underlying98 hi hz0 hz1 hz2 rfl (by decide) _ _ _ rfl (hrow.out.alloc _) ⟨wr.heap.size,0,none⟩ 1 1 [.int .i64 cc] rfl rfl (cell_one_new _ _ _) (ints_oneCell .i64 [cc]) (by unfold maxLen;omega) (by omega) (by have:=(Array.getElem?_eq_some_iff.1 b2'.out).1;simp;omega) ?_;intro v' w2 hown' hgrow2 hnil2;have hne2:some (w.heap.size+1)≠u6.ownBlock:=qRw hrow.out (by omega);have hown2:=(hown0.out.alloc (.cells #[.int .i64 cc] 3)).kept hgrow2 hne2;have hb2:=(hgrow2.block w1.heap.size (by have:=(Array.getElem?_eq_some_iff.1 b2'.out).1;simp;omega) (qRw hrow.out (Nat.lt_succ_self _))).trans ((Below.heap_alloc wr _ _ (Array.getElem?_eq_some_iff.1 b2'.out).1).trans b2'.out);have c2:=qV hb2 2;simp at c2))
    have hcc:cc=(i:Int):=by
     rw[hatD] at hat;injection hat with h1
     injection h1 with h1 h2
     exact h2.symm
    subst hcc;have hlt2:=(Array.getElem?_eq_some_iff.1 hb2).1;have hg3:=hturn3.grown;have hsz:=hgrow2.size;simp only[World.size_alloc] at hsz
    go_roundw
    case rel =>
     refine⟨n+1,by go_num,⟨(hg3.block _ hlt2 (by simp;omega)).trans hb2,hhi,⟨_,hown3,fun m hm=>?_⟩,by omega,⟨xs++[(i:Int)],by rw[yn,hx1];rfl,by rw[hx2'.out,qFO hn1 e2,yl];rfl,?_⟩,?_⟩⟩
     ·have hne:(Lit.int IntKind.i64 (m:Int))≠.int .i64 (n:Int):=fun e=>by injection e with e1 e2;omega
      rw[Maps.has_del_other hne];refine⟨(hL.out m (by omega)).1,fun j hj=>?_⟩;rw[Maps.atKey_del_other hne];exact(hL.out m (by omega)).2 j hj
     ·rw[List.map_append];refine hown'.kept hg3 (.inr fun e=>?_);have:=(hown'.lt _ e).1;omega
     ·exact((U.out.below.alloc U.out.below.size _).grown hgrow2 (by have:=U.out.below.size;simp;omega) (fun k hk=>by have:=(hrow.out.lt _ hk).1;omega)).grown hg3 (by have:=U.out.below.size;omega) (fun k hk=>by cases hk;omega)
    case measure=>simp[RowKit.intOf];omega
   | none =>
    have hhas:Maps.has D (.int .i64 (n:Int))=false:=by rw[(hL.out n (yv _)).1,e2];rfl
    obtain⟨xs,hx1,hx2,hrow⟩:=U.out.out;rw[qFP hn1 e2,yG] at hx2;have hbel:Aside (Below w.heap.size w wr):=U.out.below;have hwr:=U.out.below.size;have hhi:=U.out.high;have hR:Aside (wr.ownsRow (w1.heap.size+1) 3 1 u6 n (xs.map (Value.int .i64))):=hrow;have hX:Aside (numsP l name 1001 0=xs):=hx2;rcases hrow.2 with ⟨rfl,rfl⟩ | ⟨g,cp,cur,rfl,hg⟩
    ·have hxs:xs=[]:=yF hx1;subst hxs;cases e3:qm name qaE l with
     | some j =>
      have hj1:((j:Nat):Int) ≠ -1:=by omega
      rw[e3,qlO] at b1;have hu:usedP l name=[(j:Int)]:=by unfold usedP;rw[e1,hX.out,e3]
      clear hrow hx2
      go_wp2_with (first
       | (at_lookup;refine wpList_lookup_own_ok_int _ rfl _ _ 118 rfl 3 3 .i64 law3 Tryz.underlying118 Tryz.underlying3 (zero3 _) (w.heap.size+1) l.length D rfl hown _ _ rfl hkey ?_;intro cc hat hwc;rw[hhas]))
      go_ret
      rw[hu];exact⟨_,rfl,qAH _ _ _ rfl (by omega),hbel.out.alloc hbel.out.size _⟩
     | none =>
      rw[e3,qhR] at b1;have hu:usedP l name=[]:=by unfold usedP;rw[e1,hX.out,e3]
      clear hrow hx2
      go_wp2_with (first
       | (at_lookup;refine wpList_lookup_own_ok_int _ rfl _ _ 118 rfl 3 3 .i64 law3 Tryz.underlying118 Tryz.underlying3 (zero3 _) (w.heap.size+1) l.length D rfl hown _ _ rfl hkey ?_;intro cc hat hwc;rw[hhas]))
      go_ret
      rw[hu];exact⟨_,rfl,World.ownsRow_nil _ _ _ _,hbel.out⟩
    ·clear hrow hx2 hg;cases xs with
     | nil =>
      obtain rfl:n=0:=hx1.symm;cases e3:qm name qaE l with
      | some j =>
       have hj1:((j:Nat):Int) ≠ -1:=by omega
       rw[e3,qlO] at b1;have hu:usedP l name=[(j:Int)]:=by unfold usedP;rw[e1,hX.out,e3]
       go_wp2_with (first
        | (at_lookup;refine wpList_lookup_own_ok_int _ rfl _ _ 118 rfl 3 3 .i64 law3 Tryz.underlying118 Tryz.underlying3 (zero3 _) (w.heap.size+1) l.length D rfl hown _ _ rfl hkey ?_;intro cc hat hwc;rw[hhas]))
       go_ret
       rw[hu];exact⟨_,rfl,qAH _ _ _ rfl (by omega),hbel.out.alloc hbel.out.size _⟩
      | none =>
       rw[e3,qhR] at b1;have hu:usedP l name=[]:=by unfold usedP;rw[e1,hX.out,e3]
       go_wp2_with (first
        | (at_lookup;refine wpList_lookup_own_ok_int _ rfl _ _ 118 rfl 3 3 .i64 law3 Tryz.underlying118 Tryz.underlying3 (zero3 _) (w.heap.size+1) l.length D rfl hown _ _ rfl hkey ?_;intro cc hat hwc;rw[hhas]))
       go_ret
       rw[hu];exact⟨_,rfl,⟨rfl,hR.out.2.imp id fun ⟨g,c,cu,h1,h2,h3⟩=>⟨g,c,cu,h1,by omega,h3⟩⟩,hbel.out⟩
     | cons x xs =>
      have hn0:n≠0:=by rw[yg] at hx1;omega
      have hn2:((n:Nat):Int)≠0:=by omega
      have hu:usedP l name=x :: xs:=by unfold usedP;rw[e1,hX.out]
      go_wp2_with (first
       | (at_lookup;refine wpList_lookup_own_ok_int _ rfl _ _ 118 rfl 3 3 .i64 law3 Tryz.underlying118 Tryz.underlying3 (zero3 _) (w.heap.size+1) l.length D rfl hown _ _ rfl hkey ?_;intro cc hat hwc;rw[hhas]))
      go_ret
      rw[hu];refine⟨_,rfl,?_,hbel.out⟩;rw[hx1];exact⟨hR.out.1,hR.out.2.imp id fun ⟨g,c,cu,h1,h2,h3⟩=>⟨g,c,cu,h1,by omega,h3⟩⟩
end Go.Proofs
namespace Go.Av
open Go.Proofs Go.RowKit
theorem qAI {w w':World} {S:qa} (hS:∀ b o,S b o→b < w.heap.size) (hb:Below w.heap.size w w'):Grew w S w' S :=
 ⟨hb,fun _ _ _=>Iff.rfl,fun b o hs=>yH (hS b o hs) hb.size⟩
theorem qTg {w w':World} {S:qa} (hS:∀ b o,S b o→b < w.heap.size) (hb:Below w.heap.size w w'):Keeps w S w' S :=
 fun b o hs=>⟨hs,qj (hb.block b (hS b o hs)) o⟩
theorem qFR {w w':World} {S:qa} (hS:∀ b o,S b o→b < w.heap.size) {p:LI} {te:TypeId} {v:Value} (hB:Below w.heap.size w w') (ho:w'.ownsRow w.heap.size te 1 v p.length (p.map (Value.int .i64))) :
 ∃ S',Grew w S w' S'∧ResRd (· < w.heap.size) w' S' v (.dat (.sl (.int .i64)) p none):=by
 let S':qa:=fun b o=>S b o∨(v.ownBlock=some b∧o < p.length)
 have hch:∀ l:LI,qd (RdC w' S' (.int .i64)) l (l.map (Value.int .i64)):=fun l=>by
  induction l with
  | nil=>rfl
  | cons c l ih=>exact⟨[_],_,rfl,rfl,ih⟩
 have hnew:∀ b,v.ownBlock=some b→w.heap.size≤b∧b < w'.heap.size:=fun b hb=>ho.lt b hb;refine⟨S',⟨hB,fun b o hb=>⟨fun hh=>hh.elim id (fun hh=>by have:=(hnew b hh.1).1;omega),.inl⟩,fun b o hh=>hh.elim (fun hh=>yH (hS b o hh) hB.size) (fun hh=>(hnew b hh.1).2)⟩,?_⟩;refine⟨?_,fun s x e=>(by cases e),fun s q e=>(by cases e),fun l te' e=>(by cases e)⟩;rcases ho.2 with ⟨rfl,h0⟩ | ⟨g,cap,cur,rfl,h1,h2,h3,h4,h5,h6⟩
 ·have:p=[]:=yF h0;subst this;exact .dat _ _ _ _ ⟨none,0,[],rfl,yv _,rfl,fun h=>absurd rfl h⟩
 ·refine .dat _ _ _ _ ⟨some ⟨g,0,none⟩,cap,_,rfl,h3,hch p,fun _=>⟨⟨g,0,none⟩,rfl,rfl,fun i u hu=>⟨.inr ⟨rfl,?_⟩,?_⟩⟩⟩
  ·have:=(List.getElem?_eq_some_iff.1 hu).1;rw[yP] at this;show 0+i < p.length;omega
  ·have hi:=(List.getElem?_eq_some_iff.1 hu).1;rw[yP] at hi;rw[← h6,Nat.mul_one,List.getElem?_take_of_lt hi,Array.getElem?_toList] at hu;simp only[World.cell?,h2,Option.isSome_none,yq,if_false];rw[show 0+i=i by omega];exact hu
abbrev parSh:Sh:=.pair (.sl .byte) (.pair (.int .i64) (.pair .bool (.pair (.sl .byte) .unit)))
theorem qMQ {w:World} {S:qa} {p:qc} {c:List Value} (h:RdC w S parSh p c):∃ a n k a' n' k',c=[.slice a n k,.int .i64 p.2.1,.bool p.2.2.1,.slice a' n' k']∧RdC w S (.sl .byte) p.1 [.slice a n k]:=by
 obtain⟨v1,v2,rfl,h1,v3,v4,rfl,h3,v5,v6,rfl,h5,v7,v8,rfl,h7,h8⟩:=h;have e1:=h1;obtain⟨A,cap,cs,rfl,_⟩:=e1;obtain⟨A',cap',cs',rfl,_⟩:=h7;have e3:v3=[.int .i64 p.2.1]:=h3;have e5:v5=[.bool p.2.2.1]:=h5;have e8:v8=[]:=h8;subst e3 e5 e8;exact⟨_,_,_,_,_,_,rfl,h1⟩
theorem qIn {w:World} {S:qa}:∀ {l:List qc} {cs:List Value},qd (RdC w S parSh) l cs→∀ (i:Nat) p,l[i]? = some p→∃ a n k a' n' k',cs[i*4]? = some (.slice a n k)∧cs[i*4+1]? = some (.int .i64 p.2.1)∧cs[i*4+2]? = some (.bool p.2.2.1)∧cs[i*4+3]? = some (.slice a' n' k')∧RdC w S (.sl .byte) p.1 [.slice a n k]
 | [],cs,h,i,p,hp=>by simp at hp
 | q :: l,cs,h,i,p,hp=>by
  obtain⟨v1,v2,rfl,h1,h2⟩:=h;obtain⟨a,n,k,a',n',k',rfl,hr⟩:=qMQ h1;match i,hp with
  | 0,hp =>
   simp only[y3,ya] at hp;subst hp;exact⟨a,n,k,a',n',k',rfl,rfl,rfl,rfl,hr⟩
  | i+1,hp =>
   simp only[yZ] at hp;obtain⟨b,m,j,b',m',j',g1,g2,g3,g4,g5⟩:=qIn h2 i p hp;refine⟨b,m,j,b',m',j',?_,?_,?_,?_,g5⟩;all_goals
    rw[show (i+1)*4=i*4+4 by omega];simpa using (by assumption)
def slA:Option Value→Option Addr
 | some (.slice a _ _)=>a
 | _=>none
def slN:Option Value→Nat
 | some (.slice _ n _)=>n
 | _=>0
def slC:Option Value→Nat
 | some (.slice _ _ c)=>c
 | _=>0
def qdx (cs:List Value) (k:Nat):Heads:=⟨fun i=>slA cs[i*4+k]?,fun i=>slN cs[i*4+k]?,fun i=>slC cs[i*4+k]?⟩
theorem quG {sp:List AV→Bool×AV} (hso:qcZ G Tryz.prog 42 sp) (hsp:∀ (a b:LU) (o1 o2:Lab),sp [db a o1,db b o2]=(qAT a b,dh (z42 a b) none))
 {w:World} {S:qa} (hg:G w S) (hS:∀ b o,S b o→b < w.heap.size) {vals:List Value} {l:List qc} {nm:LU} {o1 o2:Lab} (ha:qav w S vals [.dat (.sl parSh) l o1,db nm o2]) (hok:quU l nm=true) :
 Ran Tryz.prog 56 vals.toArray w fun v w'=>∃ S',Grew w S w' S'∧ResRd (· < w.heap.size) w' S' v (.dat (.sl (.int .i64)) (z56 l nm) none):=by
 obtain⟨u,N,rfl,h1,h2⟩:=args2 ha;obtain⟨A,cap,cs,rfl,hcap,hch,hm⟩:=rd_sl h1;unfold quU psOk at hok;simp only[yf,ym] at hok;obtain⟨⟨hl,hall⟩,hn⟩:=hok;have hall':∀ p∈l,lenOk p.1=true∧(-1≤p.2.1∧p.2.1 < 1000):=fun p hp=>by
  have:=List.all_eq_true.1 hall p hp;simp only[yf,ym] at this;exact⟨this.1,this.2.2⟩
 have hent:(callFunc 56 #[.slice A (List.length l) cap,N]).run Tryz.prog w=.ok (.enter 56 #[.slice A (List.length l) cap,N]) w:=enters_of (c:=Tryz.f56.body.getD .skip) Tryz.func56 (by kernel_rfl) (by kernel_rfl) _ _;have h4:=qIn hch;have hA:∃ b off,(0 < l.length→A=some ⟨b,off,none⟩)∧∀ i u,cs[i]? = some u→S b (off+i)∧w.cell? ⟨b,off+i,none⟩=some u:=by
  by_cases h0:cs=[]
  ·subst h0;refine⟨0,0,fun h=>?_,fun i u hu=>by simp at hu⟩;obtain⟨p,hp⟩:∃ p,l[0]? = some p:=⟨l[0],yO h⟩;obtain⟨_,_,_,_,_,_,g,_⟩:=h4 0 p hp;simp at g
  ·obtain⟨ad,rfl,hs,hmem⟩:=hm h0;refine⟨ad.block,ad.off,fun _=>?_,fun i u hu=>hmem i u hu⟩;obtain⟨b,o,s⟩:=ad;have:s=none:=by simpa using hs
   subst this;rfl
 obtain⟨b,off,hA,hcell⟩:=hA;have hcells:qqz w b off (qdx cs 0) (qdx cs 3) l:=fun i p hp=>by
  obtain⟨a,n,k,a',n',k',g1,g2,g3,g4,_⟩:=h4 i p hp;refine⟨?_,(hcell _ _ g2).2,(hcell _ _ g3).2,?_⟩
  ·have:=(hcell _ _ g1).2;simpa [qdx,slA,slN,slC,g1] using this
  ·have:=(hcell _ _ g4).2;rw[← yS] at this;simpa [qdx,slA,slN,slC,g4] using this
 have hsame:qlP w (qdx cs 0) l nm N:=fun w' i p hb hp=>by
  obtain⟨a,n,k,a',n',k',g1,g2,g3,g4,g5⟩:=h4 i p hp;have hk:=qTg hS hb;have hS':∀ b o,S b o→b < w'.heap.size:=fun b o hs=>yH (hS b o hs) hb.size;have hr1:Rd w' S (.slice a n k) (db p.1 none):=.dat _ _ _ _ (by simpa [RdV,Sh.agg] using RdC.keeps hk _ _ _ g5);have hr2:Rd w' S N (db nm o2):=h2.keeps hk;have hv:(qdx cs 0).a i=a∧(qdx cs 0).n i=n∧(qdx cs 0).c i=k:=by simp[qdx,slA,slN,slC,g1]
  rw[hv.1,hv.2.1,hv.2.2];have hp1:=(hall' p (List.mem_of_getElem? hp)).1;rcases hso w' S (G_stays _ _ _ _ hk hg) [.slice a n k,N] [db p.1 none,db nm o2] _ (by rw[hsp];exact Prod.ext (by unfold qAT;rw[hp1,hn];rfl) rfl) hS' (qcg hr1 (qcg hr2 (qhS _ _))) with ⟨_,h3⟩ | ⟨v,w2,h3,_⟩
  ·refine h3.mono fun e w2 ⟨v,he,S2,g2,hr⟩=>?_;have:=qbD hr.rd;subst this;exact⟨he,g2.below⟩
  ·exfalso;have:(callFunc 42 #[.slice a n k,N]).run Tryz.prog w'=.ok (.enter 42 #[.slice a n k,N]) w':=enters_of (c:=Tryz.f42.body.getD .skip) Tryz.func42 (by kernel_rfl) (by kernel_rfl) _ _;rw[this] at h3;cases h3
 refine .inl ⟨hent,(qFQ A b off l.length cap hA (qdx cs 0) (qdx cs 3) l nm N w rfl hl hcells hsame (fun p hp=>(hall' p hp).2)).mono ?_⟩;rintro e w' ⟨v,rfl,ho,hB⟩;exact⟨v,rfl,qFR hS hB ho⟩
theorem qqy {sp:List AV→Bool×AV} (hso:qcZ G Tryz.prog 62 sp) (hsp:∀ (a:LU) (c:UInt8) (o1 o2:Lab),sp [db a o1,dn c o2]=(true,de (Lib.indexByte a c) none))
 {w:World} {S:qa} (hg:G w S) (hS:∀ b o,S b o→b < w.heap.size) {vals:List Value} {s t:LU} {o1 o2:Lab} (ha:qav w S vals [db s o1,db t o2]) (hok:qnT s t=true) :
 Ran Tryz.prog 143 vals.toArray w fun v w'=>∃ S',Grew w S w' S'∧ResRd (· < w.heap.size) w' S' v (de (z143 s t) none):=by
 obtain⟨u,N,rfl,h1,h2⟩:=args2 ha;obtain⟨A,cap,rfl,hcap,hA,hcA⟩:=qix h1;obtain⟨B,cap2,rfl,hcap2,hB,hcB⟩:=qix h2;unfold qnT at hok;simp only[yf,ym] at hok;obtain⟨c,rfl⟩:∃ c,t=[c]:=List.length_eq_one_iff.1 hok.2.2;have hent:(callFunc 143 #[.slice A (List.length s) cap,.slice B (List.length [c]) cap2]).run Tryz.prog w=.ok (.enter 143 #[.slice A (List.length s) cap,.slice B (List.length [c]) cap2]) w:=enters_of (c:=Tryz.f143.body.getD .skip) Tryz.func143 (by kernel_rfl) (by kernel_rfl) _ _;cases B with
 | none=>cases hB rfl
 | some b2 =>
  have hc:=hcB b2 rfl 0 (by simp);refine .inl ⟨hent,(index_one A s.length cap b2 cap2 c (Lib.indexByte s c) w (by simpa [Addr.add] using hc) ?_).mono ?_⟩
  ·have hr2:Rd w S (.int .u8 (c.toNat:Int)) (dm c):=.dat _ _ _ _ (by simp[RdV,Sh.agg,RdC]);rcases hso w S hg [.slice A s.length cap,.int .u8 (c.toNat:Int)] [db s o1,dn c none] _ (hsp s c o1 none) hS (qcg h1 (qcg hr2 (qhS _ _))) with ⟨_,h3⟩ | ⟨v,w2,h3,_⟩
   ·refine h3.mono fun e w2 ⟨v,he,S2,g2,hr⟩=>?_;have:=qaL hr.rd;subst this;exact⟨he,g2.below⟩
   ·exfalso;have:(callFunc 62 #[.slice A s.length cap,.int .u8 (c.toNat:Int)]).run Tryz.prog w=.ok (.enter 62 #[.slice A s.length cap,.int .u8 (c.toNat:Int)]) w:=enters_of (c:=Tryz.f62.body.getD .skip) Tryz.func62 (by kernel_rfl) (by kernel_rfl) _ _;rw[this] at h3;cases h3
  ·rintro e w' ⟨rfl,hb⟩;refine⟨_,rfl,S,qAI hS hb,?_⟩;rw[show z143 s [c]=Lib.indexByte s c from Lib.index_one s c];exact qhu
end Go.Av
end
