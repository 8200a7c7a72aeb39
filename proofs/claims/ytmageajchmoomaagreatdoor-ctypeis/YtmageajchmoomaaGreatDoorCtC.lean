import Derived.Test.YtmageajchmoomaaGreatDoorCtB
import Derived.Deep.LoopGhost
import Derived.Maps.RangeWalk
section
namespace Go.Proofs
set_option linter.unusedVariables false
set_option linter.unusedSimpArgs false
open Go.Shelf Go.RowKit Go.Lib Go.Av Go.Maps
set_option maxHeartbeats 2000000 in
set_option maxRecDepth 100000 in
theorem index_one (A:Option Addr) (n cap:Nat) (a2:Addr) (cap2:Nat) (c:UInt8) (v:Int) (w:World) (hc:w.cell? a2=some (.int .u8 (c.toNat:Int)))
 (h91:Calls Tryz.prog 62 #[.slice A n cap,.int .u8 (c.toNat:Int)] w fun e w'=>e=.returned (.int .i64 v)∧Below w.heap.size w w') :
 Calls Tryz.prog 143 #[.slice A n cap,.slice (some a2) 1 cap2] w fun e w'=>e=.returned (.int .i64 v)∧Below w.heap.size w w':=by
 have e91:∀ args w,(callFunc 62 args).run Tryz.prog w=.ok (.enter 62 args) w:=enters_of Tryz.func62 (by kernel_rfl) rfl;have hc0:w.cell? (a2.add 0)=some (.int .u8 (c.toNat:Int)):=by simpa [Addr.add] using hc
 go_enter Tryz.func143,Tryz.ntmps143
 go_wp2_with (go_at_fn 62; refine h91.mono ?_; rintro e w1 ⟨rfl,hb⟩)
 go_ret
 exact ⟨rfl,hb⟩
structure Heads where
 a:Nat→Option Addr
 n:Nat→Nat
 c:Nat→Nat
def qff (w:World) (nv:Heads) (l:List qN) (name:List UInt8) (N:Value):Prop :=
 ∀ w' i p,Below w.heap.size w w'→l[i]? = some p→Calls Tryz.prog 42 #[.slice (nv.a i) (nv.n i) (nv.c i),N] w' fun e w''=>e=.returned (.bool (z42 p.1 name))∧Below w'.heap.size w' w''
def qgJ (w:World) (b off:Nat) (nv vv:Heads) (l:List qN):Prop :=
 ∀ i p,l[i]? = some p→w.cell? ⟨b,off+i*4,none⟩=some (.slice (nv.a i) (nv.n i) (nv.c i))∧w.cell? ⟨b,off+i*4+1,none⟩=some (.int .i64 p.2.1)∧w.cell? ⟨b,off+i*4+2,none⟩=some (.bool p.2.2.1)∧w.cell? ⟨b,off+i*4+3,none⟩=some (.slice (vv.a i) (vv.n i) (vv.c i))
def optI:Option Nat→Int
 | none => -1
 | some i=>(i:Int)
def NumsD (l:List qN) (name:List UInt8) (k:Nat) (D:DataW Unit):Prop :=
 ∀ n:Int,Maps.has D (.int .i64 n)=(decide (0≤n)&&(qw name (numP n) (l.take k)).isSome)∧∀ i,0≤n→qw name (numP n) (l.take k)=some i→D.atKey (.int .i64 n) (.lit (.int .i64 0))=.lit (.int .i64 (i:Int))
structure GatS (w:World) (l:List qN) (name:List UInt8) (k:Nat) (wr:World):Prop where
 box:wr.heap[w.heap.size+2]? = some (.cells #[.int .i64 (optI (qw name extP (l.take k))),.int .i64 (optI (qw name qav (l.take k))),.map (some (w.heap.size+1))] 120 (0,0))
 res:wr.heap[w.heap.size]? = some (.cells #[.int .i64 0,.int .i64 0,.map none] 120 (0,0))
 map:∃ D,wr.ownsMap Tryz.prog 3 (plainElem (H:=Unit) Tryz.prog 3) (w.heap.size+1) k D∧NumsD l name k D
 below:Below w.heap.size w wr
theorem qJ {w:World} {b:Nat} {cs:Array Value} {t:TypeId} {fr:Nat×Nat} (h:w.heap[b]? = some (.cells cs t fr)) (o:Nat):w.cell? ⟨b,o,none⟩=cs[o]? := by
 unfold World.cell?
 rw [h];rfl
theorem qai (name:List UInt8) (f:qN→Bool):∀ (l:List qN) (k:Nat) (p:qN),l[k]? = some p →
 qw name f (l.take (k+1))=match qw name f (l.take k) with | some i=>some i | none=>bif z42 p.1 name&&f p then some k else none
 | [],k,p,h=>by simp at h
 | q :: l,0,p,h=>by
  simp only [yX,ya] at h;subst h;simp [qw]
 | q :: l,k+1,p,h=>by
  simp only [yW] at h;rw [List.take_succ_cons,List.take_succ_cons];unfold qw;rw [qai name f l k p h];cases z42 q.1 name&&f q with
  | true=>rfl
  | false =>
   simp only [yd];cases qw name f (l.take k) with
   | some i=>rfl
   | none =>
    simp only [Option.map_none];cases z42 p.1 name&&f p <;> rfl
theorem qr {w:World} {b:Nat} {cs:Array Value} {t:TypeId} (h:w.heap[b]? = some (.cells cs t (0,0))) (o:Nat):w.frozen? ⟨b,o,none⟩=false:=by
 unfold World.frozen?
 rw [h];simp
theorem qaK {w:World} {b o:Nat} {cs:Array Value} {t:TypeId} {fr:Nat×Nat} {v:Value} (h:w.heap[b]? = some (.cells cs t fr)):(w.setCell ⟨b,o,none⟩ v).heap[b]? = some (.cells (cs.setIfInBounds o v) t fr):=by
 obtain ⟨h1,h2⟩:=Array.getElem?_eq_some_iff.1 h;simp only [World.setCell];rw [Array.getElem?_eq_getElem (by rw [Array.size_modify]; exact h1),Array.getElem_modify_self,h2];rfl
theorem qkS {w wr w1:World} {l:List qN} {name:List UInt8} {k:Nat} (h:GatS w l name k wr) (hb:Below wr.heap.size wr w1):GatS w l name k w1 where
 box:=(hb.block _ (Array.getElem?_eq_some_iff.1 h.box).1).trans h.box
 res:=(hb.block _ (Array.getElem?_eq_some_iff.1 h.res).1).trans h.res
 map:=by
  obtain ⟨D,⟨es,clock,h1,h2⟩,h3⟩:=h.map;exact ⟨D,⟨es,clock,(hb.block _ (Array.getElem?_eq_some_iff.1 h1).1).trans h1,h2⟩,h3⟩
 below:=h.below.trans (hb.mono h.below.size)
theorem qfg {w wr:World} {l:List qN} {name:List UInt8} {k:Nat} {p:qN} (hp:l[k]? = some p) (h:GatS w l name k wr)
 (h1:z42 p.1 name=true→(extP p=true→(qw name extP (l.take k)).isSome=true)∧(qav p=true→(qw name qav (l.take k)).isSome=true)∧(0≤p.2.1→(qw name (numP p.2.1) (l.take k)).isSome=true)):GatS w l name (k+1) wr:=by
 have key:∀ f:qN→Bool,(z42 p.1 name=true→f p=true→(qw name f (l.take k)).isSome=true)→qw name f (l.take (k+1))=qw name f (l.take k):=fun f hf=>by
  rw [qai name f l k p hp];cases e:qw name f (l.take k) with
  | some i=>rfl
  | none =>
   cases e1:z42 p.1 name with
   | false=>rfl
   | true =>
    cases e2:f p with
    | false=>rfl
    | true=>have:=hf e1 e2; rw [e] at this; cases this
 refine ⟨?_,h.res,?_,h.below⟩
 ·rw [key extP fun a b=>(h1 a).1 b,key qav fun a b=>(h1 a).2.1 b];exact h.box
 ·obtain ⟨D,hD,hN⟩:=h.map;refine ⟨D,hD.mono (Nat.le_succ _),fun n=>?_⟩
  by_cases hn:0≤n
  ·rw [key (numP n) fun a b=>by have:=(h1 a).2.2; unfold numP at b; rw [beq_iff_eq] at b; subst b; exact this hn];exact hN n
  ·have:=hN n;rw [decide_eq_false hn,Bool.false_and] at this ⊢;exact ⟨this.1,fun i h=>absurd h hn⟩
theorem qov (n:Int) (h : -1≤n∧n < 1048577):(Lit.int .i64 n).wf=true:=Go.WalkArith.wf_i64 (by omega)
structure AftS (w:World) (l:List qN) (name:List UInt8) (k:Nat) (num:Int) (ext:Bool) (r:Nat) (w1:World):Prop where
 gat:GatS w l name k w1
 p1:w1.cell? ⟨r,1,none⟩=some (.int .i64 num)
 p2:w1.cell? ⟨r,2,none⟩=some (.bool ext)
theorem qir {w wr w1:World} {l:List qN} {name:List UInt8} {k:Nat} {num:Int} {ext:Bool} {v0 v3:Value} {t:TypeId} (hG:GatS w l name k wr) (hb:Below (wr.alloc (.cells #[v0,.int .i64 num,.bool ext,v3] t)).heap.size (wr.alloc (.cells #[v0,.int .i64 num,.bool ext,v3] t)) w1) :
 AftS w l name k num ext wr.heap.size w1 where
 gat:=qkS hG (((Below.refl _ _).alloc (yv _) _).trans (hb.mono (by simp)))
 p1:=(hb.cell (by simp)).trans (qJ (heap_alloc_new wr _) 1)
 p2:=(hb.cell (by simp)).trans (qJ (heap_alloc_new wr _) 2)
theorem qrc {w w1 w2:World} {l:List qN} {name:List UInt8} {k:Nat} {p:qN} {D:DataW Unit} (hp:l[k]? = some p) (hk:k≤1048576) (hG:GatS w l name k w1) (hs:z42 p.1 name=true) (h0:0≤p.2.1∧p.2.1 < 1000) (h1:qw name (numP p.2.1) (l.take k)=none)
 (hown:w1.ownsMap Tryz.prog 3 (plainElem (H:=Unit) Tryz.prog 3) (w.heap.size+1) k D) (hN:NumsD l name k D)
 (hown2:w2.ownsMap Tryz.prog 3 (plainElem (H:=Unit) Tryz.prog 3) (w.heap.size+1) (k+1) (D.put (.int .i64 p.2.1) (.lit (.int .i64 (k:Int))))) (hg:w1.grownBy w2 (some (w.heap.size+1))):GatS w l name (k+1) w2:=by
 have key:∀ f:qN→Bool,f p=false→qw name f (l.take (k+1))=qw name f (l.take k):=fun f hf=>by
  rw [qai name f l k p hp,hf,Bool.and_false];cases qw name f (l.take k) <;> rfl
 have e1:extP p=false:=by unfold extP; rw [beq_eq_false_iff_ne.2 (by omega:p.2.1 ≠ -1)]; rfl
 have e2:qav p=false:=by unfold qav; rw [beq_eq_false_iff_ne.2 (by omega:p.2.1 ≠ -1)]; rfl
 refine ⟨?_,?_,⟨_,hown2,fun n=>?_⟩,hG.below.grown hg (hG.below.size) (fun j hj=>by cases hj; omega)⟩
 ·rw [key _ e1,key _ e2];exact (hg.block _ (Array.getElem?_eq_some_iff.1 hG.box).1 (by simp)).trans hG.box
 ·exact (hg.block _ (Array.getElem?_eq_some_iff.1 hG.res).1 (by simp)).trans hG.res
 ·by_cases hn:n=p.2.1
  ·subst hn;have hpl:qw name (numP p.2.1) (l.take (k+1))=some k:=by
    rw [qai name _ l k p hp,h1,hs];unfold numP;simp
   rw [hpl];exact ⟨by rw [Maps.has_put_same hown.isMap (show WideAt.IsKeyLit (.int .i64 p.2.1) from trivial),decide_eq_true h0.1]; rfl,fun i _ hi=>by cases hi; exact Maps.atKey_put_same hown.isMap (show WideAt.IsKeyLit (.int .i64 p.2.1) from trivial) _ _⟩
  ·have hpl:qw name (numP n) (l.take (k+1))=qw name (numP n) (l.take k):=key _ (by unfold numP; exact beq_eq_false_iff_ne.2 (fun e=>hn e.symm));have hne:(Lit.int IntKind.i64 n)≠.int .i64 p.2.1:=fun e=>hn (by injection e);rw [hpl,Maps.has_put_other hne];exact ⟨(hN n).1,fun i a b=>by rw [Maps.atKey_put_other hne]; exact (hN n).2 i a b⟩
theorem qhL {w w1:World} {l:List qN} {name:List UInt8} {k o:Nat} {v:Value} {p:qN} (hp:l[k]? = some p) (hn:p.2.1 = -1) (hG:GatS w l name k w1)
 (hb:(#[.int .i64 (optI (qw name extP (l.take k))),.int .i64 (optI (qw name qav (l.take k))),.map (some (w.heap.size+1))]:Array Value).setIfInBounds o v = #[.int .i64 (optI (qw name extP (l.take (k+1)))),.int .i64 (optI (qw name qav (l.take (k+1)))),.map (some (w.heap.size+1))]) :
 GatS w l name (k+1) (w1.setCell ⟨w.heap.size+2,o,none⟩ v):=by
 refine ⟨by rw [← hb]; exact qaK hG.box,?_,?_,hG.below.setCell (by show _≤w.heap.size+2; omega) _⟩
 ·rw [Below.heap_setCell _ _ _ _ (by show w.heap.size≠w.heap.size+2; omega)];exact hG.res
 ·obtain ⟨D,h1,h2⟩:=hG.map;refine ⟨D,(h1.setCell (by show w.heap.size+1≠w.heap.size+2; omega) _).mono (Nat.le_succ _),fun n=>?_⟩
  by_cases hn0:0≤n
  ·have:qw name (numP n) (l.take (k+1))=qw name (numP n) (l.take k):=by
    rw [qai name _ l k p hp,show numP n p=false from by unfold numP; exact beq_eq_false_iff_ne.2 (by omega),Bool.and_false];cases qw name (numP n) (l.take k) <;> rfl
   rw [this];exact h2 n
  ·have:=h2 n;rw [decide_eq_false hn0,Bool.false_and] at this ⊢;exact ⟨this.1,fun i a=>absurd a hn0⟩
theorem law3:Keyed Tryz.prog 3:=int_keyed Tryz.underlying3
theorem zero3 (w:World):(zeroValue 3).run Tryz.prog w=.ok (.int .i64 0) w:=by kernel_rfl
theorem qmF (w:World) (l:List qN) (name:List UInt8):GatS w l name 0 (((w.alloc (.cells #[.int .i64 0,.int .i64 0,.map none] 120)).alloc (.map #[] 0)).alloc (.cells #[.int .i64 (-1),.int .i64 (-1),.map (some (w.heap.size+1))] 120)) where
 box:=by
  show ((((w.heap.push _).push _).push _))[w.heap.size+2]? = _;rw [List.take_zero];simp [qw,optI];rw [Array.getElem_push];simp
 res:=by
  show ((((w.heap.push _).push _).push _))[w.heap.size]? = _;simp only [Array.getElem?_push,Array.size_push];rw [if_neg (by omega),if_neg (by omega),if_pos trivial]
 map:=by
  have h:=(World.ownsMap_made (H:=Unit) (w.alloc (.cells #[.int .i64 0,.int .i64 0,.map none] 120)) Tryz.prog 3 (plainElem (H:=Unit) Tryz.prog 3)).alloc (.cells #[.int .i64 (-1),.int .i64 (-1),.map (some (w.heap.size+1))] 120);rw [show (w.alloc (.cells #[.int .i64 0,.int .i64 0,.map none] 120)).heap.size=w.heap.size+1 from by simp] at h;exact ⟨_,h,fun n=>⟨by simp [Maps.has,qw],fun i _ h=>by simp [qw] at h⟩⟩
 below:=(((Below.refl _ w).alloc (yv _) _).alloc (by simp) _).alloc (by simp; omega) _
set_option maxHeartbeats 8000000 in
set_option maxRecDepth 1000000 in
theorem qis (A:Option Addr) (b off n cap:Nat) (hA:0 < n→A=some ⟨b,off,none⟩) (nv vv:Heads) (l:List qN) (name:List UInt8) (N:Value) (w:World) (hn:n=l.length) (hl:n≤1048576) (hc:qgJ w b off nv vv l) (hS:qff w nv l name N)
 (hnum:∀ p∈l,-1≤p.2.1∧p.2.1 < 1000) :
 Calls Tryz.prog 80 #[.slice A n cap,N] w fun e w'=>(∃ D,w'.ownsMap Tryz.prog 3 (plainElem (H:=Unit) Tryz.prog 3) (w.heap.size+1) n D∧NumsD l name n D)∧Below w.heap.size w w'∧e=.returned (.agg #[.int .i64 (optI (qw name extP l)),.int .i64 (optI (qw name qav l)),.map (some (w.heap.size+1))]):=by
 subst hn;have hmm := @run_makeMap Tryz.prog;have e19:∀ args w,(callFunc 42 args).run Tryz.prog w=.ok (.enter 42 args) w:=enters_of Tryz.func42 (by kernel_rfl) rfl
 go_enter Tryz.func80,Tryz.ntmps80
 go_wp2
 go_loopw [14] (fun i wr=>∃ k:Nat,k≤l.length∧i=.int .i64 (k:Int)∧GatS w l name k wr) (fun i _=>l.length - (RowKit.intOf i).toNat)
 case atStart=>exact ⟨0,Nat.zero_le _,rfl,qmF w l name⟩
 case round =>
  obtain ⟨k,hk,rfl,hG⟩:=hrel;have B:Aside (GatS w l name k wr):=hG;have hws:=hG.below.size
  by_cases hlt:k < l.length
  ·obtain rfl:=hA (by omega);obtain ⟨⟨pn,num,ext,pv,pu⟩,hp⟩:∃ p,l[k]? = some p:=⟨l[k]'hlt,yN hlt⟩;obtain ⟨d0,d1,d2,d3⟩:=hc k _ hp;have blt:=World.block_lt_of_cell? w _ d0;have c0:=(hG.below.cell blt).trans d0;have c1:=(hG.below.cell (World.block_lt_of_cell? w _ d1)).trans d1;have c2:=(hG.below.cell (World.block_lt_of_cell? w _ d2)).trans d2;have c3:=(hG.below.cell (World.block_lt_of_cell? w _ d3)).trans d3;simp only at c0 c1 c2 c3;clear hG d0 d1 d2 d3;cases hs:z42 pn name with
   | false =>
    go_wp2_with (go_at_fn 42; refine (hS _ k _ (B.out.below.alloc B.out.below.size _) hp).mono ?_; rw [hs]; rintro e w1 ⟨rfl,hb1⟩)
    go_roundw
    case rel=>exact ⟨k+1,by omega,by go_num,qfg hp (qkS B.out (((Below.refl _ _).alloc (yv _) _).trans (hb1.mono (by simp)))) (fun h=>by rw [hs] at h; cases h)⟩
    case measure=>simp [RowKit.intOf]; omega
   | true =>
    have hr:=hnum _ (List.mem_of_getElem? hp);simp only at hr;have hwf:(Lit.int .i64 num).wf=true:=qov num (by omega);have hkey:keyOf Tryz.prog 3 (.int .i64 num)=some (.int .i64 num):=keyOf_int_mk Tryz.underlying3 hwf
    by_cases h0:0≤num
    ·have hm1:num ≠ -1:=by omega
     cases e1:qw name (numP num) (l.take k) with
     | some i =>
      go_wp2_with (first
       | (go_at_fn 42; refine (hS _ k _ (B.out.below.alloc B.out.below.size _) hp).mono ?_; rw [hs]; rintro e w1 ⟨rfl,hb1⟩; have A1:Aside (AftS w l name k num ext wr.heap.size w1):=qir B.out hb1; obtain ⟨D,hown,hN0⟩:=A1.out.gat.map; have hN:Aside (NumsD l name k D):=hN0; have hhas:Maps.has D (.int .i64 num)=true:=(by rw [(hN0 num).1]; simp [e1,h0]); have b0:=qJ A1.out.gat.box 0; have b1:=qJ A1.out.gat.box 1; have b2:=qJ A1.out.gat.box 2; have f0:=qr A1.out.gat.box 0; have f1:=qr A1.out.gat.box 1; have p1:=A1.out.p1; have p2:=A1.out.p2; simp at b0 b1 b2; clear hN0)
       | (at_lookup; refine wpList_lookup_own_ok_int _ rfl _ _ 118 rfl 3 3 .i64 law3 Tryz.underlying118 Tryz.underlying3 (zero3 _) (w.heap.size+1) k D rfl hown _ _ rfl hkey ?_; intro cc hat hwc; rw [hhas]))
      go_roundw
      case rel=>exact ⟨k+1,by omega,by go_num,qfg hp A1.out.gat fun _=>⟨fun h=>absurd (by simpa [extP] using h) (fun h:_∧_=>hm1 h.1),fun h=>absurd (by simpa [qav] using h) (fun h:_∧_=>hm1 h.1),fun _=>by simp only [e1,Option.isSome_some]⟩⟩
      case measure=>simp [RowKit.intOf]; omega
     | none =>
      go_wp2_with (first
       | (go_at_fn 42; refine (hS _ k _ (B.out.below.alloc B.out.below.size _) hp).mono ?_; rw [hs]; rintro e w1 ⟨rfl,hb1⟩; have A1:Aside (AftS w l name k num ext wr.heap.size w1):=qir B.out hb1; obtain ⟨D,hown,hN0⟩:=A1.out.gat.map; have hN:Aside (NumsD l name k D):=hN0; have hhas:Maps.has D (.int .i64 num)=false:=(by rw [(hN0 num).1]; simp [e1,h0]); have b0:=qJ A1.out.gat.box 0; have b1:=qJ A1.out.gat.box 1; have b2:=qJ A1.out.gat.box 2; have f0:=qr A1.out.gat.box 0; have f1:=qr A1.out.gat.box 1; have p1:=A1.out.p1; have p2:=A1.out.p2; simp at b0 b1 b2; clear hN0)
       | (at_lookup; refine wpList_lookup_own_ok_int _ rfl _ _ 118 rfl 3 3 .i64 law3 Tryz.underlying118 Tryz.underlying3 (zero3 _) (w.heap.size+1) k D rfl hown _ _ rfl hkey ?_; intro cc hat hwc; rw [hhas])
       | (at_mapUpdate; refine wpList_mapUpdate_own _ rfl _ _ _ 118 rfl 3 3 law3 Tryz.underlying118 (plainElem (H:=Unit) Tryz.prog 3) (w.heap.size+1) k _ rfl hown (by unfold maxLen; omega) _ _ _ rfl rfl hkey _ [] (plainElem_int Tryz.underlying3 (qov _ (by omega))) ?_; intro w2 hown2 hgrow2))
      go_roundw
      case rel=>exact ⟨k+1,by omega,by go_num,qrc hp (by omega) A1.out.gat hs ⟨h0,hr.2⟩ e1 hown hN.out hown2 hgrow2⟩
      case measure=>simp [RowKit.intOf]; omega
    ·obtain rfl:num = -1:=by omega
     cases ext with
     | true =>
      cases e1:qw name extP (l.take k) with
      | some i =>
       have hi:((i:Nat):Int) ≠ -1:=by omega
       go_wp2_with (first
        | (go_at_fn 42; refine (hS _ k _ (B.out.below.alloc B.out.below.size _) hp).mono ?_; rw [hs]; rintro e w1 ⟨rfl,hb1⟩; have A1:Aside (AftS w l name k (-1) true wr.heap.size w1):=qir B.out hb1; obtain ⟨D,hown,hN0⟩:=A1.out.gat.map; have hN:Aside (NumsD l name k D):=hN0; have hhas:Maps.has D (.int .i64 (-1))=false:=(by rw [(hN0 (-1)).1]; simp); have b0:=qJ A1.out.gat.box 0; have b1:=qJ A1.out.gat.box 1; have b2:=qJ A1.out.gat.box 2; have f0:=qr A1.out.gat.box 0; have f1:=qr A1.out.gat.box 1; have p1:=A1.out.p1; have p2:=A1.out.p2; rw [e1] at b0; simp [optI] at b0 b1 b2; clear hN0)
        | (at_lookup; refine wpList_lookup_own_ok_int _ rfl _ _ 118 rfl 3 3 .i64 law3 Tryz.underlying118 Tryz.underlying3 (zero3 _) (w.heap.size+1) k D rfl hown _ _ rfl hkey ?_; intro cc hat hwc; rw [hhas]))
       go_roundw
       case rel=>exact ⟨k+1,by omega,by go_num,qfg hp A1.out.gat fun _=>⟨fun _=>by rw [e1]; rfl,fun h=>(by simp [qav] at h),fun h=>absurd h (by show ¬ (0:Int) ≤ -1; omega)⟩⟩
       case measure=>simp [RowKit.intOf]; omega
      | none =>
       go_wp2_with (first
        | (go_at_fn 42; refine (hS _ k _ (B.out.below.alloc B.out.below.size _) hp).mono ?_; rw [hs]; rintro e w1 ⟨rfl,hb1⟩; have A1:Aside (AftS w l name k (-1) true wr.heap.size w1):=qir B.out hb1; obtain ⟨D,hown,hN0⟩:=A1.out.gat.map; have hN:Aside (NumsD l name k D):=hN0; have hhas:Maps.has D (.int .i64 (-1))=false:=(by rw [(hN0 (-1)).1]; simp); have b0:=qJ A1.out.gat.box 0; have b1:=qJ A1.out.gat.box 1; have b2:=qJ A1.out.gat.box 2; have f0:=qr A1.out.gat.box 0; have f1:=qr A1.out.gat.box 1; have p1:=A1.out.p1; have p2:=A1.out.p2; rw [e1] at b0; simp [optI] at b0 b1 b2; clear hN0)
        | (at_lookup; refine wpList_lookup_own_ok_int _ rfl _ _ 118 rfl 3 3 .i64 law3 Tryz.underlying118 Tryz.underlying3 (zero3 _) (w.heap.size+1) k D rfl hown _ _ rfl hkey ?_; intro cc hat hwc; rw [hhas]))
       go_roundw
       case rel=>exact ⟨k+1,by omega,by go_num,qhL hp rfl A1.out.gat (by rw [qai name extP l k _ hp,qai name qav l k _ hp,e1,hs,show extP (pn,(-1:Int),true,pv,pu)=true from rfl,show qav (pn,(-1:Int),true,pv,pu)=false from rfl]; cases qw name qav (l.take k) <;> rfl)⟩
       case measure=>simp [RowKit.intOf]; omega
     | false =>
      cases e1:qw name qav (l.take k) with
      | some i =>
       have hi:((i:Nat):Int) ≠ -1:=by omega
       go_wp2_with (first
        | (go_at_fn 42; refine (hS _ k _ (B.out.below.alloc B.out.below.size _) hp).mono ?_; rw [hs]; rintro e w1 ⟨rfl,hb1⟩; have A1:Aside (AftS w l name k (-1) false wr.heap.size w1):=qir B.out hb1; obtain ⟨D,hown,hN0⟩:=A1.out.gat.map; have hN:Aside (NumsD l name k D):=hN0; have hhas:Maps.has D (.int .i64 (-1))=false:=(by rw [(hN0 (-1)).1]; simp); have b0:=qJ A1.out.gat.box 0; have b1:=qJ A1.out.gat.box 1; have b2:=qJ A1.out.gat.box 2; have f0:=qr A1.out.gat.box 0; have f1:=qr A1.out.gat.box 1; have p1:=A1.out.p1; have p2:=A1.out.p2; rw [e1] at b1; simp [optI] at b0 b1 b2; clear hN0)
        | (at_lookup; refine wpList_lookup_own_ok_int _ rfl _ _ 118 rfl 3 3 .i64 law3 Tryz.underlying118 Tryz.underlying3 (zero3 _) (w.heap.size+1) k D rfl hown _ _ rfl hkey ?_; intro cc hat hwc; rw [hhas]))
       go_roundw
       case rel=>exact ⟨k+1,by omega,by go_num,qfg hp A1.out.gat fun _=>⟨fun h=>(by simp [extP] at h),fun _=>by rw [e1]; rfl,fun h=>absurd h (by show ¬ (0:Int) ≤ -1; omega)⟩⟩
       case measure=>simp [RowKit.intOf]; omega
      | none =>
       go_wp2_with (first
        | (go_at_fn 42; refine (hS _ k _ (B.out.below.alloc B.out.below.size _) hp).mono ?_; rw [hs]; rintro e w1 ⟨rfl,hb1⟩; have A1:Aside (AftS w l name k (-1) false wr.heap.size w1):=qir B.out hb1; obtain ⟨D,hown,hN0⟩:=A1.out.gat.map; have hN:Aside (NumsD l name k D):=hN0; have hhas:Maps.has D (.int .i64 (-1))=false:=(by rw [(hN0 (-1)).1]; simp); have b0:=qJ A1.out.gat.box 0; have b1:=qJ A1.out.gat.box 1; have b2:=qJ A1.out.gat.box 2; have f0:=qr A1.out.gat.box 0; have f1:=qr A1.out.gat.box 1; have p1:=A1.out.p1; have p2:=A1.out.p2; rw [e1] at b1; simp [optI] at b0 b1 b2; clear hN0)
        | (at_lookup; refine wpList_lookup_own_ok_int _ rfl _ _ 118 rfl 3 3 .i64 law3 Tryz.underlying118 Tryz.underlying3 (zero3 _) (w.heap.size+1) k D rfl hown _ _ rfl hkey ?_; intro cc hat hwc; rw [hhas]))
       go_roundw
       case rel=>exact ⟨k+1,by omega,by go_num,qhL hp rfl A1.out.gat (by rw [qai name extP l k _ hp,qai name qav l k _ hp,e1,hs,show extP (pn,(-1:Int),false,pv,pu)=false from rfl,show qav (pn,(-1:Int),false,pv,pu)=true from rfl]; cases qw name extP (l.take k) <;> rfl)⟩
       case measure=>simp [RowKit.intOf]; omega
  ·have hkl:k=l.length:=by omega
   have b0:=qJ B.out.box 0;have b1:=qJ B.out.box 1;have b2:=qJ B.out.box 2;have r0:=qJ B.out.res 0;have r1:=qJ B.out.res 1;have r2:=qJ B.out.res 2;have f0:=qr B.out.res 0;have f1:=qr B.out.res 1;have f2:=qr B.out.res 2;simp at b0 b1 b2 r0 r1 r2;clear hG
   go_wp2
   subst hkl;have S3:=qaK (o:=2) (v:=.map (some (w.heap.size+1))) (qaK (o:=1) (v:=.int .i64 (optI (qw name qav l))) (qaK (o:=0) (v:=.int .i64 (optI (qw name extP l))) B.out.res))
   (try simp only [Exit.inBlock,Exit.then])
   refine bodyPost_ret (results_cell_row rfl _ _ w.heap.size 120 _ (0,0) _ rfl S3 Tryz.underlying120 rfl (by kernel_rfl)) rfl ?_;obtain ⟨D,hown,hN⟩:=B.out.map;have hne:∀ o,w.heap.size+1≠(⟨w.heap.size,o,none⟩:Addr).block:=fun o=>by show w.heap.size+1≠w.heap.size; omega
   refine ⟨⟨D,((hown.setCell (hne 0) _).setCell (hne 1) _).setCell (hne 2) _,hN⟩,((B.out.below.setCell (yv _) _).setCell (yv _) _).setCell (yv _) _,?_⟩;rfl
end Go.Proofs
end
