import Derived.Test.YtcfhfjjohmdaoaaDoorFwStuff
import Derived.Test.YtcfhfjjohmdaoaaDoorFwM
namespace Go.Proofs
set_option linter.unusedVariables false
set_option linter.unusedSimpArgs false
open Go.Shelf Go.RowKit Go.Lib Go.Av
def qdn (w:World) (A:Option Addr) (s:List UInt8) (cap:Nat):Prop:=∀ w',Below w.heap.size w w'→Calls Tryd.prog 80 #[.slice A s.length cap] w' fun e w''=>e=.returned (.bool (z80 s))∧Below w'.heap.size w' w''
theorem qeN {w w':World} (hb:Below w.heap.size w w') {A:Option Addr} {s:List UInt8} (h:∀ a,A=some a→∀ i x,s[i]? = some x→w.cell? (a.add i)=some (.int .u8 (x.toNat:Int))) :
 ∀ a,A=some a→∀ i x,s[i]? = some x→w'.cell? (a.add i)=some (.int .u8 (x.toNat:Int)):=fun a ha i x hx=>by
 have h1:=h a ha i x hx;exact (hb.cell (World.block_lt_of_cell? w _ h1)).trans h1
theorem qak {w w1:World} (h:Below w.heap.size w w1) (o:Obj):Below w.heap.size w (w1.alloc o):=h.trans (((Below.refl _ w1).alloc (yv _) o).mono h.size)
theorem qrn {w:World} (o:Obj) {a:Addr} {v:Value} (h:w.cell? a=some v):(w.alloc o).cell? a=some v :=
 (((Below.refl _ w).alloc (yv _) o).cell (World.block_lt_of_cell? w _ h)).trans h
theorem qne (w:World) (c:UInt8) (i:Nat) (x:UInt8) (h:[c][i]? = some x):(w.alloc (.cells #[Value.int .u8 (c.toNat:Int)] 5)).cell? ((⟨w.heap.size,0,none⟩:Addr).add i)=some (.int .u8 (x.toNat:Int)):=by
 match i,h with
 | 0,h =>
  simp only [yZ,ya] at h;subst h;simp [Addr.add]
 | i+1,h=>simp at h
theorem qtz {w:World} {g c:Nat} {x:UInt8} (h:∀ i,i < c→w.cell? ⟨g,i,none⟩=some (.int .u8 (x.toNat:Int))):∀ i y,(List.replicate c x)[i]? = some y→w.cell? ⟨g,i,none⟩=some (.int .u8 (y.toNat:Int)):=fun i y hy=>by
 obtain ⟨h1,h2⟩:=List.getElem?_eq_some_iff.1 hy;rw [yQ] at h1;rw [List.getElem_replicate] at h2;subst h2;exact h i h1
set_option maxHeartbeats 8000000 in
set_option maxRecDepth 1000000 in
theorem qro {w:World} {s:List UInt8} {A:Option Addr} {cap c:Nat} (hc1:1≤c) (hc2:c≤100) (hs:s.length≤1048576) (hA:A=none→s=[])
 (hcell:∀ a,A=some a→∀ i x,s[i]? = some x→w.cell? (a.add i)=some (.int .u8 (x.toNat:Int))) :
 Calls Tryd.prog 48 #[.int .i64 (c:Int),.slice A s.length cap] w fun e w'=>∃ v,e=.returned v∧qcq w.heap.size w' v (List.replicate c 62++[32]++s)∧Below w.heap.size w w':=by
 have e79:∀ args w,(callFunc 79 args).run Tryd.prog w=.ok (.enter 79 args) w:=enters_of Tryd.func79 (by kernel_rfl) rfl;have f0:(0:Int) < (c:Int):=by omega
 have f1:¬ (c:Int) < 0:=by omega
 go_enter Tryd.func48,Tryd.ntmps48
 go_wp2_with (first
  | (go_at_fn 79; refine (qov _ _ 62 c _ (by simp) hc1 (by omega)).mono ?_; rintro e w1 ⟨g1,rfl,hg1,hcl1,hb1⟩; have hb01:Below w.heap.size w w1:=(qak (Below.refl _ w) _).trans (hb1.mono (by simp)))
  | (at_builtin; refine qaf _ rfl _ _ 22 rfl _ _ rfl rfl (qvP (B:=w.heap.size) _ (qak hb01 _).size (yQ (n:=c) (a:=62)) (qtz fun i hi=>qrn _ (hcl1 i hi)) _ [32] 1 (by simp) (qne _ 32) (by simp; omega)) ?_; rintro v2 w2 ⟨hn2,hb2⟩; have hb02:=(qak hb01 _).trans (hb2.mono (qak hb01 _).size))
  | (at_builtin; refine qaf _ rfl _ _ 22 rfl _ _ rfl rfl (qnb _ hb02.size hn2 A s cap hA (qeN hb02 hcell) (by simp; omega)) ?_; rintro v3 w3 ⟨hn3,hb3⟩))
 go_ret
 exact ⟨_,rfl,hn3,hb3 w rfl hb02⟩
theorem qrp {w:World} {B:Nat} (h:B≤w.heap.size):qcq B (w.alloc (.cells #[] 5)) (.slice (some ⟨w.heap.size,0,none⟩) 0 0) [] :=
 ⟨rfl,.inr ⟨w.heap.size,0,#[],rfl,h,heap_alloc_new w _,yv _,Nat.zero_le _,rfl,rfl⟩⟩
theorem qdo {w w':World} {B:Nat} {v:Value} {l:List UInt8} (h:qcq B w v l) (hb:Below w.heap.size w w'):qcq B w' v l:=by
 refine ⟨h.1,h.2.imp id ?_⟩;rintro ⟨g,cap,cur,h1,h2,h3,h4⟩;exact ⟨g,cap,cur,h1,h2,(hb.block g (Array.getElem?_eq_some_iff.1 h3).1).trans h3,h4⟩
theorem qhx (v:Value) (w:World):Calls Tryd.prog 79 #[v,.int .i64 0] w fun e w'=>∃ v',e=.returned v'∧qcq w.heap.size w' v' []∧Below w.heap.size w w':=by
 refine (qou v w).mono ?_;rintro e w' ⟨rfl,rfl⟩;exact ⟨_,rfl,qrp (yv _),qak (Below.refl _ w) _⟩
theorem qhy {w:World} {B B':Nat} {v:Value} {l:List UInt8} (h:qcq B w v l) (hb:B'≤B):qcq B' w v l:=by
 refine ⟨h.1,h.2.imp id ?_⟩;rintro ⟨g,cap,cur,h1,h2,h3⟩;exact ⟨g,cap,cur,h1,yL hb h2,h3⟩
set_option maxHeartbeats 8000000 in
set_option maxRecDepth 1000000 in
theorem qrq {w:World} {s:List UInt8} {A:Option Addr} {cap:Nat} {d:Int} (hd:d≤0) (hf:z80 s=true) (hSt:qdn w A s cap) (hs:s.length≤1048576) (hA:A=none→s=[])
 (hcell:∀ a,A=some a→∀ i x,s[i]? = some x→w.cell? (a.add i)=some (.int .u8 (x.toNat:Int))) :
 Calls Tryd.prog 48 #[.int .i64 d,.slice A s.length cap] w fun e w'=>∃ v,e=.returned v∧qcq w.heap.size w' v ([]++[32]++s)∧Below w.heap.size w w':=by
 have e79:∀ args w,(callFunc 79 args).run Tryd.prog w=.ok (.enter 79 args) w:=enters_of Tryd.func79 (by kernel_rfl) rfl;have e80:∀ args w,(callFunc 80 args).run Tryd.prog w=.ok (.enter 80 args) w:=enters_of Tryd.func80 (by kernel_rfl) rfl;have f0:¬ (0:Int) < d:=by omega
 have hmx:max d 0=0:=by omega
 go_enter Tryd.func48,Tryd.ntmps48
 go_wp2_with (first
  | (go_at_fn 79; refine (qhx _ _).mono ?_; rintro e w1 ⟨v1,rfl,hn1',hb1⟩; have hb01:Below w.heap.size w w1:=(qak (Below.refl _ w) _).trans (hb1.mono (by simp)); have hn1:qcq w.heap.size w1 v1 []:=qhy hn1' (by simp))
  | (go_at_fn 80; refine (hSt _ hb01).mono ?_; rintro e w2 ⟨rfl,hb2⟩; have hb02:Below w.heap.size w w2:=hb01.trans (hb2.mono hb01.size); have hn2:=qdo hn1 hb2; rw [hf])
  | (at_builtin; refine qaf _ rfl _ _ 22 rfl _ _ rfl rfl (qnb _ (qak hb02 _).size (qdo hn2 ((Below.refl _ w2).alloc (yv _) _)) (some _) [32] 1 (fun h=>by cases h) (fun a ha=>by cases ha; exact qne _ 32) (by simp)) ?_; rintro v3 w3 ⟨hn3,hb3⟩; have hb03:=hb3 w rfl (qak hb02 _))
  | (at_builtin; refine qaf _ rfl _ _ 22 rfl _ _ rfl rfl (qnb _ hb03.size hn3 A s cap hA (qeN hb03 hcell) (by simp; omega)) ?_; rintro v4 w4 ⟨hn4,hb4⟩))
 go_ret
 exact ⟨_,rfl,hn4,hb4 w rfl hb03⟩
set_option maxHeartbeats 8000000 in
set_option maxRecDepth 1000000 in
theorem qrr {w:World} {s:List UInt8} {A:Option Addr} {cap:Nat} {d:Int} (hd:d≤0) (hf:z80 s=false) (hSt:qdn w A s cap) (hs:s.length≤1048576) (hA:A=none→s=[])
 (hcell:∀ a,A=some a→∀ i x,s[i]? = some x→w.cell? (a.add i)=some (.int .u8 (x.toNat:Int))) :
 Calls Tryd.prog 48 #[.int .i64 d,.slice A s.length cap] w fun e w'=>∃ v,e=.returned v∧qcq w.heap.size w' v ([]++s)∧Below w.heap.size w w':=by
 have e79:∀ args w,(callFunc 79 args).run Tryd.prog w=.ok (.enter 79 args) w:=enters_of Tryd.func79 (by kernel_rfl) rfl;have e80:∀ args w,(callFunc 80 args).run Tryd.prog w=.ok (.enter 80 args) w:=enters_of Tryd.func80 (by kernel_rfl) rfl;have f0:¬ (0:Int) < d:=by omega
 have hmx:max d 0=0:=by omega
 go_enter Tryd.func48,Tryd.ntmps48
 go_wp2_with (first
  | (go_at_fn 79; refine (qhx _ _).mono ?_; rintro e w1 ⟨v1,rfl,hn1',hb1⟩; have hb01:Below w.heap.size w w1:=(qak (Below.refl _ w) _).trans (hb1.mono (by simp)); have hn1:qcq w.heap.size w1 v1 []:=qhy hn1' (by simp))
  | (go_at_fn 80; refine (hSt _ hb01).mono ?_; rintro e w2 ⟨rfl,hb2⟩; have hb02:Below w.heap.size w w2:=hb01.trans (hb2.mono hb01.size); have hn2:=qdo hn1 hb2; rw [hf])
  | (at_builtin; refine qaf _ rfl _ _ 22 rfl _ _ rfl rfl (qnb _ hb02.size hn2 A s cap hA (qeN hb02 hcell) (by simp; omega)) ?_; rintro v4 w4 ⟨hn4,hb4⟩))
 go_ret
 exact ⟨_,rfl,hn4,hb4 w rfl hb02⟩
theorem stuff_walk {w:World} {s:List UInt8} {A:Option Addr} {cap:Nat} {d:Int} (hd:d≤100) (hSt:qdn w A s cap) (hs:s.length≤1048576) (hA:A=none→s=[])
 (hcell:∀ a,A=some a→∀ i x,s[i]? = some x→w.cell? (a.add i)=some (.int .u8 (x.toNat:Int))) :
 Calls Tryd.prog 48 #[.int .i64 d,.slice A s.length cap] w fun e w'=>∃ v,e=.returned v∧qcq w.heap.size w' v (qx d s)∧Below w.heap.size w w':=by
 by_cases h0:0 < d
 ·obtain ⟨c,rfl⟩:∃ c:Nat,d=c:=⟨d.toNat,by omega⟩;refine (qro (c:=c) (by omega) (by omega) hs hA hcell).mono ?_;rintro e w' ⟨v,rfl,h1,h2⟩;refine ⟨v,rfl,?_,h2⟩;unfold qx;rw [yo h0,Int.toNat_natCast,Bool.true_or];simpa using h1
 ·have hn:d.toNat=0:=by omega
  have hd0:decide (0 < d)=false:=yx h0;cases hf:z80 s with
  | true =>
   refine (qrq (by omega) hf hSt hs hA hcell).mono ?_;rintro e w' ⟨v,rfl,h1,h2⟩;refine ⟨v,rfl,?_,h2⟩;unfold qx;rw [hd0,hf,hn];simpa using h1
  | false =>
   refine (qrr (by omega) hf hSt hs hA hcell).mono ?_;rintro e w' ⟨v,rfl,h1,h2⟩;refine ⟨v,rfl,?_,h2⟩;unfold qx;rw [hd0,hf,hn];simpa using h1
end Go.Proofs
