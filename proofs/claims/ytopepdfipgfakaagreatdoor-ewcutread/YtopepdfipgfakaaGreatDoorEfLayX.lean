import Derived.Test.YtopepdfipgfakaaGreatDoorEfLayW
import Derived.Test.YtopepdfipgfakaaGreatDoorEfB3
namespace Go.Proofs
set_option linter.unusedVariables false
set_option linter.unusedSimpArgs false
open Go.Shelf Go.RowKit Go.Lib Go.Av
theorem qts (s:List UInt8):copyD (List.replicate (if s.length=0 then 0 else (s.length - 1) / 3*4+4) 61) (z90 s)=z49 s:=by
 have h6:=(qaU s).2.2.2
 have hle:(z90 s).length≤(if s.length=0 then 0 else (s.length - 1) / 3*4+4)∧(if s.length=0 then 0 else (s.length - 1) / 3*4+4) - (z90 s).length=qU (z90 s).length 4:=by
  unfold qU at h6 ⊢
  split <;> omega
 unfold copyD
 rw [List.length_replicate,List.take_of_length_le hle.1,List.drop_replicate,hle.2]
 rfl
theorem qzh {B:Nat} {w1 w2:World} {v:Value} {l:List UInt8} (hf:Lib.FreshBytes B w1 v l) (hb:Below w1.heap.size w1 w2):Lib.FreshBytes B w2 v l:=by
 obtain ⟨g,cap,zs,rfl,h1,h2,h3,h4,h5,h6,h7,h8⟩:=hf
 have hlt:∀ i,i < cap→g < w1.heap.size:=fun i hi=>World.block_lt_of_cell? w1 ⟨g,i,none⟩ (h7 i hi)
 exact ⟨g,cap,zs,rfl,h1,h2,h3,h4,h5,h6,fun i hi=>(hb.cell (p:=⟨g,i,none⟩) (hlt i hi)).trans (h7 i hi),fun i hi=>(hb.frozen (p:=⟨g,i,none⟩) (hlt i hi)).trans (h8 i hi)⟩
set_option maxHeartbeats 8000000 in
set_option maxRecDepth 1000000 in
theorem lay_walk {w:World} {S:qa} {s:List UInt8} {A:Option Addr} {cap:Nat} (hs:s.length≤1048576)
 (hBare:∀ w',Below w.heap.size w w'→Calls Tryz.prog 88 #[.slice A s.length cap] w' fun e w''=>∃ A' cap',e=.returned (.slice A' (z90 s).length cap')∧Below w'.heap.size w' w''∧(A'=none→z90 s=[])∧∀ ad,A'=some ad→∀ (i:Nat) x,(z90 s)[i]? = some x→w''.cell? (ad.add i)=some (.int .u8 (x.toNat:Int))) :
 Calls Tryz.prog 47 #[.slice A s.length cap] w fun e w'=>∃ v,e=.returned v∧Lib.FreshBytes w.heap.size w' v (z49 s)∧Below w.heap.size w w':=by
 obtain ⟨L,hL⟩:∃ L,(if s.length=0 then 0 else (s.length - 1) / 3*4+4)=L:=⟨_,rfl⟩
 have hL2:L≤140737488355328:=by rw [← hL]; split <;> omega
 have hlay:=qts s
 rw [hL] at hlay
 have hlen:=fun w=>qDH s.length hs w
 rw [hL] at hlen
 have e86:∀ args w,(callFunc 86 args).run Tryz.prog w=.ok (.enter 86 args) w:=enters_of Tryz.func86 (by kernel_rfl) rfl
 have e87:∀ args w,(callFunc 87 args).run Tryz.prog w=.ok (.enter 87 args) w:=enters_of Tryz.func87 (by kernel_rfl) rfl
 have e88:∀ args w,(callFunc 88 args).run Tryz.prog w=.ok (.enter 88 args) w:=enters_of Tryz.func88 (by kernel_rfl) rfl
 go_enter Tryz.func47,Tryz.ntmps47
 go_wp2_with (first
  | (go_at_fn 87; refine (hlen _).mono ?_; rintro e w' ⟨rfl,hw⟩; rw [hw]; clear hw)
  | (go_at_fn 86; refine (qzf _ _ 61 L _ (by simp) hL2).mono ?_; rintro e w1 ⟨v1,rfl,hf1,hb1⟩; have hb01:Below w.heap.size w w1:=((Below.refl _ w).alloc (Nat.le_refl _) _).trans (hb1.mono (by simp)))
  | (go_at_fn 88; refine (hBare _ hb01).mono ?_; rintro e w2 ⟨A',cap',rfl,hb2,hA',hc'⟩))
 obtain ⟨n3,w3,hr3,hf3,hb3⟩:=qzg (w:=w) (by simp) (qzh hf1 hb2) hA' hc' (hb01.trans (hb2.mono hb01.size))
 rw [hr3]
 simp only [Result.andThen]
 rw [Oper.upon_value]
 go_wp2
 go_ret
 rw [hlay] at hf3
 obtain ⟨g,cap,zs,rfl,h1,h2⟩:=hf3
 exact ⟨_,rfl,⟨g,cap,zs,rfl,by simp at h1; omega,h2⟩,hb3⟩
end Go.Proofs
