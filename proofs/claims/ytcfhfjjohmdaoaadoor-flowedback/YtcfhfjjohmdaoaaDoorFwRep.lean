import Derived.Test.YtcfhfjjohmdaoaaDoorFwN
import Derived.Laws.IdiomCopy
import Derived.Lib.SlBuf
import Derived.Lib.SlFresh
import Derived.Shelf.RegionOpenPlain
import Derived.WalkKit
import Derived.Lib.Walk
import Derived.Deep.LoopGhost
import Derived.Deep.Draws
import Derived.Below
import Derived.BigCall
import Derived.BigGuard
import Derived.Lib.MakeNoZero
import Derived.Shelf.Bits.Mul64
import Derived.Shelf.Bytes.SlJoin
import Derived.Deep.CutBlock
import Derived.Deep.DeepFit
import Derived.Deep.DeepCutAuto
namespace Go.Proofs
set_option linter.unusedVariables false
set_option linter.unusedSimpArgs false
open Go.Shelf Go.RowKit Go.Lib
theorem qtb {P:Program} (w0 wr:World) (h N bp k:Nat) (x:UInt8) (t ty e:TypeId) (hu:P.underlying t=some (.slice e)) (hs:(P.info? e).map (·.size)=some 1)
 (hb:Lib.Buf w0 wr h N (List.replicate bp x)) (hk0:0 < k) (hk:k≤bp) (hN:bp < N) :
 ∃ wr',(Builtin.copy_ #[t,t] ty #[Lib.tailV h N bp,.slice (some ⟨h,0,none⟩) k N]).run P wr=.ok (.int .i64 ((min (N - bp) k:Nat):Int)) wr'∧Lib.Buf w0 wr' h N (List.replicate (bp+min (N - bp) k) x):=by
 obtain ⟨m,hm⟩:∃ m,min (N - bp) k=m:=⟨_,rfl⟩;rw [hm];have hm1:m≤k:=by omega
 have hm2:bp+m≤N:=by omega
 have hne:¬ N=bp:=by omega
 have hr:=run_copy_cells (P:=P) wr t t ty e h bp (N - bp) (N - bp) ⟨h,0,none⟩ k N (List.replicate m (Value.int .u8 (x.toNat:Int))) hu hs (by rw [List.length_replicate,← hm]; first | rfl | exact Nat.min_comm _ _)
  (fun j u hj=>by
   obtain ⟨h1,h2⟩:=List.getElem?_eq_some_iff.1 hj;rw [List.length_replicate] at h1;rw [List.getElem_replicate] at h2;subst h2;have:=hb.holds j x (by rw [List.getElem?_replicate,if_pos (by omega)]);rw [Lib.add_plain2];simpa using this)
  (fun j hj=>by rw [List.length_replicate] at hj; exact hb.there _ (by omega)) (fun j hj=>by rw [List.length_replicate] at hj; exact hb.free _ (by omega))
  (fun u hu'=>by rw [List.eq_of_mem_replicate hu']; rfl)
 rw [List.length_replicate] at hr;refine ⟨_,by unfold Lib.tailV; rw [if_neg hne]; exact hr,?_⟩;have hin:=World.cell?_setCells_in h (List.replicate m (Value.int .u8 (x.toNat:Int))) bp wr (fun j hj=>by rw [List.length_replicate] at hj; exact hb.there _ (by omega));have hout:=World.cell?_setCells_out h (List.replicate m (Value.int .u8 (x.toNat:Int))) bp wr;refine ⟨?_,?_,?_,?_,by rw [List.length_replicate]; exact hm2⟩
 ·exact Lib.below_setCells h (Nat.le_refl _) _ _ hb.below
 ·intro j hj
  by_cases h1:bp≤j∧j < bp+m
  ·obtain ⟨d,rfl⟩:∃ d,j=bp+d:=⟨j - bp,by omega⟩;rw [hin d (by rw [List.length_replicate]; omega)];rfl
  ·rw [hout ⟨h,j,none⟩ (fun _ _=>by rw [List.length_replicate]; show j < _∨_≤j; omega)];exact hb.there j hj
 ·intro j hj;rw [World.frozen?_setCells];exact hb.free j hj
 ·intro j y hy;obtain ⟨h1,h2⟩:=List.getElem?_eq_some_iff.1 hy;rw [List.length_replicate] at h1;rw [List.getElem_replicate] at h2;subst h2
  by_cases h1:j < bp
  ·rw [hout ⟨h,j,none⟩ (fun _ _=>Or.inl h1)];exact hb.holds j x (by rw [List.getElem?_replicate,if_pos h1])
  ·obtain ⟨d,rfl⟩:∃ d,j=bp+d:=⟨j - bp,by omega⟩;rw [hin d (by rw [List.length_replicate]; omega)];simp
theorem qvu {w0 wr:World} {h N:Nat} {acc:List UInt8} (hb:Lib.Buf w0 wr h N acc):Lib.Buf w0 wr.drew h N acc :=
 ⟨⟨hb.below.os,hb.below.tape,hb.below.output,hb.below.size,hb.below.block⟩,hb.there,hb.free,hb.holds,hb.fits⟩
theorem qix {P:Program} (W:World) (t e:TypeId) (ht:P.underlying t=some (.slice e)) (hz:∀ w,(Go.sizeOf e).run P w=.ok 1 w) (h N k:Nat) (hk0:0 < k) (hk:k≤N) :
 (Instr.slice t (.slice (some ⟨h,0,none⟩) N N) none (some (.int .i64 (k:Int))) none).run P W=.ok (.slice (some ⟨h,0,none⟩) k N) W:=by
 have ht':P.underlying t=some (.slice (P.elem t)):=by simp [Program.elem,ht]
 have he:P.elem t=e:=by simp [Program.elem,ht]
 rw [run_slice_h W t _ _ _ ht' .i64 _ (by omega) (by omega),he,hz];simp [Result.andThen,sliced,Addr.add]
set_option maxHeartbeats 4000000 in
set_option maxRecDepth 1000000 in
theorem qou (v:Value) (w:World) :
 Calls Tryd.prog 79 #[v,.int .i64 0] w fun e w'=>e=.returned (.slice (some ⟨w.heap.size,0,none⟩) 0 0)∧w'=w.alloc (.cells #[] 5):=by
 go_enter Tryd.func79,Tryd.ntmps79
 go_wp2
 go_ret
 exact ⟨rfl,rfl⟩
set_option maxHeartbeats 8000000 in
set_option maxRecDepth 1000000 in
theorem qov (a:Addr) (cap:Nat) (x:UInt8) (c:Nat) (w:World) (hx:w.cell? a=some (.int .u8 (x.toNat:Int))) (hc1:1≤c) (hc2:c≤140737488355328) :
 Calls Tryd.prog 79 #[.slice (some a) 1 cap,.int .i64 (c:Int)] w fun e w'=>∃ g,e=.returned (.slice (some ⟨g,0,none⟩) c c)∧w.heap.size≤g∧(∀ i,i < c→w'.cell? ⟨g,i,none⟩=some (.int .u8 (x.toNat:Int)))∧Below w.heap.size w w':=by
 have hMul:=Any.bits_Mul Tryd.lays212 1 c (by omega) (by omega) w;rw [Nat.one_mul,Nat.div_eq_of_lt (by omega:c < 18446744073709551616),Nat.mod_eq_of_lt (by omega:c < 18446744073709551616),show Tryd.lays212_ren.f 212=97 from rfl] at hMul;have mixed:Tryd.prog.follows .mixedOrders=true:=by kernel_rfl
 have hs5:(Tryd.prog.info? 5).map (·.size)=some 1:=by kernel_rfl
 have e131:∀ args w,(callFunc 97 args).run Tryd.prog w=.ok (.enter 97 args) w:=enters_of Tryd.func97 (by kernel_rfl) rfl;have f0:((c:Int)==0)=false:=beq_eq_false_iff_ne.2 (by omega);obtain ⟨cs,hrunM,hle,_⟩:=Lib.run_makeNoZero (P:=Tryd.prog) w #[3] 22 5 Tryd.underlying22 c (by omega);have hcall:(callFunc 98 #[.int .i64 (c:Int)]).run Tryd.prog w=.ok (.value (.slice (some ⟨w.heap.size,0,none⟩) c cs.size)) ((w.alloc (.cells cs 5)).drewN 2):=by
  rw [run_callFunc_extern Tryd.func98 (by kernel_rfl) (by kernel_rfl) (by kernel_rfl) (e:=Extern.BytealgMakeNoZero.makeNoZero #[3] #[22]) (by kernel_rfl),hrunM];rfl
 clear hrunM;have i0:(0:Int)≤(c:Int):=by omega
 have i1:(c:Int)≤(cs.size:Int):=by omega
 have B0:=Lib.Buf.start w cs 5 c 2 hle;obtain ⟨w1,hr1,B1⟩:=Lib.copy_part (P:=Tryd.prog) w _ w.heap.size c [] [x] (.slice (some a) 1 cap) 22 3 5 Tryd.underlying22 hs5 (Nat.le_refl _) B0 ⟨some a,cap,rfl,(by intro h; cases h),(fun ad e j y hy=>by
  cases e;match j,hy with
  | 0,hy=>simp only [List.getElem?_cons_zero,Option.some.injEq] at hy; subst hy; simpa [Addr.add] using hx
  | j+1,hy=>simp at hy)⟩ (by simp; omega)
 rw [List.length_nil,Lib.tailV_zero] at hr1;rw [List.nil_append] at B1;have H1:Aside (Lib.Buf w w1 w.heap.size c [x]):=B1;clear B1 B0 hle
 by_cases hbig:(8192:Int) < (c:Int)
 all_goals
  go_enter Tryd.func79,Tryd.ntmps79
  go_upto_block 0 with (first | (go_at_fn 97; go_fit hMul; rintro e w' ⟨rfl,hw⟩; rw [hw]) | (at_builtin; refine Lib.wpList_copy_run _ rfl _ _ 22 22 rfl _ _ rfl rfl hr1 ?_))
  go_wp2
  go_loopg [10] (c - 1) (fun g s10 wr=>∃ bp:Nat,1≤bp∧bp≤c∧c - bp≤g∧s10=.int .i64 bp∧Aside (Lib.Buf w wr w.heap.size c (List.replicate bp x)))
  case atStart=>exact ⟨1,by omega,by omega,by omega,rfl,H1⟩
  case round =>
   obtain ⟨bp,hb1,hb2,hg,rfl,HB⟩:=hrel
   by_cases hlt:bp < c
   ·have hltz:(bp:Int) < (c:Int):=by omega
    obtain ⟨k,hk0,hkb,hmin⟩:∃ k:Nat,0 < k∧k≤bp∧∀ (ts:Array TypeId) (t:TypeId) (W:World),(Builtin.min_ ts t #[.int .i64 (bp:Int),.int .i64 (if (8192:Int) < (c:Int) then 8192 else (c:Int))]).run Tryd.prog W=.ok (.int .i64 (k:Int)) W:=by
     by_cases hx1:(8192:Int) < (c:Int)
     ·by_cases hx2:(8192:Int) < (bp:Int)
      ·exact ⟨8192,by omega,by omega,fun ts t W=>by rw [if_pos hx1,run_min_int2,if_pos hx2]; rfl⟩
      ·exact ⟨bp,by omega,by omega,fun ts t W=>by rw [if_pos hx1,run_min_int2,if_neg hx2]⟩
     ·exact ⟨bp,by omega,by omega,fun ts t W=>by rw [if_neg hx1,run_min_int2,if_neg (by omega)]⟩
    have hsl1:∀ W,(Instr.slice 22 (.slice (some ⟨w.heap.size,0,none⟩) c c) (some (.int .i64 (bp:Int))) none none).run Tryd.prog W=.ok (Lib.tailV w.heap.size c bp) W:=fun W=>Lib.run_slice_tailV W 22 5 Tryd.underlying22 Tryd.sizeOf5 _ c bp (by omega);have hsl2:∀ W,(Instr.slice 22 (.slice (some ⟨w.heap.size,0,none⟩) c c) none (some (.int .i64 (k:Int))) none).run Tryd.prog W=.ok (.slice (some ⟨w.heap.size,0,none⟩) k c) W:=fun W=>qix W 22 5 Tryd.underlying22 Tryd.sizeOf5 _ c k hk0 (by omega);obtain ⟨w2,hr2,B2⟩:=qtb (P:=Tryd.prog) w wr.drew w.heap.size c bp k x 22 3 5 Tryd.underlying22 hs5 (qvu HB.out) hk0 hkb hlt;obtain ⟨m,hm⟩:∃ m,min (c - bp) k=m:=⟨_,rfl⟩;rw [hm] at hr2 B2;have HB2:Aside (Lib.Buf w w2 w.heap.size c (List.replicate (bp+m) x)):=B2;have hm1:1≤m∧bp+m≤c:=by rw [← hm]; exact ⟨by rcases Nat.le_total (c - bp) k with h | h <;> simp only [Nat.min_eq_left h,Nat.min_eq_right h] <;> omega,by have:=Nat.min_le_left (c - bp) k; omega⟩
    clear B2;first | rw [if_pos hbig] at hmin | rw [if_neg (by omega)] at hmin
    go_wp2
    go_region
    go_wp2
    go_roundg (c - (bp+m))
    case measure=>omega
    case rel=>exact ⟨bp+m,by omega,by omega,Nat.le_refl _,by go_num,HB2⟩
   ·obtain rfl:bp=c:=by omega
    have hltz:¬ (bp:Int) < (bp:Int):=by omega
    go_wp2
    go_ret
    exact ⟨_,rfl,Nat.le_refl _,fun i hi=>HB.out.holds i x (by rw [List.getElem?_replicate,if_pos hi]),HB.out.below⟩
end Go.Proofs
