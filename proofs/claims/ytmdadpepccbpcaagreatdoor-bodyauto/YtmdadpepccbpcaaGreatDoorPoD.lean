import Derived.Test.YtmdadpepccbpcaaGreatDoorPoC
import Derived.Laws.IdiomCopy
import Derived.Lib.SlBuf
import Derived.Lib.SlFresh
import Derived.Shelf.RegionOpenPlain
import Derived.WalkKit
import Derived.Lib.Walk
import Derived.Deep.LoopGhost
import Derived.Deep.Draws
import Derived.Below
import Derived.BigCall
import Derived.BigGuard
import Derived.Lib.MakeNoZero
import Derived.Shelf.Bits.Mul64
import Derived.Shelf.Bytes.SlJoin
import Derived.Deep.CutBlock
import Derived.Deep.DeepFit
import Derived.Deep.DeepCutAuto
import Derived.Test.YtmdadpepccbpcaaGreatDoorPoB
section
namespace Go.Proofs
set_option linter.unusedVariables false
set_option linter.unusedSimpArgs false
open Go.Shelf Go.RowKit Go.Lib Go.Av
theorem qHJ {P:Program} (w0 wr:World) (h N bp k:Nat) (x:UInt8) (t ty e:TypeId) (hu:P.underlying t=some (.slice e)) (hs:(P.info? e).map (·.size)=some 1)
 (hb:Lib.Buf w0 wr h N (List.replicate bp x)) (hk0:0 < k) (hk:k≤bp) (hN:bp < N) :
 ∃ wr',(Builtin.copy_ #[t,t] ty #[Lib.tailV h N bp,.slice (some ⟨h,0,none⟩) k N]).run P wr=.ok (.int .i64 ((min (N - bp) k:Nat):Int)) wr'∧Lib.Buf w0 wr' h N (List.replicate (bp+min (N - bp) k) x):=by
 obtain⟨m,hm⟩:∃ m,min (N - bp) k=m:=⟨_,rfl⟩;rw[hm];have hm1:m≤k:=by omega
 have hm2:bp+m≤N:=by omega
 have hne:¬ N=bp:=by omega
 have hr:=run_copy_cells (P:=P) wr t t ty e h bp (N - bp) (N - bp) ⟨h,0,none⟩ k N (List.replicate m (Value.int .u8 (x.toNat:Int))) hu hs (by rw[yQ,← hm];first | rfl | exact Nat.min_comm _ _)
  (fun j u hj=>by
   obtain⟨h1,h2⟩:=List.getElem?_eq_some_iff.1 hj;rw[yQ] at h1;rw[List.getElem_replicate] at h2;subst h2;have:=hb.holds j x (by rw[List.getElem?_replicate,if_pos (by omega)]);rw[Lib.add_plain2];simpa using this)
  (fun j hj=>by rw[yQ] at hj;exact hb.there _ (by omega)) (fun j hj=>by rw[yQ] at hj;exact hb.free _ (by omega))
  (fun u hu'=>by rw[List.eq_of_mem_replicate hu'];rfl)
 rw[yQ] at hr;refine⟨_,by unfold Lib.tailV;rw[if_neg hne];exact hr,?_⟩;have hin:=World.cell?_setCells_in h (List.replicate m (Value.int .u8 (x.toNat:Int))) bp wr (fun j hj=>by rw[yQ] at hj;exact hb.there _ (by omega));have hout:=World.cell?_setCells_out h (List.replicate m (Value.int .u8 (x.toNat:Int))) bp wr;refine⟨?_,?_,?_,?_,by rw[yQ];exact hm2⟩
 ·exact Lib.below_setCells h (yv _) _ _ hb.below
 ·intro j hj
  by_cases h1:bp≤j∧j < bp+m
  ·obtain⟨d,rfl⟩:∃ d,j=bp+d:=⟨j - bp,by omega⟩;rw[hin d (by rw[yQ];omega)];rfl
  ·rw[hout ⟨h,j,none⟩ (fun _ _=>by rw[yQ];show j < _∨_≤j;omega)];exact hb.there j hj
 ·intro j hj;rw[World.frozen?_setCells];exact hb.free j hj
 ·intro j y hy;obtain⟨h1,h2⟩:=List.getElem?_eq_some_iff.1 hy;rw[yQ] at h1;rw[List.getElem_replicate] at h2;subst h2
  by_cases h1:j < bp
  ·rw[hout ⟨h,j,none⟩ (fun _ _=>Or.inl h1)];exact hb.holds j x (by rw[List.getElem?_replicate,if_pos h1])
  ·obtain⟨d,rfl⟩:∃ d,j=bp+d:=⟨j - bp,by omega⟩;rw[hin d (by rw[yQ];omega)];simp
theorem qPf {w0 wr:World} {h N:Nat} {acc:LU} (hb:Lib.Buf w0 wr h N acc):Lib.Buf w0 wr.drew h N acc :=
 ⟨⟨hb.below.os,hb.below.tape,hb.below.output,hb.below.size,hb.below.block⟩,hb.there,hb.free,hb.holds,hb.fits⟩
theorem qmg {P:Program} (W:World) (t e:TypeId) (ht:P.underlying t=some (.slice e)) (hz:∀ w,(Go.sizeOf e).run P w=.ok 1 w) (h N k:Nat) (hk0:0 < k) (hk:k≤N) :
 (Instr.slice t (.slice (some ⟨h,0,none⟩) N N) none (some (.int .i64 (k:Int))) none).run P W=.ok (.slice (some ⟨h,0,none⟩) k N) W:=by
 have ht':P.underlying t=some (.slice (P.elem t)):=by simp[Program.elem,ht]
 have he:P.elem t=e:=by simp[Program.elem,ht]
 rw[run_slice_h W t _ _ _ ht' .i64 _ (by omega) (by omega),he,hz];simp[Result.andThen,sliced,Addr.add]
set_option maxHeartbeats 4000000 in
set_option maxRecDepth 1000000 in
theorem qwq (v:Value) (w:World) :
 Calls Tryz.prog 180 #[v,.int .i64 0] w fun e w'=>e=.returned (.slice (some ⟨w.heap.size,0,none⟩) 0 0)∧w'=w.alloc (.cells #[] 5):=by
 go_enter Tryz.func180,Tryz.ntmps180
 go_wp2
 go_ret
 exact⟨rfl,rfl⟩
set_option maxHeartbeats 8000000 in
set_option maxRecDepth 1000000 in
theorem qwr (a:Addr) (cap:Nat) (x:UInt8) (c:Nat) (w:World) (hx:w.cell? a=some (.int .u8 (x.toNat:Int))) (hc1:1≤c) (hc2:c≤140737488355328) :
 Calls Tryz.prog 180 #[.slice (some a) 1 cap,.int .i64 (c:Int)] w fun e w'=>∃ v',e=.returned v'∧Lib.FreshBytes w.heap.size w' v' (List.replicate c x)∧Below w.heap.size w w':=by
 have hMul:=Any.bits_Mul Tryz.lays212 1 c (by omega) (by omega) w;rw[Nat.one_mul,Nat.div_eq_of_lt (by omega:c < 18446744073709551616),Nat.mod_eq_of_lt (by omega:c < 18446744073709551616),show Tryz.lays212_ren.f 212=220 from rfl] at hMul;have mixed:Tryz.prog.follows .mixedOrders=true:=by kernel_rfl
 have hs5:(Tryz.prog.info? 5).map (·.size)=some 1:=by kernel_rfl
 have e131:∀ args w,(callFunc 220 args).run Tryz.prog w=.ok (.enter 220 args) w:=enters_of Tryz.func220 (by kernel_rfl) rfl;have f0:((c:Int)==0)=false:=beq_eq_false_iff_ne.2 (by omega);obtain⟨cs,hrunM,hle,_⟩:=Lib.run_makeNoZero (P:=Tryz.prog) w #[3] 24 5 Tryz.underlying24 c (by omega);have hcall:(callFunc 221 #[.int .i64 (c:Int)]).run Tryz.prog w=.ok (.value (.slice (some ⟨w.heap.size,0,none⟩) c cs.size)) ((w.alloc (.cells cs 5)).drewN 2):=by
  rw[run_callFunc_extern Tryz.func221 (by kernel_rfl) (by kernel_rfl) (by kernel_rfl) (e:=Extern.BytealgMakeNoZero.makeNoZero #[3] #[24]) (by kernel_rfl),hrunM];rfl
 clear hrunM;have i0:(0:Int)≤(c:Int):=by omega
 have i1:(c:Int)≤(cs.size:Int):=by omega
 have B0:=Lib.Buf.start w cs 5 c 2 hle;obtain⟨w1,hr1,B1⟩:=Lib.copy_part (P:=Tryz.prog) w _ w.heap.size c [] [x] (.slice (some a) 1 cap) 24 3 5 Tryz.underlying24 hs5 (yv _) B0 ⟨some a,cap,rfl,(by intro h;cases h),(fun ad e j y hy=>by
  cases e;match j,hy with
  | 0,hy=>simp only[y3,ya] at hy;subst hy;simpa [Addr.add] using hx
  | j+1,hy=>simp at hy)⟩ (by simp;omega)
 rw[List.length_nil,Lib.tailV_zero] at hr1;rw[List.nil_append] at B1;have H1:Aside (Lib.Buf w w1 w.heap.size c [x]):=B1;clear B1 B0 hle
 by_cases hbig:(8192:Int) < (c:Int)
 all_goals
  go_enter Tryz.func180,Tryz.ntmps180
  go_upto_block 0 with (first | (go_at_fn 220;go_fit hMul;rintro e w' ⟨rfl,hw⟩;rw[hw]) | (at_builtin;refine Lib.wpList_copy_run _ rfl _ _ 24 24 rfl _ _ rfl rfl hr1 ?_))
  go_wp2
  go_loopg [10] (c - 1) (fun g s10 wr=>∃ bp:Nat,1≤bp∧bp≤c∧c - bp≤g∧s10=.int .i64 bp∧Aside (Lib.Buf w wr w.heap.size c (List.replicate bp x)))
  case atStart=>exact⟨1,by omega,by omega,by omega,rfl,H1⟩
  case round =>
   obtain⟨bp,hb1,hb2,hg,rfl,HB⟩:=hrel
   by_cases hlt:bp < c
   ·have hltz:(bp:Int) < (c:Int):=by omega
    obtain⟨k,hk0,hkb,hmin⟩:∃ k:Nat,0 < k∧k≤bp∧∀ (ts:Array TypeId) (t:TypeId) (W:World),(Builtin.min_ ts t #[.int .i64 (bp:Int),.int .i64 (if (8192:Int) < (c:Int) then 8192 else (c:Int))]).run Tryz.prog W=.ok (.int .i64 (k:Int)) W:=by
     by_cases hx1:(8192:Int) < (c:Int)
     ·by_cases hx2:(8192:Int) < (bp:Int)
      ·exact⟨8192,by omega,by omega,fun ts t W=>by rw[if_pos hx1,run_min_int2,if_pos hx2];rfl⟩
      ·exact⟨bp,by omega,by omega,fun ts t W=>by rw[if_pos hx1,run_min_int2,if_neg hx2]⟩
     ·exact⟨bp,by omega,by omega,fun ts t W=>by rw[if_neg hx1,run_min_int2,if_neg (by omega)]⟩
    have hsl1:∀ W,(Instr.slice 24 (.slice (some ⟨w.heap.size,0,none⟩) c c) (some (.int .i64 (bp:Int))) none none).run Tryz.prog W=.ok (Lib.tailV w.heap.size c bp) W:=fun W=>Lib.run_slice_tailV W 24 5 Tryz.underlying24 Tryz.sizeOf5 _ c bp (by omega);have hsl2:∀ W,(Instr.slice 24 (.slice (some ⟨w.heap.size,0,none⟩) c c) none (some (.int .i64 (k:Int))) none).run Tryz.prog W=.ok (.slice (some ⟨w.heap.size,0,none⟩) k c) W:=fun W=>qmg W 24 5 Tryz.underlying24 Tryz.sizeOf5 _ c k hk0 (by omega);obtain⟨w2,hr2,B2⟩:=qHJ (P:=Tryz.prog) w wr.drew w.heap.size c bp k x 24 3 5 Tryz.underlying24 hs5 (qPf HB.out) hk0 hkb hlt;obtain⟨m,hm⟩:∃ m,min (c - bp) k=m:=⟨_,rfl⟩;rw[hm] at hr2 B2;have HB2:Aside (Lib.Buf w w2 w.heap.size c (List.replicate (bp+m) x)):=B2;have hm1:1≤m∧bp+m≤c:=by rw[← hm];exact⟨by rcases Nat.le_total (c - bp) k with h | h <;> simp only[Nat.min_eq_left h,Nat.min_eq_right h] <;> omega,by have:=Nat.min_le_left (c - bp) k;omega⟩
    clear B2;first | rw[if_pos hbig] at hmin | rw[if_neg (by omega)] at hmin
    go_wp2
    go_region
    go_wp2
    go_roundg (c - (bp+m))
    case measure=>omega
    case rel=>exact⟨bp+m,by omega,by omega,yv _,by go_num,HB2⟩
   ·obtain rfl:bp=c:=by omega
    have hltz:¬ (bp:Int) < (bp:Int):=by omega
    go_wp2
    go_ret
    exact⟨_,rfl,HB.out.fresh (by simp) (by unfold maxLen;omega),HB.out.below⟩
end Go.Proofs
end

section
namespace Go.Proofs
set_option linter.unusedVariables false
set_option linter.unusedSimpArgs false
open Go.Shelf Go.RowKit Go.Lib Go.Av
set_option maxHeartbeats 4000000 in
theorem qHq (n:Nat) (h:n≤1048576) (w:World):Calls Tryz.prog 181 #[.int .i64 (n:Int)] w fun e w'=>e=.returned (.int .i64 ((if n=0 then 0 else (n - 1) / 3*4+4:Nat):Int))∧w'=w:=by
 by_cases h0:n=0
 ·subst h0
  go_enter Tryz.func181,Tryz.ntmps181
  go_wp2
  go_ret
  exact⟨rfl,rfl⟩
 ·rw[if_neg h0];have h1:¬ (n:Int) < 1:=by omega
  go_enter Tryz.func181,Tryz.ntmps181
  go_wp2
  go_ret
  refine⟨?_,rfl⟩;show Ending.returned (.int .i64 (((n:Int) - 1) / 3*4+4))=_;congr 2;omega
theorem qBm (a:Addr) (cap:Nat) (x:UInt8) (c:Nat) (w:World) (hx:w.cell? a=some (.int .u8 (x.toNat:Int))) (hc2:c≤140737488355328) :
 Calls Tryz.prog 180 #[.slice (some a) 1 cap,.int .i64 (c:Int)] w fun e w'=>∃ v',e=.returned v'∧Lib.FreshBytes w.heap.size w' v' (List.replicate c x)∧Below w.heap.size w w':=by
 by_cases h0:c=0
 ·subst h0;refine(qwq _ w).mono ?_;rintro e w' ⟨rfl,rfl⟩;refine⟨_,rfl,⟨w.heap.size,0,[],rfl,yv _,yv _,Nat.zero_le _,rfl,(fun x hx=>by cases hx),rfl,(fun i hi=>absurd hi (Nat.not_lt_zero _)),(fun i hi=>absurd hi (Nat.not_lt_zero _))⟩,(Below.refl _ w).alloc (yv _) _⟩
 ·exact qwr a cap x c w hx (by omega) hc2
theorem qBn {w w1:World} {B:Nat} {v:Value} {l m:LU} {A:Option Addr} {cap:Nat} (hw:w.heap.size≤B) (hf:Lib.FreshBytes B w1 v l) (hA:A=none→m=[]) (hs:∀ ad,A=some ad→∀ (i:Nat) x,m[i]? = some x→w1.cell? (ad.add i)=some (.int .u8 (x.toNat:Int))) (hb:Below w.heap.size w w1) :
 ∃ n w2,(Builtin.copy_ #[24,24] 3 #[v,.slice A m.length cap]).run Tryz.prog w1=.ok (.int .i64 n) w2∧Lib.FreshBytes B w2 v (copyD l m)∧Below w.heap.size w w2:=by
 obtain⟨g,cap',zs,rfl,h1,h2,h3,h4,h5,h6,h7,h8⟩:=hf;have hs5:(Tryz.prog.info? 5).map (·.size)=some 1:=by kernel_rfl
 have hl:(copyD l m).length=l.length:=qDM l m
 by_cases hz:min m.length l.length=0
 ·refine⟨0,w1,run_copy_none (P:=Tryz.prog) w1 24 24 3 5 (some ⟨g,0,none⟩) A l.length cap' m.length cap Tryz.underlying24 hs5 hz,?_,hb⟩;have e:copyD l m=l:=by
   apply List.ext_getElem?
   intro n;rw[qMk,if_neg (by omega)]
  rw[e];exact⟨g,cap',zs,rfl,h1,h2,h3,h4,h5,h6,h7,h8⟩
 ·obtain⟨ad,rfl⟩:∃ ad,A=some ad:=by
   cases A with
   | none=>rw[hA rfl] at hz;simp at hz
   | some ad=>exact⟨ad,rfl⟩
  obtain⟨k,hk⟩:∃ k,min m.length l.length=k:=⟨_,rfl⟩;have hkm:k≤m.length:=by omega
  have hkl:k≤l.length:=by omega
  let cs:List Value:=(m.take k).map fun x=>Value.int .u8 (x.toNat:Int)
  have hcs:cs.length=k:=by simp only[cs];rw[yP,yz];omega
  have hcj:∀ j u,cs[j]? = some u→j < k∧∃ x,m[j]? = some x∧u=.int .u8 (x.toNat:Int):=fun j u hj=>by
   have hjl:=(List.getElem?_eq_some_iff.1 hj).1;rw[hcs] at hjl;simp only[cs] at hj;rw[List.getElem?_map,List.getElem?_take_of_lt hjl] at hj;obtain⟨x,hx,rfl⟩:=Option.map_eq_some_iff.1 hj;exact⟨hjl,x,hx,rfl⟩
  have hr:=run_copy_cells (P:=Tryz.prog) w1 24 24 3 5 g 0 l.length cap' ad m.length cap cs Tryz.underlying24 hs5 (by rw[hcs,← hk])
   (fun j u hj=>by
    obtain⟨_,x,hx,rfl⟩:=hcj j u hj;exact hs ad rfl j x hx)
   (fun j hj=>by rw[hcs] at hj;rw[yE,h7 j (by omega)];try rfl) (fun j hj=>by rw[hcs] at hj;rw[yE];exact h8 j (by omega))
   (fun u hu=>by obtain⟨x,_,rfl⟩:=List.mem_map.1 hu;rfl)
  have hin:=World.cell?_setCells_in g cs 0 w1 (fun j hj=>by rw[hcs] at hj;rw[yE,h7 j (by omega)];try rfl);have hout:=World.cell?_setCells_out g cs 0 w1
  let ys:LI:=(m.take k).map (fun x=>(x.toNat:Int))++zs.drop k
  have hyl:ys.length=cap':=by simp only[ys];rw[yn,yP,yz,yK,h4];omega
  have hyi:∀ i,i < k→∃ x,m[i]? = some x∧ys.getD i 0=(x.toNat:Int):=fun i hi=>by
   have hx:m[i]? = some (m[i]'(by omega)):=yO (by omega);refine⟨_,hx,?_⟩;simp only[ys];rw[yY,yM (by rw[yP,yz];omega),List.getElem?_map,List.getElem?_take_of_lt hi,hx];first | done | rfl
  have hyo:∀ i,k≤i→ys.getD i 0=zs.getD i 0:=fun i hi=>by
   simp only[ys];rw[yY,yN (by rw[yP,yz];omega),List.getElem?_drop,yP,yz,yY,show k+(i - min k m.length)=i by omega]
  refine⟨(cs.length:Int),w1.setCells g 0 cs,hr,?_,Lib.below_setCells g (by omega) _ _ hb⟩;refine⟨g,cap',ys,by rw[hl],h1,by rw[hl];exact h2,h3,hyl,?_,?_,?_,?_⟩
  ·intro x hx;rcases List.mem_append.1 hx with hx | hx
   ·obtain⟨y,_,rfl⟩:=List.mem_map.1 hx;have:=y.toNat_lt;omega
   ·exact h5 x (List.mem_of_mem_drop hx)
  ·rw[hl];have e:ys.take l.length=(m.take k).map (fun x=>(x.toNat:Int))++(zs.take l.length).drop k:=by
    simp only[ys];rw[List.take_append,yP,yz,show min k m.length=k by omega,List.take_of_length_le (by rw[yP,yz];omega),List.drop_take]
   rw[e];unfold Lib.bytesOf at h6 ⊢;rw[List.map_append,List.map_drop,h6];have e1:(m.take k).map (fun x=>(x.toNat:Int))=(m.take k).map (fun x=>(x.toNat:Int)):=rfl;have e2:=qcC (m.take k);unfold Lib.bytesOf at e2;rw[e2];unfold copyD;rcases Nat.le_total m.length l.length with h | h
   ·rw[show k=m.length by omega,List.take_of_length_le (yv _),List.take_of_length_le h]
   ·rw[show k=l.length by omega,List.drop_of_length_le (yv _),List.drop_of_length_le h]
  ·intro i hi
   by_cases hik:i < k
   ·obtain⟨x,hx,e⟩:=hyi i hik;have:=hin i (by rw[hcs];exact hik);rw[yE] at this;rw[this,e];have hx':(m.take k)[i]? = some x:=by rw[List.getElem?_take_of_lt hik];exact hx
    have h:=(List.getElem?_eq_some_iff.1 hx').2;simp only[cs,List.getElem_map,h]
   ·rw[hout ⟨g,i,none⟩ (fun _ _=>by rw[hcs];show i < 0∨0+k≤i;omega),hyo i (by omega)];exact h7 i hi
  ·intro i hi;rw[World.frozen?_setCells];exact h8 i hi
theorem res_fresh {w w':World} {S:qa} (hS:∀ b o,S b o→b < w.heap.size) {p:LU} {v:Value} (hB:Below w.heap.size w w') (hf:Lib.FreshBytes w.heap.size w' v p) :
 ∃ S',Grew w S w' S'∧ResRd (· < w.heap.size) w' S' v (da p):=by
 obtain⟨g,cap,zs,rfl,h1,h2,h3,h4,h5,h6,h7,h8⟩:=hf
 let S':qa:=fun b o=>S b o∨(b=g∧o < p.length)
 have hlt:p.length≠0→g < w'.heap.size:=fun hne=>World.block_lt_of_cell? w' ⟨g,0,none⟩ (h7 0 (by omega));have hz:∀ i x,p[i]? = some x→w'.cell? ⟨g,i,none⟩=some (.int .u8 (x.toNat:Int)):=fun i x hi=>by
  have hil:=(List.getElem?_eq_some_iff.1 hi).1;have hzi:zs[i]? = some (zs[i]'(by omega)):=yO (by omega);have hr:=h5 _ (List.getElem_mem (h:=(by omega:i < zs.length)));rw[h7 i (by omega),yY,hzi];have e:p[i]? = (Lib.bytesOf (zs.take p.length))[i]? := by rw[h6]
  unfold Lib.bytesOf at e;rw[List.getElem?_map,List.getElem?_take_of_lt hil,hzi,hi] at e;simp only[yU,ya] at e;subst e;simp only[Option.getD_some];congr 2;have:(UInt8.ofNat (zs[i]'(by omega)).toNat).toNat=(zs[i]'(by omega)).toNat % 256:=rfl;rw[this];omega
 have hch:∀ l:LU,qe (RdC w' S' .byte) l (l.map fun c=>Value.int .u8 (c.toNat:Nat)):=fun l=>by
  induction l with
  | nil=>rfl
  | cons c l ih=>exact⟨[_],_,rfl,rfl,ih⟩
 refine⟨S',⟨hB,fun b o hb=>⟨fun hh=>hh.elim id (fun hh=>by have:=hh.1;omega),.inl⟩,fun b o hh=>hh.elim (fun hh=>yH (hS b o hh) hB.size) (fun hh=>by rw[hh.1];exact hlt (by have:=hh.2;omega))⟩,?_⟩;refine⟨.dat _ _ _ _ ⟨some ⟨g,0,none⟩,cap,_,rfl,h2,hch p,fun _=>⟨⟨g,0,none⟩,rfl,rfl,fun i u hu=>?_⟩⟩,fun s x e=>(by cases e),fun s q e=>(by cases e),fun l te' e=>(by cases e)⟩;rw[List.getElem?_map] at hu;obtain⟨x,hx,rfl⟩:=Option.map_eq_some_iff.1 hu;have hil:=(List.getElem?_eq_some_iff.1 hx).1;refine⟨.inr ⟨rfl,by show 0+i < p.length;omega⟩,?_⟩;show w'.cell? ⟨g,0+i,none⟩=_;rw[yE];exact hz i x hx
end Go.Proofs
end

section
namespace Go.Proofs
set_option linter.unusedVariables false
set_option linter.unusedSimpArgs false
open Go.Shelf Go.RowKit Go.Lib Go.Av
theorem qvZ (s:LU):copyD (List.replicate (if s.length=0 then 0 else (s.length - 1) / 3*4+4) 61) (z138 s)=z74 s:=by
 have h6:=(qlR s).2.2.2;have hle:(z138 s).length≤(if s.length=0 then 0 else (s.length - 1) / 3*4+4)∧(if s.length=0 then 0 else (s.length - 1) / 3*4+4) - (z138 s).length=qN (z138 s).length 4:=by
  unfold qN at h6 ⊢;split <;> omega
 unfold copyD;rw[yQ,List.take_of_length_le hle.1,List.drop_replicate,hle.2];rfl
theorem qBo {B:Nat} {w1 w2:World} {v:Value} {l:LU} (hf:Lib.FreshBytes B w1 v l) (hb:Below w1.heap.size w1 w2):Lib.FreshBytes B w2 v l:=by
 obtain⟨g,cap,zs,rfl,h1,h2,h3,h4,h5,h6,h7,h8⟩:=hf;have hlt:∀ i,i < cap→g < w1.heap.size:=fun i hi=>World.block_lt_of_cell? w1 ⟨g,i,none⟩ (h7 i hi);exact⟨g,cap,zs,rfl,h1,h2,h3,h4,h5,h6,fun i hi=>(hb.cell (p:=⟨g,i,none⟩) (hlt i hi)).trans (h7 i hi),fun i hi=>(hb.frozen (p:=⟨g,i,none⟩) (hlt i hi)).trans (h8 i hi)⟩
set_option maxHeartbeats 8000000 in
set_option maxRecDepth 1000000 in
theorem lay_walk {w:World} {S:qa} {s:LU} {A:Option Addr} {cap:Nat} (hs:s.length≤1048576)
 (hBare:∀ w',Below w.heap.size w w'→Calls Tryz.prog 182 #[.slice A s.length cap] w' fun e w''=>∃ A' cap',e=.returned (.slice A' (z138 s).length cap')∧Below w'.heap.size w' w''∧(A'=none→z138 s=[])∧∀ ad,A'=some ad→∀ (i:Nat) x,(z138 s)[i]? = some x→w''.cell? (ad.add i)=some (.int .u8 (x.toNat:Int))) :
 Calls Tryz.prog 123 #[.slice A s.length cap] w fun e w'=>∃ v,e=.returned v∧Lib.FreshBytes w.heap.size w' v (z74 s)∧Below w.heap.size w w':=by
 obtain⟨L,hL⟩:∃ L,(if s.length=0 then 0 else (s.length - 1) / 3*4+4)=L:=⟨_,rfl⟩;have hL2:L≤140737488355328:=by rw[← hL];split <;> omega
 have hlay:=qvZ s;rw[hL] at hlay;have hlen:=fun w=>qHq s.length hs w;rw[hL] at hlen;have e86:∀ args w,(callFunc 180 args).run Tryz.prog w=.ok (.enter 180 args) w:=enters_of Tryz.func180 (by kernel_rfl) rfl;have e87:∀ args w,(callFunc 181 args).run Tryz.prog w=.ok (.enter 181 args) w:=enters_of Tryz.func181 (by kernel_rfl) rfl;have e88:∀ args w,(callFunc 182 args).run Tryz.prog w=.ok (.enter 182 args) w:=enters_of Tryz.func182 (by kernel_rfl) rfl
 go_enter Tryz.func123,Tryz.ntmps123
 go_wp2_with (first
  | (go_at_fn 181;refine(hlen _).mono ?_;rintro e w' ⟨rfl,hw⟩;rw[hw];clear hw)
  | (go_at_fn 180;refine(qBm _ _ 61 L _ (by simp) hL2).mono ?_;rintro e w1 ⟨v1,rfl,hf1,hb1⟩;have hb01:Below w.heap.size w w1:=((Below.refl _ w).alloc (yv _) _).trans (hb1.mono (by simp)))
  | (go_at_fn 182;refine(hBare _ hb01).mono ?_;rintro e w2 ⟨A',cap',rfl,hb2,hA',hc'⟩))
 obtain⟨n3,w3,hr3,hf3,hb3⟩:=qBn (w:=w) (by simp) (qBo hf1 hb2) hA' hc' (hb01.trans (hb2.mono hb01.size));rw[hr3];simp only[Result.andThen];rw[Oper.upon_value]
 go_wp2
 go_ret
 rw[hlay] at hf3;obtain⟨g,cap,zs,rfl,h1,h2⟩:=hf3;exact⟨_,rfl,⟨g,cap,zs,rfl,by simp at h1;omega,h2⟩,hb3⟩
end Go.Proofs
end
