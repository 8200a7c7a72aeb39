import Derived.Test.YtopepdfipgfakaaGreatDoorCuM
import Derived.Test.YtopepdfipgfakaaGreatDoorCuLay
import Derived.Test.YtopepdfipgfakaaGreatDoorEfLayX
import Derived.Test.YtopepdfipgfakaaGreatDoorAvE
namespace Go.Av
set_option linter.unusedVariables false
set_option linter.unusedSimpArgs false
open Go.Proofs Go.RowKit
def TabC (g:Nat) (tab:List Nat) (w:World) (S:qa):Prop:=∀ j,j < tab.length→S g j∧w.cell? ⟨g,j,none⟩=some (.int .u8 (tab.getD j 0:Nat))
theorem qwQ (g:Nat) (tab:List Nat):Stays (TabC g tab):=fun _ _ _ _ hk h j hj=>⟨(hk _ _ (h j hj).1).1,(hk _ _ (h j hj).1).2.trans (h j hj).2⟩
def Gc (w:World) (S:qa):Prop:=G w S∧TabC 2 Lib.deBruijn64tab w S
theorem qbc:Stays Gc:=fun w S w' S' hk h=>⟨G_stays w S w' S' hk h.1,qwQ _ _ w S w' S' hk h.2⟩
theorem qbr (w:World) (S:qa) (_:Gc w S):GlOk (fun _=>none) w S:=fun g s x h=>by cases h
theorem qta {w:World} {S:qa} (hT:TabC 2 Lib.deBruijn64tab w S) (hS:∀ b o,S b o→b < w.heap.size) {vals:List Value} {x:Int} {o:Lab}
 (ha:qae w S vals [.dat (.int .u64) x o]) (h0:0≤x) (h1:x < 18446744073709551616) :
 Ran Tryz.prog 201 vals.toArray w fun v w'=>∃ S',Grew w S w' S'∧ResRd (· < w.heap.size) w' S' v (.int .i64 (z201 x)):=by
 obtain ⟨u,rfl,h2⟩:=args1 ha
 obtain rfl:=qT h2
 obtain ⟨n,rfl⟩:∃ n:Nat,x=n:=⟨x.toNat,by omega⟩
 refine .inl ⟨enters_of (c:=Tryz.f201.body.getD .skip) Tryz.func201 (by kernel_rfl) (by kernel_rfl) _ _,(Any7.bits_TrailingZeros64 Tryz.lays7_29 n (by omega) w (fun _ j hj=>(hT j hj).2)).mono ?_⟩
 rintro e w' ⟨rfl,rfl⟩
 exact ⟨_,rfl,S,qfT hS,by
  have:z201 (n:Int)=((Lib.ctz 64 n:Nat):Int):=by simp [z201]
  rw [this]
  exact qrK⟩
theorem qFH {w:World} {S:qa} {x:List UInt8} {v:Value} (h:RdC w S (.sl .byte) x [v]):Lib.HoldsBytes w v x:=by
 have h':Rd w S v (.dat (.sl .byte) x none):=.dat _ _ _ _ (by simpa [RdV,Sh.agg] using h)
 obtain ⟨A,cap,rfl,_,hA,hc⟩:=qkL h'
 refine ⟨A,cap,rfl,hA,fun ad e i y hi=>?_⟩
 have hil:=(List.getElem?_eq_some_iff.1 hi).1
 rw [hc ad e i hil]
 simp [List.getD,List.getElem?_map,hi]
theorem qwR {w:World} {S:qa}:∀ (l:List (List UInt8)) (cs:List Value),qd (RdC w S (.sl .byte)) l cs→cs.length=l.length∧∀ (i:Nat) v x,cs[i]? = some v→l[i]? = some x→Lib.HoldsBytes w v x
 | [],cs,h=>by
  have:cs=[]:=h
  subst this
  exact ⟨rfl,fun i v x h=>by simp at h⟩
 | y :: l,cs,h=>by
  obtain ⟨v1,v2,rfl,h1,h2⟩:=h
  have h1':=h1
  obtain ⟨A,cap,cs',e,_,_⟩:=h1'
  subst e
  obtain ⟨k1,k2⟩:=qwR l v2 h2
  refine ⟨by simp [k1],fun i v x hv hx=>?_⟩
  match i,hv,hx with
  | 0,hv,hx =>
   simp only [List.singleton_append,List.getElem?_cons_zero,Option.some.injEq] at hv hx
   subst hv hx
   exact qFH h1
  | i+1,hv,hx =>
   simp only [List.singleton_append,List.getElem?_cons_succ] at hv hx
   exact k2 i v x hv hx
theorem qwT (sep:List UInt8):∀ l:List (List UInt8),joinB sep l=Lib.join l sep
 | []=>rfl
 | [a]=>by simp [joinB,Lib.join_one]
 | a :: b :: l=>by
  rw [Lib.join_cons]
  have:=qwT sep (b :: l)
  rw [Lib.join_cons] at this
  simp [joinB,this,Lib.joinTail]
theorem qEg (m:Nat):∀ l:List (List UInt8),(∀ s∈l,s.length≤m)→Lib.lens l≤m*l.length
 | [],_=>by simp [Lib.lens]
 | a :: l,h=>by
  have h1:=qEg m l (fun s hs=>h s (List.mem_cons_of_mem _ hs))
  have h2:=h a List.mem_cons_self
  have:Lib.lens (a :: l)=a.length+Lib.lens l:=by simp [Lib.lens]
  rw [this,List.length_cons,Nat.mul_succ]
  omega
theorem qwU {w:World} {S:qa} (hS:∀ b o,S b o→b < w.heap.size) {vals:List Value} {l:List (List UInt8)} {sep:List UInt8} {o1 o2:Lab}
 (ha:qae w S vals [.dat (.sl (.sl .byte)) l o1,.dat (.sl .byte) sep o2]) (hok:qsZ l sep=true) :
 Ran Tryz.prog 77 vals.toArray w fun v w'=>∃ S',Grew w S w' S'∧ResRd (· < w.heap.size) w' S' v (.dat (.sl .byte) (z77 l sep) none):=by
 unfold qsZ at hok
 simp only [Bool.and_eq_true,decide_eq_true_eq,List.all_eq_true] at hok
 obtain ⟨hn,hsep,hl⟩:=hok
 have hsl:=qh hsep
 obtain ⟨u,v,rfl,h1,h2⟩:=args2 ha
 obtain ⟨A,cap,cs,rfl,hcap,hch,hm⟩:=rd_sl h1
 obtain ⟨B,cap2,rfl,_,hB,hcB⟩:=qkL h2
 have hent:∀ a b,(callFunc 77 #[a,b]).run Tryz.prog w=.ok (.enter 77 #[a,b]) w:=fun a b=>enters_of (c:=Tryz.f77.body.getD .skip) Tryz.func77 (by kernel_rfl) (by kernel_rfl) _ _
 obtain ⟨hcl,hpc⟩:=qwR l cs hch
 match l,hcap,hch,hm,hn,hl,hcl,hpc with
 | [],hcap,hch,hm,hn,hl,hcl,hpc =>
  refine .inl ⟨hent _ _,(Any.bytes_Join_none Tryz.laysSlJ14 A cap _ w).mono ?_⟩
  rintro e w' ⟨rfl,rfl⟩
  refine ⟨_,rfl,Go.Proofs.res_fresh hS (qz w _) ⟨w.heap.size,0,[],rfl,Nat.le_refl _,Nat.le_refl _,by decide,rfl,by simp,rfl,by simp,by simp⟩⟩
 | x :: l,hcap,hch,hm,hn,hl,hcl,hpc =>
  obtain ⟨ad,rfl,hmem⟩:=hm (by rintro rfl; simp at hcl)
  have had:∀ i,ad.add i=⟨ad.block,ad.off+i,none⟩:=fun i=>qcN ad i hmem.1
  have hadd:ad=⟨ad.block,ad.off,none⟩:=by
   obtain ⟨b,o,s⟩:=ad
   have:=hmem.1
   simp only at this
   subst this
   rfl
  have hP:Lib.PartsAt w ⟨ad.block,ad.off,none⟩ cs (x :: l):=⟨hcl,fun i v hi=>by rw [← hadd,had]; exact (hmem.2 i v hi).2,hpc⟩
  match l,hcap,hch,hn,hl,hcl,hpc,hP with
  | [],hcap,hch,hn,hl,hcl,hpc,hP =>
   obtain ⟨p0,c0,y,hy,hcell,hp0,hc⟩:=Lib.PartsAt.get hP 0 (by simp)
   simp only [List.getElem?_cons_zero,Option.some.injEq] at hy
   subst hy
   have hx75:=hl x (by simp)
   have e0:(⟨ad.block,ad.off,none⟩:Addr).add 0=⟨ad.block,ad.off,none⟩:=Lib.add_plain2 _ _ 0
   rw [e0] at hcell
   rw [hadd]
   rcases Nat.eq_zero_or_pos x.length with h0 | h0
   ·have hx:x=[]:=List.eq_nil_of_length_eq_zero h0
    subst hx
    refine .inl ⟨hent _ _,(Any.bytes_Join_one_empty Tryz.laysSlJ14 ad.block ad.off cap p0 c0 _ w hcell).mono ?_⟩
    rintro e w' ⟨rfl,rfl⟩
    exact ⟨_,rfl,S,qfT hS,⟨.dat _ _ _ _ ⟨none,0,[],rfl,Nat.le_refl _,rfl,fun h=>absurd rfl h⟩,fun s x e=>(by cases e),fun s p e=>(by cases e),fun l te e=>(by cases e)⟩⟩
   ·cases p0 with
    | none=>have:=hp0 rfl; subst this; simp at h0
    | some ad0 =>
     refine .inl ⟨hent _ _,(Any.bytes_Join_one Tryz.laysSlJ14 ad.block ad.off cap ad0 c0 x _ w hcell (hc ad0 rfl) h0 (by omega)).mono ?_⟩
     rintro e w' ⟨v,rfl,hf,hb⟩
     exact ⟨v,rfl,Go.Proofs.res_fresh hS hb hf⟩
  | y :: l,hcap,hch,hn,hl,hcl,hpc,hP =>
   rw [hadd]
   have hlens:=qEg 75 (x :: y :: l) hl
   have hmul:sep.length*((x :: y :: l).length - 1)≤1048576*65536:=Nat.mul_le_mul hsl (by omega)
   refine .inl ⟨hent _ _,(Any.bytes_Join_many Tryz.laysSlJ14 ad.block ad.off (x :: y :: l).length cap cs (x :: y :: l) _ sep w rfl (by simp) hP hcap ⟨B,cap2,rfl,hB,fun a e i z hi=>?_⟩ (by omega) (by omega)).mono ?_⟩
   ·have hil:=(List.getElem?_eq_some_iff.1 hi).1
    rw [hcB a e i hil]
    simp [List.getD,List.getElem?_map,hi]
   ·rintro e w' ⟨v,rfl,hf,hb⟩
    refine ⟨v,rfl,?_⟩
    rw [← qwT] at hf
    exact Go.Proofs.res_fresh hS hb hf
end Go.Av
