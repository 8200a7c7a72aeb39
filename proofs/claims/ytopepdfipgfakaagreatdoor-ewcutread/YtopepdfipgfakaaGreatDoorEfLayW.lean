import Derived.Test.YtopepdfipgfakaaGreatDoorEfRep
namespace Go.Proofs
set_option linter.unusedVariables false
set_option linter.unusedSimpArgs false
open Go.Shelf Go.RowKit Go.Lib Go.Av
set_option maxHeartbeats 4000000 in
theorem qDH (n:Nat) (h:n≤1048576) (w:World):Calls Tryz.prog 87 #[.int .i64 (n:Int)] w fun e w'=>e=.returned (.int .i64 ((if n=0 then 0 else (n - 1) / 3*4+4:Nat):Int))∧w'=w:=by
 by_cases h0:n=0
 ·subst h0
  go_enter Tryz.func87,Tryz.ntmps87
  go_wp2
  go_ret
  exact ⟨rfl,rfl⟩
 ·rw [if_neg h0]
  have h1:¬ (n:Int) < 1:=by omega
  go_enter Tryz.func87,Tryz.ntmps87
  go_wp2
  go_ret
  refine ⟨?_,rfl⟩
  show Ending.returned (.int .i64 (((n:Int) - 1) / 3*4+4))=_
  congr 2
  omega
theorem qzf (a:Addr) (cap:Nat) (x:UInt8) (c:Nat) (w:World) (hx:w.cell? a=some (.int .u8 (x.toNat:Int))) (hc2:c≤140737488355328) :
 Calls Tryz.prog 86 #[.slice (some a) 1 cap,.int .i64 (c:Int)] w fun e w'=>∃ v',e=.returned v'∧Lib.FreshBytes w.heap.size w' v' (List.replicate c x)∧Below w.heap.size w w':=by
 by_cases h0:c=0
 ·subst h0
  refine (qty _ w).mono ?_
  rintro e w' ⟨rfl,rfl⟩
  refine ⟨_,rfl,⟨w.heap.size,0,[],rfl,Nat.le_refl _,Nat.le_refl _,Nat.zero_le _,rfl,(fun x hx=>by cases hx),rfl,(fun i hi=>absurd hi (Nat.not_lt_zero _)),(fun i hi=>absurd hi (Nat.not_lt_zero _))⟩,(Below.refl _ w).alloc (Nat.le_refl _) _⟩
 ·exact qtz a cap x c w hx (by omega) hc2
theorem qzg {w w1:World} {B:Nat} {v:Value} {l m:List UInt8} {A:Option Addr} {cap:Nat} (hw:w.heap.size≤B) (hf:Lib.FreshBytes B w1 v l) (hA:A=none→m=[]) (hs:∀ ad,A=some ad→∀ (i:Nat) x,m[i]? = some x→w1.cell? (ad.add i)=some (.int .u8 (x.toNat:Int))) (hb:Below w.heap.size w w1) :
 ∃ n w2,(Builtin.copy_ #[22,22] 3 #[v,.slice A m.length cap]).run Tryz.prog w1=.ok (.int .i64 n) w2∧Lib.FreshBytes B w2 v (copyD l m)∧Below w.heap.size w w2:=by
 obtain ⟨g,cap',zs,rfl,h1,h2,h3,h4,h5,h6,h7,h8⟩:=hf
 have hs5:(Tryz.prog.info? 5).map (·.size)=some 1:=by kernel_rfl
 have hl:(copyD l m).length=l.length:=qzt l m
 by_cases hz:min m.length l.length=0
 ·refine ⟨0,w1,run_copy_none (P:=Tryz.prog) w1 22 22 3 5 (some ⟨g,0,none⟩) A l.length cap' m.length cap Tryz.underlying22 hs5 hz,?_,hb⟩
  have e:copyD l m=l:=by
   apply List.ext_getElem?
   intro n
   rw [qEM,if_neg (by omega)]
  rw [e]
  exact ⟨g,cap',zs,rfl,h1,h2,h3,h4,h5,h6,h7,h8⟩
 ·obtain ⟨ad,rfl⟩:∃ ad,A=some ad:=by
   cases A with
   | none=>rw [hA rfl] at hz; simp at hz
   | some ad=>exact ⟨ad,rfl⟩
  obtain ⟨k,hk⟩:∃ k,min m.length l.length=k:=⟨_,rfl⟩
  have hkm:k≤m.length:=by omega
  have hkl:k≤l.length:=by omega
  let cs:List Value:=(m.take k).map fun x=>Value.int .u8 (x.toNat:Int)
  have hcs:cs.length=k:=by simp only [cs]; rw [List.length_map,List.length_take]; omega
  have hcj:∀ j u,cs[j]? = some u→j < k∧∃ x,m[j]? = some x∧u=.int .u8 (x.toNat:Int):=fun j u hj=>by
   have hjl:=(List.getElem?_eq_some_iff.1 hj).1
   rw [hcs] at hjl
   simp only [cs] at hj
   rw [List.getElem?_map,List.getElem?_take_of_lt hjl] at hj
   obtain ⟨x,hx,rfl⟩:=Option.map_eq_some_iff.1 hj
   exact ⟨hjl,x,hx,rfl⟩
  have hr:=run_copy_cells (P:=Tryz.prog) w1 22 22 3 5 g 0 l.length cap' ad m.length cap cs Tryz.underlying22 hs5 (by rw [hcs,← hk])
   (fun j u hj=>by
    obtain ⟨_,x,hx,rfl⟩:=hcj j u hj
    exact hs ad rfl j x hx)
   (fun j hj=>by rw [hcs] at hj; rw [Nat.zero_add,h7 j (by omega)]; try rfl) (fun j hj=>by rw [hcs] at hj; rw [Nat.zero_add]; exact h8 j (by omega))
   (fun u hu=>by obtain ⟨x,_,rfl⟩:=List.mem_map.1 hu; rfl)
  have hin:=World.cell?_setCells_in g cs 0 w1 (fun j hj=>by rw [hcs] at hj; rw [Nat.zero_add,h7 j (by omega)]; try rfl)
  have hout:=World.cell?_setCells_out g cs 0 w1
  let ys:List Int:=(m.take k).map (fun x=>(x.toNat:Int))++zs.drop k
  have hyl:ys.length=cap':=by simp only [ys]; rw [List.length_append,List.length_map,List.length_take,List.length_drop,h4]; omega
  have hyi:∀ i,i < k→∃ x,m[i]? = some x∧ys.getD i 0=(x.toNat:Int):=fun i hi=>by
   have hx:m[i]? = some (m[i]'(by omega)):=List.getElem?_eq_getElem (by omega)
   refine ⟨_,hx,?_⟩
   simp only [ys]
   rw [List.getD_eq_getElem?_getD,List.getElem?_append_left (by rw [List.length_map,List.length_take]; omega),List.getElem?_map,List.getElem?_take_of_lt hi,hx]
   first | done | rfl
  have hyo:∀ i,k≤i→ys.getD i 0=zs.getD i 0:=fun i hi=>by
   simp only [ys]
   rw [List.getD_eq_getElem?_getD,List.getElem?_append_right (by rw [List.length_map,List.length_take]; omega),List.getElem?_drop,List.length_map,List.length_take,List.getD_eq_getElem?_getD,show k+(i - min k m.length)=i by omega]
  refine ⟨(cs.length:Int),w1.setCells g 0 cs,hr,?_,Lib.below_setCells g (by omega) _ _ hb⟩
  refine ⟨g,cap',ys,by rw [hl],h1,by rw [hl]; exact h2,h3,hyl,?_,?_,?_,?_⟩
  ·intro x hx
   rcases List.mem_append.1 hx with hx | hx
   ·obtain ⟨y,_,rfl⟩:=List.mem_map.1 hx
    have:=y.toNat_lt
    omega
   ·exact h5 x (List.mem_of_mem_drop hx)
  ·rw [hl]
   have e:ys.take l.length=(m.take k).map (fun x=>(x.toNat:Int))++(zs.take l.length).drop k:=by
    simp only [ys]
    rw [List.take_append,List.length_map,List.length_take,show min k m.length=k by omega,List.take_of_length_le (by rw [List.length_map,List.length_take]; omega),List.drop_take]
   rw [e]
   unfold Lib.bytesOf at h6 ⊢
   rw [List.map_append,List.map_drop,h6]
   have e1:(m.take k).map (fun x=>(x.toNat:Int))=(m.take k).map (fun x=>(x.toNat:Int)):=rfl
   have e2:=qzi (m.take k)
   unfold Lib.bytesOf at e2
   rw [e2]
   unfold copyD
   rcases Nat.le_total m.length l.length with h | h
   ·rw [show k=m.length by omega,List.take_of_length_le (Nat.le_refl _),List.take_of_length_le h]
   ·rw [show k=l.length by omega,List.drop_of_length_le (Nat.le_refl _),List.drop_of_length_le h]
  ·intro i hi
   by_cases hik:i < k
   ·obtain ⟨x,hx,e⟩:=hyi i hik
    have:=hin i (by rw [hcs]; exact hik)
    rw [Nat.zero_add] at this
    rw [this,e]
    have hx':(m.take k)[i]? = some x:=by rw [List.getElem?_take_of_lt hik]; exact hx
    have h:=(List.getElem?_eq_some_iff.1 hx').2
    simp only [cs,List.getElem_map,h]
   ·rw [hout ⟨g,i,none⟩ (fun _ _=>by rw [hcs]; show i < 0∨0+k≤i; omega),hyo i (by omega)]
    exact h7 i hi
  ·intro i hi
   rw [World.frozen?_setCells]
   exact h8 i hi
theorem res_fresh {w w':World} {S:qa} (hS:∀ b o,S b o→b < w.heap.size) {p:List UInt8} {v:Value} (hB:Below w.heap.size w w') (hf:Lib.FreshBytes w.heap.size w' v p) :
 ∃ S',Grew w S w' S'∧ResRd (· < w.heap.size) w' S' v (.dat (.sl .byte) p none):=by
 obtain ⟨g,cap,zs,rfl,h1,h2,h3,h4,h5,h6,h7,h8⟩:=hf
 let S':qa:=fun b o=>S b o∨(b=g∧o < p.length)
 have hlt:p.length≠0→g < w'.heap.size:=fun hne=>World.block_lt_of_cell? w' ⟨g,0,none⟩ (h7 0 (by omega))
 have hz:∀ i x,p[i]? = some x→w'.cell? ⟨g,i,none⟩=some (.int .u8 (x.toNat:Int)):=fun i x hi=>by
  have hil:=(List.getElem?_eq_some_iff.1 hi).1
  have hzi:zs[i]? = some (zs[i]'(by omega)):=List.getElem?_eq_getElem (by omega)
  have hr:=h5 _ (List.getElem_mem (h:=(by omega:i < zs.length)))
  rw [h7 i (by omega),List.getD_eq_getElem?_getD,hzi]
  have e:p[i]? = (Lib.bytesOf (zs.take p.length))[i]? := by rw [h6]
  unfold Lib.bytesOf at e
  rw [List.getElem?_map,List.getElem?_take_of_lt hil,hzi,hi] at e
  simp only [Option.map_some,Option.some.injEq] at e
  subst e
  simp only [Option.getD_some]
  congr 2
  have:(UInt8.ofNat (zs[i]'(by omega)).toNat).toNat=(zs[i]'(by omega)).toNat % 256:=rfl
  rw [this]
  omega
 have hch:∀ l:List UInt8,qd (RdC w' S' .byte) l (l.map fun c=>Value.int .u8 (c.toNat:Nat)):=fun l=>by
  induction l with
  | nil=>rfl
  | cons c l ih=>exact ⟨[_],_,rfl,rfl,ih⟩
 refine ⟨S',⟨hB,fun b o hb=>⟨fun hh=>hh.elim id (fun hh=>by have:=hh.1; omega),.inl⟩,fun b o hh=>hh.elim (fun hh=>Nat.lt_of_lt_of_le (hS b o hh) hB.size) (fun hh=>by rw [hh.1]; exact hlt (by have:=hh.2; omega))⟩,?_⟩
 refine ⟨.dat _ _ _ _ ⟨some ⟨g,0,none⟩,cap,_,rfl,h2,hch p,fun _=>⟨⟨g,0,none⟩,rfl,rfl,fun i u hu=>?_⟩⟩,fun s x e=>(by cases e),fun s q e=>(by cases e),fun l te' e=>(by cases e)⟩
 rw [List.getElem?_map] at hu
 obtain ⟨x,hx,rfl⟩:=Option.map_eq_some_iff.1 hu
 have hil:=(List.getElem?_eq_some_iff.1 hx).1
 refine ⟨.inr ⟨rfl,by show 0+i < p.length; omega⟩,?_⟩
 show w'.cell? ⟨g,0+i,none⟩=_
 rw [Nat.zero_add]
 exact hz i x hx
end Go.Proofs
