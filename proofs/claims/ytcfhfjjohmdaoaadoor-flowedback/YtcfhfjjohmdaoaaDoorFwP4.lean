import Derived.Test.YtcfhfjjohmdaoaaDoorFwP3
namespace Go.Av
set_option linter.unusedSimpArgs false
set_option linter.unusedVariables false
theorem qve:∀ (a0:Int×((List UInt8)×Unit)) (b1:Int×((List UInt8)×Unit)),(qqK a0 b1=true)→∃ n,qvJ n a0 b1=qrh (z68 a0 b1):=fun a b h=>⟨0,by
 unfold qvJ z68;rw [show qha a.2.1 b.2.1=true from h];obtain ⟨a1,a2,u⟩:=a;obtain ⟨b1,b2,v⟩:=b;simp only
 by_cases h1:a1=b1
 ·subst h1;rw [beq_self_eq_true];unfold z15
  by_cases h2:a2=b2
  ·subst h2; rw [dT rfl,dT rfl]; rfl
  ·rw [dF h2,dF (fun e=>h2 (by injection e with e1 e2; injection e2))]; rfl
 ·rw [beq_eq_false_iff_ne.2 h1,dF (fun e=>h1 (by injection e))]; rfl⟩
theorem qmV (ret:Bool→Option AV) (k0:Option AV) (a b:List ParaT) (hab:a.length=b.length) (hl:a.length≤1048576) (hp:∀ p∈a,p.2.1.length≤1048576):∀ (d i n:Nat),i+d=a.length→d < n →
 qgw ret k0 n a b ((a.length:Nat):Int) ((i:Nat):Int)=bif decide (a.drop i=b.drop i) then k0 else ret false
 | d,i,0,_,hn=>absurd hn (by omega)
 | 0,i,n+1,he,_=>by
  have hstep:qgw ret k0 (n+1) a b ((a.length:Nat):Int) ((i:Nat):Int)=qez ret k0 (qgw ret k0 n) n a b ((a.length:Nat):Int) ((i:Nat):Int):=rfl;rw [hstep];unfold qez;rw [dF (by omega),List.drop_of_length_le (show a.length≤i by omega),List.drop_of_length_le (show b.length≤i by omega),dT rfl];rfl
 | d+1,i,n+1,he,hn=>by
  have h1:i < a.length:=by omega
  have h2:i < b.length:=by omega
  have hstep:qgw ret k0 (n+1) a b ((a.length:Nat):Int) ((i:Nat):Int)=qez ret k0 (qgw ret k0 n) n a b ((a.length:Nat):Int) ((i:Nat):Int):=rfl;rw [hstep];unfold qez;have hga:List.getD a i ((0:Int),(([]:List UInt8),()))=a[i]:=by simp [List.getD,h1]
  have hgb:List.getD b i ((0:Int),(([]:List UInt8),()))=b[i]:=by simp [List.getD,h2]
  have hda:a.drop i=a[i] :: a.drop (i+1):=List.drop_eq_getElem_cons h1;have hdb:b.drop i=b[i] :: b.drop (i+1):=List.drop_eq_getElem_cons h2;rw [tn,hga,hgb,hda,hdb,show qqK a[i] b[i]=true by unfold qqK lenOk; rw [dT (hp _ (List.getElem_mem h1))]];simp (disch:=omega) only [dT,yc,yi];rw [wr (by omega)];have:=qmV ret k0 a b hab hl hp d (i+1) n (by omega) (by omega);unfold z68
  by_cases h:a[i]=b[i]
  ·rw [dT h];have e:decide (a[i] :: a.drop (i+1)=b[i] :: b.drop (i+1))=decide (a.drop (i+1)=b.drop (i+1)):=by
    by_cases h3:a.drop (i+1)=b.drop (i+1)
    ·rw [dT h3,dT (by rw [h,h3])]
    ·rw [dF h3,dF (fun e=>h3 (by injection e))]
   rw [e];exact this
  ·rw [dF h,dF (fun e=>h (by injection e))];rfl
theorem qvf:∀ (a0:List (Int×((List UInt8)×Unit))) (b1:List (Int×((List UInt8)×Unit))),(qiu a0 b1=true)→∃ n,qtk n a0 b1=qhv (z35 a0 b1):=fun a b h=>⟨a.length+1,by
 unfold qiu at h;rw [yf,List.all_eq_true] at h;have hl:=qm h.1;unfold qtk z35
 by_cases hab:a.length=b.length
 ·have e:(((List.length a:Nat):Int) != ((List.length b:Nat):Int))=false:=by rw [hab]; simp
  rw [e];have:=qmV qhv (qgx (a.length+1)) a b hab hl (fun p hp=>qm (h.2 p hp)) a.length 0 (a.length+1) (by omega) (Nat.lt_succ_self _);rw [yw,yw] at this;refine Eq.trans this ?_;cases decide (a=b) <;> rfl
 ·have e:(((List.length a:Nat):Int) != ((List.length b:Nat):Int))=true:=by rw [bne_iff_ne]; omega
  rw [e,dF (fun e=>hab (by rw [e]))];rfl⟩
theorem qqT (k0:Int→Option AV) (s:List UInt8) (hl:s.length≤1048576):∀ (d i n:Nat),i+d=s.length→d < n→qgy k0 n s ((i:Nat):Int)=k0 ((i+depN (s.drop i):Nat):Int)
 | d,i,0,_,hn=>absurd hn (by omega)
 | 0,i,n+1,he,_=>by
  have hstep:qgy k0 (n+1) s ((i:Nat):Int)=qeA k0 (qgy k0 n) n s ((i:Nat):Int):=rfl;rw [hstep];unfold qeA;rw [dF (by omega),List.drop_of_length_le (by omega)];rfl
 | d+1,i,n+1,he,hn=>by
  have h1:i < s.length:=by omega
  have hstep:qgy k0 (n+1) s ((i:Nat):Int)=qeA k0 (qgy k0 n) n s ((i:Nat):Int):=rfl;rw [hstep];unfold qeA;have hg:List.getD s i (0:UInt8)=s[i]:=by simp [List.getD,h1]
  have hd:s.drop i=s[i] :: s.drop (i+1):=List.drop_eq_getElem_cons h1;rw [tn,hg,hd];simp (disch:=omega) only [dT,yc,yi];rw [wr (by omega)];have:=qqT k0 s hl d (i+1) n (by omega) (by omega);unfold depN at this ⊢;rw [List.takeWhile_cons];cases (s[i]==62) with
  | true =>
   rw [if_pos rfl,yg];refine Eq.trans this ?_;congr 2;omega
  | false=>rfl
theorem qvg:∀ (l0:List UInt8),(qki l0=true)→∃ n,qtl n l0=qtP (z43 l0):=fun s h=>⟨s.length+1,by
 unfold qtl;have:=qqT (qgz (s.length+1)) s (qm h) s.length 0 (s.length+1) (by omega) (Nat.lt_succ_self _);rw [yw,yE] at this;exact this⟩
theorem qvh:∀ (l0:List UInt8),(qhb l0=true)→∃ n,qvK n l0=qgA (z45 l0):=fun s h=>⟨0,by
 have hl:=qm h;have hd:=quR s;unfold qvK qcI qbR;rw [show qki s=true from h];have e:z43 s=((depN s:Nat):Int):=rfl;rw [e,tn,tn,List.take_length,dT (show (0:Int)≤((depN s:Nat):Int) by omega),dT (show ((depN s:Nat):Int)≤((s.length:Nat):Int) by omega),dT (Int.le_refl ((s.length:Nat):Int))];unfold z45 bareB;cases s.drop (depN s) with
 | nil=>rfl
 | cons c r =>
  have h1:decide ((0:Int) < ((List.length (c :: r):Nat):Int))=true:=dT (by simp);have h2:decide ((1:Int)≤((List.length (c :: r):Nat):Int))=true:=dT (by simp; omega);rw [h1,h2,dT (Int.le_refl ((List.length (c :: r):Nat):Int)),tn,List.take_length];show (bif c==32 then qgA r else qgA (c :: r))=qgA (bif c==32 then r else c :: r);cases (c==32) <;> rfl⟩
theorem qvi:∀ (l0:List UInt8),(qkj l0=true)→∃ n,qvL n l0=qkv (z47 l0):=fun s h=>⟨0,by
 have hl:=qm h;have hb:=qer s;unfold qvL qfz;rw [show qhb s=true from h,show z45 s=bareB s from rfl];unfold z47 flowB endSp;rcases List.eq_nil_or_concat (bareB s) with e | ⟨l,c,e⟩
 ·rw [e]; rfl
 ·rw [e,List.concat_eq_append];rw [e,List.concat_eq_append] at hb;simp only [yn,yg,List.length_nil] at hb ⊢;have e2:IntKind.wrap .i64 (((l.length+(0+1):Nat):Int) - (1:Int))=((l.length:Nat):Int):=by rw [wr (by omega)]; omega
  rw [e2,tn,qcN,List.getLast?_append];simp (disch:=omega) only [dT,yc,yi];show (bif c==32 then _ else _)=qkv ((some c==some 32)&&_);have e3:(some c==some (32:UInt8))=(c==32):=rfl;rw [e3];cases (c==32) <;> rfl⟩
theorem qkn (k0:List (Int×((List UInt8)×Unit))→Option AV) (ls:List (List UInt8)) (hs:sumL ls≤1048577):∀ (d i n:Nat) (r:qcX) (m:Nat),i+d=ls.length→d < n→TakeInv r m→m+sumL (ls.drop i)≤1048578 →
 qgB k0 n ls r.1 r.2.1 ((i:Nat):Int)=k0 ((ls.drop i).foldl z69 r).1
 | d,i,0,r,m,_,hn,_,_=>absurd hn (by omega)
 | 0,i,n+1,r,m,he,_,_,_=>by
  have hstep:qgB k0 (n+1) ls r.1 r.2.1 ((i:Nat):Int)=qeC k0 (qgB k0 n) n ls r.1 r.2.1 ((i:Nat):Int):=rfl;rw [hstep];unfold qeC qbI qaj qba qar qaZ qo;rw [dF (by omega),List.drop_of_length_le (by omega)];rfl
 | d+1,i,n+1,r,m,he,hn,hi,hm=>by
  have hlt:i < ls.length:=by omega
  have hstep:qgB k0 (n+1) ls r.1 r.2.1 ((i:Nat):Int)=qeC k0 (qgB k0 n) n ls r.1 r.2.1 ((i:Nat):Int):=rfl;rw [hstep];unfold qeC qbI qaj qba qar qaZ qo;have hd:ls.drop i=ls[i] :: ls.drop (i+1):=List.drop_eq_getElem_cons hlt;have hg:List.getD ls i []=ls[i]:=by simp [List.getD,hlt]
  rw [hd,qcA] at hm;have hx:=qgm (ls.drop (i+1));have hcnt:ls.length≤1048577:=yL (qgm ls) hs;have hm1:1≤m:=by have:=hi.len; omega
  have htake:=qls hi ls[i];rw [tn,hg,hd,List.foldl_cons];have hlen:ls[i].length≤1048576:=by omega
  have hlok:lenOk ls[i]=true:=by unfold lenOk; rw [dT hlen]
  have hbl:=qer ls[i];have hrec:=qkn k0 ls hs d (i+1) n (z69 r ls[i]) (m+(ls[i].length+1)) (by omega) (by omega) htake (by omega);have hwi:IntKind.wrap .i64 (((i:Nat):Int)+(1:Int))=((i+1:Nat):Int):=by rw [wr (by omega)]; omega
  rw [← hrec];obtain ⟨ps,op,u⟩:=r;obtain ⟨i1,i2,i3⟩:=hi;simp only at i1 i2 i3;have hroom:decide (List.length ps+List.length ([(z43 ls[i],(z45 ls[i],()))]:List (Int×((List UInt8)×Unit)))≤room)=true:=by
   rw [ym,List.length_singleton]; unfold room; omega
  rw [hwi];simp only [show qki ls[i]=true from hlok,show qhb ls[i]=true from hlok,show qkj ls[i]=true from hlok,yi,y4,yc,hroom];simp (disch:=omega) only [dT,yc,yi];unfold z69 takeP;cases op with
  | false=>rfl
  | true =>
   obtain ⟨l,p,rfl⟩:∃ l p,ps=l++[p]:=by
    rcases List.eq_nil_or_concat ps with e | ⟨l,p,e⟩
    ·exact absurd e (i3 rfl)
    ·exact ⟨l,p,by rw [e,List.concat_eq_append]⟩
   rw [yn,List.length_singleton] at i1;have hp:=i2 p (by simp);have e:IntKind.wrap .i64 (((List.length (l++[p]):Nat):Int) - (1:Int))=((l.length:Nat):Int):=by
    rw [yn,List.length_singleton,wr (by omega)]; omega
   have hi2:((decide ((0:Int)≤((l.length:Nat):Int)))&&(decide (((l.length:Nat):Int) < (List.length (l++[p]):Nat))))=true:=by
    rw [yn,List.length_singleton,dT (by omega),dT (by omega)]; rfl
   have hr1:decide (List.length ([]:List UInt8)+List.length p.2.1≤room)=true:=by rw [ym]; unfold room; simp; omega
   have hr2:decide (List.length p.2.1+List.length (z45 ls[i])≤room)=true:=by
    rw [ym]; unfold room
    have:(z45 ls[i]).length≤ls[i].length:=hbl;omega
   simp only [e,hi2,tn,qcN,qlw,List.nil_append,hr1,hr2,yi,yc,List.getLast?_append,List.getLast?_singleton,Option.some_or,yU,y5,y4,List.dropLast_concat];cases hc:(p.1==z43 ls[i]) with
   | false =>
    rw [show (p.1==z42 ls[i])=false from hc];rfl
   | true =>
    rw [show (p.1==z42 ls[i])=true from hc];have e2:p.1=z42 ls[i]:=eq_of_beq hc;rw [← e2];rfl
theorem qvj:∀ (s0:List UInt8),(qsX s0=true)→∃ n,qtn n s0=qtQ (z37 s0):=fun s h=>⟨(z70 s).length+1,by
 have hl:=qm h;have hsum:=qiv s.length s (yv _);unfold qtn;rw [show qsb s=true from h,show (z71 s).1=z70 s from rfl];have:=qkn (qgC ((z70 s).length+1)) (z70 s) (by omega) (z70 s).length 0 ((z70 s).length+1) ([],(false,())) 1 (by omega) (Nat.lt_succ_self _) ⟨yv _,fun p hp=>absurd hp (List.not_mem_nil),fun e=>by cases e⟩ (by rw [yw]; omega);rw [yw,qfx] at this;exact this⟩
end Go.Av
