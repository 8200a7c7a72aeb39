import Derived.Test.YtopepdfipgfakaaGreatDoorEfQ
namespace Go.Av
set_option linter.unusedVariables false
set_option linter.unusedSimpArgs false
theorem qhN (c:UInt8):∀ (a cur r:List UInt8),a.all (fun x=>x != c)=true→cutC c cur (a++c :: r)=(cur++a) :: cutC c [] r
 | [],cur,r,_=>by
  rw [List.nil_append,List.append_nil]
  show (bif c==c then cur :: cutC c [] r else _)=_
  rw [beq_self_eq_true,cond_true]
 | x :: a,cur,r,h=>by
  rw [List.all_cons,Bool.and_eq_true,bne_iff_ne] at h
  show (bif x==c then cur :: cutC c [] (a++c :: r) else cutC c (cur++[x]) (a++c :: r))=_
  rw [beq_eq_false_iff_ne.2 h.1,cond_false,qhN c a _ r h.2,List.append_assoc]; rfl
theorem qzn (c:UInt8):∀ (a cur:List UInt8),a.all (fun x=>x != c)=true→cutC c cur a=[cur++a]
 | [],cur,_=>by rw [List.append_nil]; rfl
 | x :: a,cur,h=>by
  rw [List.all_cons,Bool.and_eq_true,bne_iff_ne] at h
  show (bif x==c then cur :: cutC c [] a else cutC c (cur++[x]) a)=_
  rw [beq_eq_false_iff_ne.2 h.1,cond_false,qzn c a _ h.2,List.append_assoc]; rfl
theorem qHO {cs:Int} (h:z44 cs=true):cs=1∨cs=2∨cs=3∨cs=4∨cs=5:=by
 simp only [z44,Bool.and_eq_true,decide_eq_true_eq] at h; omega
theorem qoS {code:Int} (h:(z45 code==[])=false):code=1∨code=2:=by
 unfold z45 at h
 cases h1:code==1 with
 | true=>exact Or.inl (beq_iff_eq.1 h1)
 | false =>
  cases h2:code==2 with
  | true=>exact Or.inr (beq_iff_eq.1 h2)
  | false=>rw [h1,h2] at h; exact absurd h (by decide)
theorem qmv {cs:Int} (h:z44 cs=true):(z89 cs).all (fun x=>x != 63)=true∧fullB (z89 cs) 64=true∧z58 (z89 cs)=(cs,0):=by
 rcases qHO h with rfl | rfl | rfl | rfl | rfl <;> exact ⟨by kernel_rfl,by kernel_rfl,by kernel_rfl⟩
theorem qzo {code:Int} (h:code=1∨code=2):(z45 code).all (fun x=>x != 63)=true∧codeL (z45 code)=code:=by
 rcases h with rfl | rfl <;> exact ⟨by kernel_rfl,by kernel_rfl⟩
def qfA (code:Int) (s:List UInt8):List UInt8:=bif code==1 then z47 s else z46 s
theorem qzp (code:Int) (s:List UInt8):(qfA code s).all (fun c=>z129 c 4&&c != 63)=true:=by
 unfold qfA
 cases code==1
 ·exact qoQ s
 ·exact qMF s
theorem qMH (code:Int) (s:List UInt8) (h:s.isEmpty=false):(qfA code s).isEmpty=false:=by
 unfold qfA
 cases code==1
 ·exact qHN s h
 ·exact qMG s h
theorem qDT {cs code:Int} {s w:List UInt8} (h:z15 cs code s=(w,0)):z11 w=((z89 cs,(code,(qfA code s,()))),0)∧z44 cs=true∧(code=1∨code=2)∧w.length≤75:=by
 unfold z15 at h
 cases hc:z44 cs with
 | false=>rw [hc] at h; exact absurd (congrArg Prod.snd h) (by show ¬ ((10:Int)=0); decide)
 | true =>
 cases he:(z45 code==[])||s.isEmpty with
 | true=>rw [hc,he] at h; exact absurd (congrArg Prod.snd h) (by show ¬ ((3:Int)=0); decide)
 | false =>
 rw [Bool.or_eq_false_iff] at he
 rw [hc,he.1,he.2] at h
 simp only [Bool.not_true,cond_false,Bool.or_self] at h
 have hcode:=qoS he.1
 by_cases hl:75 < (z48 cs code++(bif code==1 then z47 s else z46 s)++[63,61]).length
 ·rw [decide_eq_true hl,cond_true] at h
  exact absurd (congrArg Prod.snd h) (by show ¬ ((12:Int)=0); decide)
 ·rw [decide_eq_false hl,cond_false] at h
  have hw:w=z48 cs code++qfA code s++[63,61]:=(congrArg Prod.fst h).symm
  obtain ⟨n1,n2,n3⟩:=qmv hc
  obtain ⟨c1,c2⟩:=qzo hcode
  have tp:=qzp code s
  have t1:(qfA code s).all (fun x=>x != 63)=true:=List.all_eq_true.2 fun x hx=>by
   have:=(List.all_eq_true.1 tp) x hx
   rw [Bool.and_eq_true] at this; exact this.2
  have t2:fullB (qfA code s) 4=true:=by
   unfold fullB
   rw [qMH code s he.2,Bool.not_false,Bool.true_and]
   exact List.all_eq_true.2 fun x hx=>by
    have:=(List.all_eq_true.1 tp) x hx
    rw [Bool.and_eq_true] at this; exact this.1
  have hs:w=[61]++63 :: (z89 cs++63 :: (z45 code++63 :: (qfA code s++63 :: [61]))):=by
   rw [hw]; unfold z48; simp
  have hparts:cutC 63 [] w=[[61],z89 cs,z45 code,qfA code s,[61]]:=by
   rw [hs,qhN 63 _ _ _ (by decide),qhN 63 _ _ _ n1,qhN 63 _ _ _ c1,qhN 63 _ _ _ t1,qzn 63 _ _ (by decide)]
   simp
  have h75:w.length≤75:=by
   have:¬ 75 < w.length:=by rw [hw]; exact hl
   omega
  refine ⟨?_,rfl,hcode,h75⟩
  unfold z11
  rw [hparts]
  have hne:(code==0)=false:=by rcases hcode with rfl | rfl <;> rfl
  show (bif decide (([61]:List UInt8)=[61])&&decide (([61]:List UInt8)=[61]) then
   bif (codeL (z45 code)==0)||(!(fullB (z89 cs) 64) || !(fullB (qfA code s) 4)) then (qhO,3)
   else bif decide (75 < w.length) then (qhO,12) else ((z89 cs,(codeL (z45 code),(qfA code s,()))),0)
  else (qhO,3):WordT×Int)=_
  rw [c2,n2,t2,hne,decide_eq_false (show ¬ 75 < w.length by omega),decide_eq_true (rfl:([61]:List UInt8)=[61])]; rfl
theorem qzq {cs code:Int} {s w:List UInt8} (h:z15 cs code s=(w,0)):z24 w=true∧z22 w=cs∧z19 w=(z52 cs s,true):=by
 obtain ⟨hp,hc,hcode,_⟩:=qDT h
 have n3:=(qmv hc).2.2
 have hcs:csOf (z11 w).1=cs:=by
  unfold csOf; rw [hp,n3]; rfl
 have hoct:octOf (z11 w).1=s:=by
  unfold octOf; rw [hp]
  rcases hcode with rfl | rfl
  ·exact qtr s
  ·show (qwS 0 (z50 s)).1=s
   rw [qzm]
 refine ⟨?_,?_,?_⟩
 ·unfold z24
  rw [hp]
  simp only [n3,beq_self_eq_true,Bool.true_and]
  rcases hcode with rfl | rfl
  ·show ((z108 (z47 s)).2==0)=true
   rw [qzc]; rfl
  ·show (z60 (z50 s)==0)=true
   unfold z60
   have tp:=qoQ s
   have e1:((z50 s).all fun c=>z129 c 4)=true:=List.all_eq_true.2 fun x hx=>by
    have:=(List.all_eq_true.1 tp) x hx
    rw [Bool.and_eq_true] at this; exact this.1
   have e2:(z50 s).contains 63=false:=by
    cases hcn:(z50 s).contains 63 with
    | false=>rfl
    | true =>
     have hm:(63:UInt8)∈z50 s:=by simpa using hcn
     have:=(List.all_eq_true.1 tp) 63 hm
     rw [Bool.and_eq_true] at this
     exact absurd this.2 (by decide)
   rw [e1,e2,qzm]; rfl
 ·unfold z22
  rw [hcs,hp]; rfl
 ·unfold z19
  rw [hcs,hoct,hp]; rfl
end Go.Av
