import Derived.Test.YtmageajchmoomaaGreatDoorCbA
import Derived.KernelRfl
namespace Go.Av
set_option linter.unusedSimpArgs false
set_option linter.unusedVariables false
section
def bitsN:Nat→Int→LI
 | 0,_=>[]
 | m+1,h=>h / 2 ^ m % 2 :: bitsN m h
theorem qsW (m:Nat) (h:Int):(bitsN m h).length=m:=by
 induction m with
 | zero=>rfl
 | succ m ih=>simp[bitsN,ih]
theorem qsX:∀ (n k:Nat) (a b:LI),a.length=6*n→sixes (n+k) (a++b)=sixes n a++sixes k b
 | 0,k,a,b,h=>by
  have:a=[]:=List.length_eq_zero_iff.1 (by omega);subst this;simp[sixes]
 | n+1,k,a,b,h=>by
  rw[show n+1+k=(n+k)+1 by omega];simp only[sixes,List.cons_append];rw[List.take_append_of_le_length (by omega),List.drop_append_of_le_length (by omega),qsX n k (a.drop 6) b (by simp;omega)]
theorem qAL:∀ (n k:Nat) (a b:LI),a.length=8*n→octs (n+k) (a++b)=octs n a++octs k b
 | 0,k,a,b,h=>by
  have:a=[]:=List.length_eq_zero_iff.1 (by omega);subst this;simp[octs]
 | n+1,k,a,b,h=>by
  rw[show n+1+k=(n+k)+1 by omega];simp only[octs,List.cons_append];rw[List.take_append_of_le_length (by omega),List.drop_append_of_le_length (by omega),qAL n k (a.drop 8) b (by simp;omega)]
def encD (many:Nat) (held:Nat) (x:Nat):LU :=
 bif many==4 then [qgG ((held*256+x:Nat) / 64:Int),qgG ((held*256+x:Nat):Int)] else [qgG (((held*256+x) / 2 ^ (many+2):Nat):Int)]
def encM (many:Nat):Nat:=bif many==4 then 0 else many+2
def encH (many held x:Nat):Nat:=(held*256+x) % 2 ^ encM many
def encOk (many held x:Nat):Bool :=
 (bitsN many held++qnS (UInt8.ofNat x)).take (8+many - encM many)++bitsN (encM many) (encH many held x)==bitsN many held++qnS (UInt8.ofNat x)
  && (sixes ((8+many - encM many) / 6) ((bitsN many held++qnS (UInt8.ofNat x)).take (8+many - encM many))==encD many held x)
def qRy:Bool:=([0,2,4]:List Nat).all fun m=>(List.range (2 ^ m)).all fun h=>(List.range 256).all fun x=>encOk m h x
set_option maxRecDepth 100000 in
theorem qFZ:qRy=true:=by kernel_rfl
end
section
variable {s out:LU} {m h:Nat}
def decM (many:Nat):Nat:=bif many==0 then 6 else many - 2
def decH (many held n:Nat):Nat:=bif many==0 then n else (held*64+n) % 2 ^ (many - 2)
def decO (many held n:Nat):LU:=bif many==0 then [] else [UInt8.ofNat ((held*64+n) / 2 ^ (many - 2))]
def decOk (many held n:Nat):Bool :=
 (bitsN many held++qgX n).take (many+6 - decM many)++bitsN (decM many) (decH many held n)==bitsN many held++qgX n
  && (octs ((many+6 - decM many) / 8) ((bitsN many held++qgX n).take (many+6 - decM many))==decO many held n)
def qRz:Bool:=([0,2,4,6]:List Nat).all fun m=>(List.range (2 ^ m)).all fun h=>(List.range 64).all fun n=>decOk m h n
set_option maxRecDepth 100000 in
theorem qGa:qRz=true:=by kernel_rfl
theorem qcR {p:Nat→Bool} {n:Nat} (h:(List.range n).all p=true) (i:Nat) (hi:i < n):p i=true:=by
 rw[List.all_eq_true] at h;exact h i (List.mem_range.2 hi)
theorem qMS (m h:Nat) (x:UInt8) (hm:m=0∨m=2∨m=4) (hh:h < 2 ^ m):encOk m h x.toNat=true:=by
 have e:=qFZ;unfold qRy at e;rw[List.all_eq_true] at e;have e1:=e m (by rcases hm with rfl | rfl | rfl <;> simp);exact qcR (qcR e1 h hh) x.toNat x.toNat_lt
theorem qMT (m h n:Nat) (hm:m=0∨m=2∨m=4∨m=6) (hh:h < 2 ^ m) (hn:n < 64):decOk m h n=true:=by
 have e:=qGa;unfold qRz at e;rw[List.all_eq_true] at e;have e1:=e m (by rcases hm with rfl | rfl | rfl | rfl <;> simp);exact qcR (qcR e1 h hh) n hn
structure EncSt (s out:LU) (m h:Nat):Prop where
 cases:m=0∨m=2∨m=4
 lt:h < 2 ^ m
 bits:∃ a:LI,qfC s=a++bitsN m h∧a.length=6*(a.length / 6)∧out=sixes (a.length / 6) a
theorem EncSt.nil:EncSt [] [] 0 0:=⟨Or.inl rfl,by decide,[],rfl,rfl,rfl⟩
theorem qGb (s:LU) (x:UInt8):qfC (s++[x])=qfC s++qnS x:=by simp[qfC]
theorem EncSt.step (e:EncSt s out m h) (x:UInt8):EncSt (s++[x]) (out++encD m h x.toNat) (encM m) (encH m h x.toNat):=by
 obtain⟨hc,hl,a,hb,ha,ho⟩:=e;have k:=qMS m h x hc hl;simp only[encOk,yf,beq_iff_eq] at k;have k1:=k.1;have k2:=k.2;have hx:UInt8.ofNat x.toNat=x:=by simp
 rw[hx] at k1 k2;have lm:(8+m - encM m) % 6=0∧8+m - encM m≤8+m:=by rcases hc with rfl | rfl | rfl <;> decide
 have ll:((bitsN m h++qnS x).take (8+m - encM m)).length=8+m - encM m:=by
  rw[yz,yn,qsW];simp[qnS];omega
 refine⟨by rcases hc with rfl | rfl | rfl <;> decide,Nat.mod_lt _ (Nat.pow_pos (by decide)),a++(bitsN m h++qnS x).take (8+m - encM m),?_,?_,?_⟩
 ·rw[qGb,hb,yl,yl,k1]
 ·rw[yn,ll];omega
 ·rw[yn,ll,show (a.length+(8+m - encM m)) / 6=a.length / 6+(8+m - encM m) / 6 by omega,qsX _ _ _ _ ha,ho,k2]
structure DecSt (s out:LU) (m h:Nat):Prop where
 cases:m=0∨m=2∨m=4∨m=6
 lt:h < 2 ^ m
 bits:∃ a:LI,bitsB s=a++bitsN m h∧a.length=8*(a.length / 8)∧out=octs (a.length / 8) a
theorem DecSt.nil:DecSt [] [] 0 0:=⟨Or.inl rfl,by decide,[],rfl,rfl,rfl⟩
theorem qAM (s:LU) (x:UInt8):bitsB (s++[x])=bitsB s++qgX (qgH x).1:=by simp[bitsB]
theorem DecSt.step (e:DecSt s out m h) (x:UInt8) (n:Nat) (hv:(qgH x).1=(n:Int)) (hn:n < 64):DecSt (s++[x]) (out++decO m h n) (decM m) (decH m h n):=by
 obtain⟨hc,hl,a,hb,ha,ho⟩:=e;have k:=qMT m h n hc hl hn;simp only[decOk,yf,beq_iff_eq] at k;have k1:=k.1;have k2:=k.2;have lm:(m+6 - decM m) % 8=0∧m+6 - decM m≤m+6:=by rcases hc with rfl | rfl | rfl | rfl <;> decide
 have ll:((bitsN m h++qgX (n:Int)).take (m+6 - decM m)).length=m+6 - decM m:=by
  rw[yz,yn,qsW];simp only[qgX,yg,List.length_nil];omega
 refine⟨by rcases hc with rfl | rfl | rfl | rfl <;> decide,?_,a++(bitsN m h++qgX (n:Int)).take (m+6 - decM m),?_,?_,?_⟩
 ·unfold decH decM;rcases hc with rfl | rfl | rfl | rfl
  ·exact hn
  ·exact Nat.mod_lt _ (by decide)
  ·exact Nat.mod_lt _ (by decide)
  ·exact Nat.mod_lt _ (by decide)
 ·rw[qAM,hb,hv,yl,yl,k1]
 ·rw[yn,ll];omega
 ·rw[yn,ll,show (a.length+(m+6 - decM m)) / 8=a.length / 8+(m+6 - decM m) / 8 by omega,qAL _ _ _ _ ha,ho,k2]
end
section
set_option linter.unusedSimpArgs false
end
section
theorem qtp {P:UInt8→Prop} (h:∀ i:Fin 256,P (UInt8.ofNat i.val)) (c:UInt8):P c:=by
 have:=h ⟨c.toNat,c.toNat_lt⟩;simpa using this
end
section
set_option linter.unusedSimpArgs false
end
section
theorem qMU {x:UInt8} {r:LU} (h:(farN (x :: r)==0)=false):1≤farN (x :: r):=by
 have:=beq_eq_false_iff_ne.1 h;omega
theorem qMV (x:UInt8) (r:LU):1≤(z149 (x :: r)).2.1.toNat:=by
 show 1≤(bif farN (x :: r)==0 then ((0:Int),((1:Int),(3:Int))) else bif decide (farN (x :: r) < qk x)&&(farN (x :: r)==(x :: r).length) then (0,(farN (x :: r):Nat),4)
  else bif decide (farN (x :: r) < qk x) then (0,(farN (x :: r):Nat),3) else (signN (farN (x :: r)) (x :: r),(farN (x :: r):Nat),0)).2.1.toNat
 cases h:farN (x :: r)==0 with
 | true=>exact yv 1
 | false =>
  have:=qMU h;rw[yd];cases decide (farN (x :: r) < qk x)&&farN (x :: r)==(x :: r).length
  ·cases decide (farN (x :: r) < qk x) <;> exact this
  ·exact this
theorem qgW {α:Type} (p:α→Bool):∀ l:List α,(l.takeWhile p).length≤l.length
 | []=>yv _
 | x :: r=>by
  rw[List.takeWhile_cons];split
  ·simp only[yg];have:=qgW p r;omega
  ·simp
end
end Go.Av
