import Derived.Test.YtcbimkaeoojceaaGreatDoorEfB
namespace Go.Av
set_option linter.unusedSimpArgs false
set_option linter.unusedVariables false
def decM (many:Nat):Nat:=bif many==0 then 6 else many - 2
def decH (many held n:Nat):Nat:=bif many==0 then n else (held*64+n) % 2 ^ (many - 2)
def decO (many held n:Nat):LU:=bif many==0 then [] else [UInt8.ofNat ((held*64+n) / 2 ^ (many - 2))]
def decOk (many held n:Nat):Bool :=
 (bitsN many held++qgA n).take (many+6 - decM many)++bitsN (decM many) (decH many held n)==bitsN many held++qgA n
  && (octs ((many+6 - decM many) / 8) ((bitsN many held++qgA n).take (many+6 - decM many))==decO many held n)
def qMA:Bool:=([0,2,4,6]:List Nat).all fun m=>(List.range (2 ^ m)).all fun h=>(List.range 64).all fun n=>decOk m h n
set_option maxRecDepth 100000 in
theorem qBR:qMA=true:=by kernel_rfl
theorem qcD {p:Nat→Bool} {n:Nat} (h:(List.range n).all p=true) (i:Nat) (hi:i < n):p i=true:=by
 rw [List.all_eq_true] at h;exact h i (List.mem_range.2 hi)
theorem qHV (m h:Nat) (x:UInt8) (hm:m=0∨m=2∨m=4) (hh:h < 2 ^ m):encOk m h x.toNat=true:=by
 have e:=qBQ;unfold qMz at e;rw [List.all_eq_true] at e;have e1:=e m (by rcases hm with rfl | rfl | rfl <;> simp);exact qcD (qcD e1 h hh) x.toNat x.toNat_lt
theorem qHW (m h n:Nat) (hm:m=0∨m=2∨m=4∨m=6) (hh:h < 2 ^ m) (hn:n < 64):decOk m h n=true:=by
 have e:=qBR;unfold qMA at e;rw [List.all_eq_true] at e;have e1:=e m (by rcases hm with rfl | rfl | rfl | rfl <;> simp);exact qcD (qcD e1 h hh) n hn
structure EncSt (s out:LU) (m h:Nat):Prop where
 cases:m=0∨m=2∨m=4
 lt:h < 2 ^ m
 bits:∃ a:LI,qeR s=a++bitsN m h∧a.length=6*(a.length / 6)∧out=sixes (a.length / 6) a
theorem EncSt.nil:EncSt [] [] 0 0:=⟨Or.inl rfl,by decide,[],rfl,rfl,rfl⟩
theorem qBS (s:LU) (x:UInt8):qeR (s++[x])=qeR s++qmN x:=by simp [qeR]
theorem EncSt.step {s out:LU} {m h:Nat} (e:EncSt s out m h) (x:UInt8):EncSt (s++[x]) (out++encD m h x.toNat) (encM m) (encH m h x.toNat):=by
 obtain ⟨hc,hl,a,hb,ha,ho⟩:=e;have k:=qHV m h x hc hl;simp only [encOk,yf,beq_iff_eq] at k;have k1:=k.1;have k2:=k.2;have hx:UInt8.ofNat x.toNat=x:=by simp
 rw [hx] at k1 k2;have lm:(8+m - encM m) % 6=0∧8+m - encM m≤8+m:=by rcases hc with rfl | rfl | rfl <;> decide
 have ll:((bitsN m h++qmN x).take (8+m - encM m)).length=8+m - encM m:=by
  rw [yz,yn,qqN]; simp [qmN]; omega
 refine ⟨by rcases hc with rfl | rfl | rfl <;> decide,Nat.mod_lt _ (Nat.pow_pos (by decide)),a++(bitsN m h++qmN x).take (8+m - encM m),?_,?_,?_⟩
 ·rw [qBS,hb,yl,yl,k1]
 ·rw [yn,ll]; omega
 ·rw [yn,ll,show (a.length+(8+m - encM m)) / 6=a.length / 6+(8+m - encM m) / 6 by omega,qqO _ _ _ _ ha,ho,k2]
structure DecSt (s out:LU) (m h:Nat):Prop where
 cases:m=0∨m=2∨m=4∨m=6
 lt:h < 2 ^ m
 bits:∃ a:LI,bitsB s=a++bitsN m h∧a.length=8*(a.length / 8)∧out=octs (a.length / 8) a
theorem DecSt.nil:DecSt [] [] 0 0:=⟨Or.inl rfl,by decide,[],rfl,rfl,rfl⟩
theorem qwP (s:LU) (x:UInt8):bitsB (s++[x])=bitsB s++qgA (qfK x).1:=by simp [bitsB]
theorem DecSt.step {s out:LU} {m h:Nat} (e:DecSt s out m h) (x:UInt8) (n:Nat) (hv:(qfK x).1=(n:Int)) (hn:n < 64):DecSt (s++[x]) (out++decO m h n) (decM m) (decH m h n):=by
 obtain ⟨hc,hl,a,hb,ha,ho⟩:=e;have k:=qHW m h n hc hl hn;simp only [decOk,yf,beq_iff_eq] at k;have k1:=k.1;have k2:=k.2;have lm:(m+6 - decM m) % 8=0∧m+6 - decM m≤m+6:=by rcases hc with rfl | rfl | rfl | rfl <;> decide
 have ll:((bitsN m h++qgA (n:Int)).take (m+6 - decM m)).length=m+6 - decM m:=by
  rw [yz,yn,qqN]; simp only [qgA,yg,List.length_nil]; omega
 refine ⟨by rcases hc with rfl | rfl | rfl | rfl <;> decide,?_,a++(bitsN m h++qgA (n:Int)).take (m+6 - decM m),?_,?_,?_⟩
 ·unfold decH decM;rcases hc with rfl | rfl | rfl | rfl
  ·exact hn
  ·exact Nat.mod_lt _ (by decide)
  ·exact Nat.mod_lt _ (by decide)
  ·exact Nat.mod_lt _ (by decide)
 ·rw [qwP,hb,hv,yl,yl,k1]
 ·rw [yn,ll]; omega
 ·rw [yn,ll,show (a.length+(m+6 - decM m)) / 8=a.length / 8+(m+6 - decM m) / 8 by omega,qwO _ _ _ _ ha,ho,k2]
end Go.Av
