import Derived.Test.YtabdohophompiaaDoorPxT
namespace Go.Av
set_option linter.unusedVariables false
set_option linter.unusedSimpArgs false
theorem qfo (k0:Int→Option AV) (s:List UInt8) (k:Int) (hl:s.length≤1048576):∀ (d i n m:Nat),i+d=s.length→d < n→m+d≤1048576 →
 qgN k0 n k (m:Nat) s (s.length:Nat) (i:Nat)=k0 ((m+(s.drop i).countP (fun c=>z62 c k):Nat):Int)
 | d,i,0,m,hi,hn,hm=>by omega
 | 0,i,n+1,m,hi,hn,hm=>by
  show qdj k0 (qgN k0 n) n _ _ _ _ _=_;unfold qdj;rw [dF (by omega),yd,yz (by omega)];rfl
 | d+1,i,n+1,m,hi,hn,hm=>by
  show qdj k0 (qgN k0 n) n _ _ _ _ _=_;unfold qdj;have hlt:i < s.length:=by omega
  have ih:=qfo k0 s k hl d (i+1) n m (by omega) (by omega) (by omega);have ih2:=qfo k0 s k hl d (i+1) n (m+1) (by omega) (by omega) (by omega);rw [qat (d:=(0:UInt8)) hlt,List.countP_cons];simp (disch:=omega) only [dT,yc,yi,tn,qE];cases z62 (s.getD i 0) k with
  | true=>rw [yc,ih2]; congr 2; simp; omega
  | false=>rw [yd,ih]; congr 2
theorem qvI:∀ (s0:List UInt8) (kinds1:Int),(qpG s0 kinds1=true)→∃ n,qro n s0 kinds1=qrW (z48 s0 kinds1):=fun s k h=>⟨s.length+1,by
 have hl:=qJ h;unfold qro;have:=qfo (qff (s.length+1)) s k hl s.length 0 (s.length+1) 0 (by omega) (by omega) (by omega);refine Eq.trans this ?_;rw [yC,yw];rfl⟩
theorem qvJ:∀ (s0:List UInt8) (kinds1:Int),(qlf s0 kinds1=true)→∃ n,que n s0 kinds1=qod (z29 s0 kinds1):=fun s k h=>⟨0,by
 unfold que;rw [show qpG s k=true from h];show qod (z48 s k==((s.length:Nat):Int))=_;unfold z48;rw [qov];rfl⟩
end Go.Av
