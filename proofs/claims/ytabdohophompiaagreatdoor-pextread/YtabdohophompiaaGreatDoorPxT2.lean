import Derived.Test.YtabdohophompiaaGreatDoorPxT
namespace Go.Av
set_option linter.unusedVariables false
set_option linter.unusedSimpArgs false
theorem qgX (k0:Int→Option AV) (s:List UInt8) (k:Int) (hl:s.length≤1048576):∀ (d i n m:Nat),i+d=s.length→d < n→m+d≤1048576 →
 qiY k0 n k (m:Nat) s (s.length:Nat) (i:Nat)=k0 ((m+(s.drop i).countP (fun c=>z100 c k):Nat):Int)
 | d,i,0,m,hi,hn,hm=>by omega
 | 0,i,n+1,m,hi,hn,hm=>by
  show qeG k0 (qiY k0 n) n _ _ _ _ _=_;unfold qeG;rw [dF (by omega),yd,yA (by omega)];rfl
 | d+1,i,n+1,m,hi,hn,hm=>by
  show qeG k0 (qiY k0 n) n _ _ _ _ _=_;unfold qeG;have hlt:i < s.length:=by omega
  have ih:=qgX k0 s k hl d (i+1) n m (by omega) (by omega) (by omega);have ih2:=qgX k0 s k hl d (i+1) n (m+1) (by omega) (by omega) (by omega);rw [qC (d:=(0:UInt8)) hlt,List.countP_cons];simp (disch:=omega) only [dT,yc,yi,tn,qm];cases z100 (s.getD i 0) k with
  | true=>rw [yc,ih2]; congr 2; simp; omega
  | false=>rw [yd,ih]; congr 2
theorem qBQ:∀ (s0:List UInt8) (kinds1:Int),(quT s0 kinds1=true)→∃ n,qwY n s0 kinds1=qyu (z64 s0 kinds1):=fun s k h=>⟨s.length+1,by
 have hl:=qp h;unfold qwY;have:=qgX (qgM (s.length+1)) s k hl s.length 0 (s.length+1) 0 (by omega) (by omega) (by omega);refine Eq.trans this ?_;rw [yE,yw];rfl⟩
theorem qBR:∀ (s0:List UInt8) (kinds1:Int),(qoK s0 kinds1=true)→∃ n,qAS n s0 kinds1=qtv (z36 s0 kinds1):=fun s k h=>⟨0,by
 unfold qAS;rw [show quT s k=true from h];show qtv (z64 s k==((s.length:Nat):Int))=_;unfold z64;rw [qkH];rfl⟩
end Go.Av
