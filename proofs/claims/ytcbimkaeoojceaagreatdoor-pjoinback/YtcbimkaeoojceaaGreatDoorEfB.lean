import Derived.Test.YtcbimkaeoojceaaGreatDoorEfM
import Derived.KernelRfl
namespace Go.Av
set_option linter.unusedSimpArgs false
set_option linter.unusedVariables false
def bitsN:Nat→Int→LI
 | 0,_=>[]
 | m+1,h=>h / 2 ^ m % 2 :: bitsN m h
theorem qqN (m:Nat) (h:Int):(bitsN m h).length=m:=by
 induction m with
 | zero=>rfl
 | succ m ih=>simp [bitsN,ih]
theorem qqO:∀ (n k:Nat) (a b:LI),a.length=6*n→sixes (n+k) (a++b)=sixes n a++sixes k b
 | 0,k,a,b,h=>by
  have:a=[]:=List.length_eq_zero_iff.1 (by omega);subst this; simp [sixes]
 | n+1,k,a,b,h=>by
  rw [show n+1+k=(n+k)+1 by omega];simp only [sixes,List.cons_append];rw [List.take_append_of_le_length (by omega),List.drop_append_of_le_length (by omega),qqO n k (a.drop 6) b (by simp; omega)]
theorem qwO:∀ (n k:Nat) (a b:LI),a.length=8*n→octs (n+k) (a++b)=octs n a++octs k b
 | 0,k,a,b,h=>by
  have:a=[]:=List.length_eq_zero_iff.1 (by omega);subst this; simp [octs]
 | n+1,k,a,b,h=>by
  rw [show n+1+k=(n+k)+1 by omega];simp only [octs,List.cons_append];rw [List.take_append_of_le_length (by omega),List.drop_append_of_le_length (by omega),qwO n k (a.drop 8) b (by simp; omega)]
def encD (many:Nat) (held:Nat) (x:Nat):LU :=
 bif many==4 then [qfJ ((held*256+x:Nat) / 64:Int),qfJ ((held*256+x:Nat):Int)] else [qfJ (((held*256+x) / 2 ^ (many+2):Nat):Int)]
def encM (many:Nat):Nat:=bif many==4 then 0 else many+2
def encH (many held x:Nat):Nat:=(held*256+x) % 2 ^ encM many
def encOk (many held x:Nat):Bool :=
 (bitsN many held++qmN (UInt8.ofNat x)).take (8+many - encM many)++bitsN (encM many) (encH many held x)==bitsN many held++qmN (UInt8.ofNat x)
  && (sixes ((8+many - encM many) / 6) ((bitsN many held++qmN (UInt8.ofNat x)).take (8+many - encM many))==encD many held x)
def qMz:Bool:=([0,2,4]:List Nat).all fun m=>(List.range (2 ^ m)).all fun h=>(List.range 256).all fun x=>encOk m h x
set_option maxRecDepth 100000 in
theorem qBQ:qMz=true:=by kernel_rfl
end Go.Av
