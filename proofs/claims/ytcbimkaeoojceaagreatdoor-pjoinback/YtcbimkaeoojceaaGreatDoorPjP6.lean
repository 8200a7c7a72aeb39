import Derived.Test.YtcbimkaeoojceaaGreatDoorPjP5
import Derived.Test.YtcbimkaeoojceaaGreatDoorPjQ
namespace Go.Av
set_option linter.unusedSimpArgs false
set_option linter.unusedVariables false
def wf (f:qi→Bool) (l:List qi):Nat:=valL (l.filter f)
def sameW (l:List qi) (name:LU):Nat:=wf (fun p=>z19 p.1 name) l
theorem qsE (s:LU):z28 (z28 s)=z28 s:=by
 have h:∀ i:Fin 256,z44 (z44 (UInt8.ofNat i.val))=z44 (UInt8.ofNat i.val):=by decide +kernel
 unfold z28;rw [List.map_map];exact List.map_congr_left fun c _=>qlU (P:=fun c=>z44 (z44 c)=z44 c) h c
structure PairG (l:List qi) (p:PairT):Prop where
 fold:z28 p.1=p.1
 len:p.1.length≤1000
 text:p.2.1.length≤sameW l p.1
 right:p.2.1.all z21=true
def txtL (P:List PairT):Nat:=(P.map fun p=>p.2.1.length).sum
structure OnceG (s:LU) (P:List PairT):Prop where
 each:∀ p∈P,z28 p.1=p.1∧(p.1.length≤1000∧(p.2.1.length≤400∧p.2.1.all z21=true))
 names:(P.map (·.1)).Nodup
 total:txtL P≤s.length
 count:P.length≤1000
end Go.Av
