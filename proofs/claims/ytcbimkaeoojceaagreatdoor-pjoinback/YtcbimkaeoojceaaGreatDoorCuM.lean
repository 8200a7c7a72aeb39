import Derived.Test.YtcbimkaeoojceaaGreatDoorEfM
import Derived.KernelRfl
import Derived.Lib.TrailingZeros
namespace Go.Av
set_option linter.unusedSimpArgs false
set_option linter.unusedVariables false
def qtX (p:Int→Bool):Int:=bif p 1 then 1 else bif p 2 then 2 else bif p 3 then 3 else bif p 4 then 4 else bif p 5 then 5 else 0
def selF (p:Int→Bool):Int×Int:=bif qtX p==0 then (0,7) else (qtX p,0)
def qc (t:LI):Int×Int:=selF fun n=>t.all (qap n)
def z61 (cs:Int) (t:LI):Int:=qD (z83 cs) t 0
def qBO (_:Int) (t:LI):Bool:=lenOk t
def z38 (cs:Int) (t:LI):Bool:=(decide (1≤cs)&&decide (cs≤5))&&decide (z61 cs t < 0)
def qBP (_:Int) (t:LI):Bool:=lenOk t
def z24 (t:LI):Int×Int:=selF fun n=>z38 n t
def qtY (t:LI):Bool:=lenOk t
def z20 (s:LI):LI:=s
def qHU (s:LI):Bool:=lenOk s
end Go.Av
