import Derived.Test.YtcbimkaeoojceaaGreatDoorFiM
namespace Go.Av
def z16 (c:UInt8):UInt8:=z44 c
end Go.Av
