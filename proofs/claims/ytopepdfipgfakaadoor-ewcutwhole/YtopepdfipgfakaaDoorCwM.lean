import Derived.Test.YtopepdfipgfakaaDoorCuM
namespace Go.Av
set_option linter.unusedVariables false
set_option linter.unusedSimpArgs false
def z3 (_:List Int) (_:List Int):Bool:=true
def z3_ok (_:List Int) (t:List Int):Bool:=i32s t
end Go.Av
