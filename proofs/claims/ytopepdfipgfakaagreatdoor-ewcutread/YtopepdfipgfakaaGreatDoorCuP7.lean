import Derived.Test.YtopepdfipgfakaaGreatDoorCuP6
namespace Go.Av
set_option linter.unusedVariables false
set_option linter.unusedSimpArgs false
theorem qwZ:z34 [233] 75=([61,63,105,115,111,45,56,56,53,57,45,49,63,81,63,61,69,57,63,61],0):=by decide +kernel
theorem qtc:(z32 [233] 10).2=12:=by decide +kernel
theorem qtd:z36 [233] 75=1:=by decide +kernel
theorem qFS:∃ n,qGD n  = qmh z27:=⟨0,by
 unfold qGD
 rw [qwZ,qtc,qtd]
 rfl⟩
theorem qxa (s:List Int):z21 s s=true:=by unfold z21; exact dT rfl
end Go.Av
