/- Written by a program of this session (drive.py) over the translation: a part of the proofs of the laws; nothing is asked beyond what each statement says. -/
import Derived.Test.YthkepfodengceaaQ0
import Derived.Test.YthkepfodengceaaOpn
import Derived.KernelRfl
namespace Go.Proofs.Ythkepfodengceaa.Q
open Go Go.RowKit Go.Proofs.YthkepfodengceaaW.PrintWords Go.Proofs.YthkepfodengceaaW.PrintLast Go.Proofs.Ythkepfodengceaa.Opn
set_option linter.unusedVariables false
theorem cells5 : Try.prog.cellsOf 5 = 1 := by kernel_rfl
end Go.Proofs.Ythkepfodengceaa.Q
