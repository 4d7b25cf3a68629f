/- The law FnExactConstants answers true, with no condition. -/
import Derived.Test.YtnjbpdbdeidngaaPFnExactConstantsx1
namespace Go.Proofs.Ytnjbpdbdeidngaa.Pure
open Go.RowKit Go.Proofs.Ytnjbpdbdeidngaa.PFnExactConstants Go.Proofs.YtnjbpdbdeidngaaW.PrintWords Go.Proofs.YtnjbpdbdeidngaaW.PrintLast

theorem FnExactConstants : laws_FnExactConstants.Pure := rfl

end Go.Proofs.Ytnjbpdbdeidngaa.Pure
