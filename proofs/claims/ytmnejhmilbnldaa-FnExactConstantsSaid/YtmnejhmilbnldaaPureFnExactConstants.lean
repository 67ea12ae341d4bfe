/- The program's exported constants are the document's: FnExactConstants returns true. No condition. -/
import Derived.Test.YtmnejhmilbnldaaPFnExactConstantsx1
namespace Go.Proofs.Ytmnejhmilbnldaa.Pure
open Go.RowKit Go.Proofs.Ytmnejhmilbnldaa.PFnExactConstants Go.Proofs.YtmnejhmilbnldaaW.PrintWords Go.Proofs.YtmnejhmilbnldaaW.PrintLast Go.Proofs.YtmnejhmilbnldaaW.PrintMore

theorem FnExactConstants : laws_FnExactConstants.Pure := rfl

end Go.Proofs.Ytmnejhmilbnldaa.Pure
