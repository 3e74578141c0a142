/- The pure statement of FnExactConstants: for every input the law answers true; no condition. -/
import Derived.Test.YtkolcdknnmgaoaaPFnExactConstantsx1
namespace Go.Proofs.Ytkolcdknnmgaoaa.Pure
open Go.RowKit Go.Proofs.Ytkolcdknnmgaoaa.PFnExactConstants Go.Proofs.YtkolcdknnmgaoaaW.PrintWords Go.Proofs.YtkolcdknnmgaoaaW.PrintLast Go.Proofs.YtkolcdknnmgaoaaW.PrintMore

theorem FnExactConstants : laws_FnExactConstants.Pure := rfl

end Go.Proofs.Ytkolcdknnmgaoaa.Pure
