/- The law FnExactConstants over numbers and lists alone. No condition. -/
import Derived.Test.YtmjcaajlklidmaaPr2
import Derived.Test.YtmjcaajlklidmaaOps
import Derived.Test.YtmjcaajlklidmaaPl
import Derived.Test.YtmjcaajlklidmaaA1
namespace Go.Proofs.Ytmjcaajlklidmaa.Pu
open Go.RowKit Go.Proofs.Ytmjcaajlklidmaa.Pr Go.Proofs.Ytmjcaajlklidmaa.Pl Go.Proofs.Ytmjcaajlklidmaa.Ax Go.Proofs.Ytmjcaajlklidmaa.Ops Go.Proofs.YtmjcaajlklidmaaW.PrintWords Go.Proofs.YtmjcaajlklidmaaW.PrintLast Go.Proofs.YtmjcaajlklidmaaW.PrintMore
set_option linter.unusedVariables false
set_option linter.unusedSimpArgs false
theorem Constants : laws_FnExactConstants.f = some true := rfl
end Go.Proofs.Ytmjcaajlklidmaa.Pu
