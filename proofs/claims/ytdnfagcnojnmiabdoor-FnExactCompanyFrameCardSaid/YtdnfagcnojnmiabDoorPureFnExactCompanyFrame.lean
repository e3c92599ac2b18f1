/- The program's CompanyFrame answers as the reference's, and what it hands back is shared with nothing. Conditions: none. -/
import Derived.Test.YtdnfagcnojnmiabDoorPFnExactCompanyFramex0
import Derived.Test.YtdnfagcnojnmiabDoorPFnExactCompanyFramex1
import Derived.Test.YtdnfagcnojnmiabDoorPFnExactCompanyFramex2
import Derived.Test.YtdnfagcnojnmiabDoorPFnExactCompanyFramex3
import Derived.Test.YtdnfagcnojnmiabDoorPureAid
import Derived.Test.YtdnfagcnojnmiabDoorWMore
namespace Go.Proofs.YtdnfagcnojnmiabDoor.Pure
open Go Go.RowKit Go.Proofs.YtdnfagcnojnmiabDoor.PFnExactCompanyFrame Go.Proofs.YtdnfagcnojnmiabDoorW.PrintWords Go.Proofs.YtdnfagcnojnmiabDoorW.PrintLast Go.Proofs.YtdnfagcnojnmiabDoor.Aid
set_option linter.unusedVariables false
set_option linter.unusedSimpArgs false
set_option maxRecDepth 100000
theorem FnExactCompanyFrame : ∃ k, laws_FnExactCompanyFrame.f k = some true := ⟨40, by kernel_rfl⟩

end Go.Proofs.YtdnfagcnojnmiabDoor.Pure
