/- The law FnExactConstants answers true. No condition. -/
import Derived.Test.YtnmigkeejppndaaPAllx1
import Derived.Test.YtnmigkeejppndaaBase
namespace Go.Proofs.Ytnmigkeejppndaa.Pure
open Go.RowKit Go.Proofs.Ytnmigkeejppndaa.PAll Go.Proofs.YtnmigkeejppndaaW.PrintWords Go.Proofs.YtnmigkeejppndaaW.PrintLast Go.Proofs.YtnmigkeejppndaaW.PrintMore Go.Proofs.Ytnmigkeejppndaa.Base

theorem FnExactConstants : laws_FnExactConstants.Pure := by
  rfl
end Go.Proofs.Ytnmigkeejppndaa.Pure
