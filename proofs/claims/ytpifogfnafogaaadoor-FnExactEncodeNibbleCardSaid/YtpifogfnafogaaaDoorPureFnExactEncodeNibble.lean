/- For every number the law FnExactEncodeNibble answers true: the program's EncodeNibble is the reference's. No condition but what the package variable 'rules' holds. -/
import Derived.Test.YtpifogfnafogaaaDoorPAllx2
import Derived.Test.YtpifogfnafogaaaDoorNib
namespace Go.Proofs.YtpifogfnafogaaaDoor.Pure
open Go.RowKit Go.Proofs.YtpifogfnafogaaaDoor.PAll Go.Proofs.YtpifogfnafogaaaDoorW.PrintWords Go.Proofs.YtpifogfnafogaaaDoorW.PrintLast Go.Proofs.YtpifogfnafogaaaDoorW.PrintMore Go.Proofs.YtpifogfnafogaaaDoor.Base

theorem FnExactEncodeNibble : laws_FnExactEncodeNibble.Pure := by
  intro n _
  refine Ev.rounds ?_
  unfold laws_FnExactEncodeNibble.f
  exact Ev.bind (specEnc n) (Ev.bindc rfl (Ev.pos rfl (Ev.now _)))
end Go.Proofs.YtpifogfnafogaaaDoor.Pure
