/- For every number the law FnExactDecodeNibble answers true: the program's DecodeNibble is the reference's. No condition but what the package variable 'rules' holds. -/
import Derived.Test.YtpifogfnafogaaaDoorPAllx3
import Derived.Test.YtpifogfnafogaaaDoorNib
namespace Go.Proofs.YtpifogfnafogaaaDoor.Pure
open Go.RowKit Go.Proofs.YtpifogfnafogaaaDoor.PAll Go.Proofs.YtpifogfnafogaaaDoorW.PrintWords Go.Proofs.YtpifogfnafogaaaDoorW.PrintLast Go.Proofs.YtpifogfnafogaaaDoorW.PrintMore Go.Proofs.YtpifogfnafogaaaDoor.Base

theorem FnExactDecodeNibble : laws_FnExactDecodeNibble.Pure := by
  intro n _
  unfold laws_FnExactDecodeNibble.f
  rw [specDec]
  simp [impl_DecodeNibble.f]
end Go.Proofs.YtpifogfnafogaaaDoor.Pure
