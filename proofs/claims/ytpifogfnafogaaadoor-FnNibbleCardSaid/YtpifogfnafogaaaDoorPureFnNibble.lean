/- For all bytes that the number is drawn of the law FnNibble answers true: whichever one bit is turned, the four bits come back and the bit is told. -/
import Derived.Test.YtpifogfnafogaaaDoorPAllx6
import Derived.Test.YtpifogfnafogaaaDoorNibD
namespace Go.Proofs.YtpifogfnafogaaaDoor.Pure
open Go.RowKit Go.Proofs.YtpifogfnafogaaaDoor.PAll Go.Proofs.YtpifogfnafogaaaDoorW.PrintWords Go.Proofs.YtpifogfnafogaaaDoorW.PrintLast Go.Proofs.YtpifogfnafogaaaDoorW.PrintMore Go.Proofs.YtpifogfnafogaaaDoor.Base

theorem FnNibble : laws_FnNibble.Pure := by
  intro l h1 h2 h3
  refine Ev.rounds ?_
  unfold laws_FnNibble.f
  by_cases h : (l.length : Int) > 1048576
  · exact Ev.pos h (Ev.now _)
  · obtain ⟨m, hm⟩ := drawE l (wf_bytes h3)
    refine Ev.neg h (Ev.bind hm (Ev.bindc rfl (Ev.bind (specEnc _) (Ev.pos rfl ?_))))
    exact Ev.of (fun k => (laws_FnNibble.mono_l k).1 _ _ _) (nib_all m)
end Go.Proofs.YtpifogfnafogaaaDoor.Pure
