/- For all bytes that the number is drawn of the law FnNibbleFar answers true: what is mended is one of the codes, and two codes differ in three bits at least. -/
import Derived.Test.YtpifogfnafogaaaDoorPAllx8
import Derived.Test.YtpifogfnafogaaaDoorNibD
namespace Go.Proofs.YtpifogfnafogaaaDoor.Pure
open Go.RowKit Go.Proofs.YtpifogfnafogaaaDoor.PAll Go.Proofs.YtpifogfnafogaaaDoorW.PrintWords Go.Proofs.YtpifogfnafogaaaDoorW.PrintLast Go.Proofs.YtpifogfnafogaaaDoorW.PrintMore Go.Proofs.YtpifogfnafogaaaDoor.Base

theorem FnNibbleFar : laws_FnNibbleFar.Pure := by
  intro l h1 h2 h3
  refine Ev.rounds ?_
  unfold laws_FnNibbleFar.f
  by_cases h : (l.length : Int) > 1048576
  · exact Ev.pos h (Ev.now _)
  · obtain ⟨m, hm⟩ := drawD l (wf_bytes h3)
    refine Ev.neg h (Ev.bind hm (Ev.bindc rfl (Ev.bindc (specDec _) (Ev.pos rfl (Ev.pos rfl ?_)))))
    exact Ev.of (fun k => (laws_FnNibbleFar.mono_l k).1 _ _ _ _ _ _) (far_all m)
end Go.Proofs.YtpifogfnafogaaaDoor.Pure
