/- For every number and every byte the law FnExactCrcStep answers true: the program's CrcStep is the reference's. No condition. -/
import Derived.Test.YtnmigkeejppndaaPAllx1
import Derived.Test.YtnmigkeejppndaaChkA
namespace Go.Proofs.Ytnmigkeejppndaa.Pure
open Go.RowKit Go.Proofs.Ytnmigkeejppndaa.PAll Go.Proofs.YtnmigkeejppndaaW.PrintWords Go.Proofs.YtnmigkeejppndaaW.PrintLast Go.Proofs.YtnmigkeejppndaaW.PrintMore Go.Proofs.Ytnmigkeejppndaa.Base

theorem FnExactCrcStep : laws_FnExactCrcStep.Pure := by
  intro a b ha hb
  refine Ev.rounds ?_
  unfold laws_FnExactCrcStep.f
  exact Ev.bind (specStep a b (wf_u8 hb)) (Ev.bind (implStep a b (wf_u8 hb)) (Ev.pos rfl (Ev.now _)))
end Go.Proofs.Ytnmigkeejppndaa.Pure
