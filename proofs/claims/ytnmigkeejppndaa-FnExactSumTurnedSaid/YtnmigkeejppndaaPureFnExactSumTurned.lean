/- For every three numbers the law FnExactSumTurned answers true: the program's SumTurned is the reference's. No condition. -/
import Derived.Test.YtnmigkeejppndaaPAllx1
import Derived.Test.YtnmigkeejppndaaChkS
namespace Go.Proofs.Ytnmigkeejppndaa.Pure
open Go.RowKit Go.Proofs.Ytnmigkeejppndaa.PAll Go.Proofs.YtnmigkeejppndaaW.PrintWords Go.Proofs.YtnmigkeejppndaaW.PrintLast Go.Proofs.YtnmigkeejppndaaW.PrintMore Go.Proofs.Ytnmigkeejppndaa.Base

theorem FnExactSumTurned : laws_FnExactSumTurned.Pure := by
  intro a b c ha hb hc
  refine Ev.rounds ?_
  unfold laws_FnExactSumTurned.f
  exact Ev.bind (specTurned a b c) (Ev.bind (implTurned a b c) (Ev.pos rfl (Ev.now _)))
end Go.Proofs.Ytnmigkeejppndaa.Pure
