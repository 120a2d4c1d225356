/- For all bytes the law FnExactCrcOf answers true: the program's CrcOf is the reference's. No condition. -/
import Derived.Test.YtnmigkeejppndaaPAllx4
import Derived.Test.YtnmigkeejppndaaChkA
namespace Go.Proofs.Ytnmigkeejppndaa.Pure
open Go.RowKit Go.Proofs.Ytnmigkeejppndaa.PAll Go.Proofs.YtnmigkeejppndaaW.PrintWords Go.Proofs.YtnmigkeejppndaaW.PrintLast Go.Proofs.YtnmigkeejppndaaW.PrintMore Go.Proofs.Ytnmigkeejppndaa.Base

theorem FnExactCrcOf : laws_FnExactCrcOf.Pure := by
  intro l h1 h2 h3
  refine Ev.rounds ?_
  unfold laws_FnExactCrcOf.f
  have hb := wf_bytes h3
  by_cases h : (l.length : Int) > 1048576
  · exact Ev.pos h (Ev.now _)
  · have hl : l.length ≤ 1048576 := by omega
    exact Ev.neg h (Ev.bind (toByteS_ev l hl) (Ev.bind (specCrc l hb) (Ev.bind (toByteS_ev l hl) (Ev.bind (implCrc l hb) (Ev.pos rfl (Ev.bind (toByteS_ev l hl) (Ev.bind (eqByteS_self l (by omega)) (Ev.pos rfl (Ev.now _)))))))))
end Go.Proofs.Ytnmigkeejppndaa.Pure
