/- For all bytes the law FnExactSumRight answers true: the program's SumRight is the reference's. No condition. -/
import Derived.Test.YtnmigkeejppndaaPAllx4
import Derived.Test.YtnmigkeejppndaaChkS
namespace Go.Proofs.Ytnmigkeejppndaa.Pure
open Go.RowKit Go.Proofs.Ytnmigkeejppndaa.PAll Go.Proofs.YtnmigkeejppndaaW.PrintWords Go.Proofs.YtnmigkeejppndaaW.PrintLast Go.Proofs.YtnmigkeejppndaaW.PrintMore Go.Proofs.Ytnmigkeejppndaa.Base

theorem FnExactSumRight : laws_FnExactSumRight.Pure := by
  intro l h1 h2 h3
  refine Ev.rounds ?_
  unfold laws_FnExactSumRight.f
  have hb := wf_bytes h3
  by_cases h : (l.length : Int) > 1048576
  · exact Ev.pos h (Ev.now _)
  · have hl : l.length ≤ 1048576 := by omega
    exact Ev.neg h (Ev.bind (toByteS_ev l hl) (Ev.bind (specRight l hb) (Ev.bind (toByteS_ev l hl) (Ev.bind (implRight l hb) (Ev.neg (by simp) (Ev.bind (toByteS_ev l hl) (Ev.bind (eqByteS_self l (by omega)) (Ev.pos rfl (Ev.now _)))))))))
end Go.Proofs.Ytnmigkeejppndaa.Pure
