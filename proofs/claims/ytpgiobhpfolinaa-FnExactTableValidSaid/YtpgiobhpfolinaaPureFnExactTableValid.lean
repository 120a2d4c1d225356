/- For every table and port count the law FnExactTableValid answers true: the program's TableValid is the reference's. No condition. -/
import Derived.Test.YtpgiobhpfolinaaPAllx4
import Derived.Test.YtpgiobhpfolinaaBridge
namespace Go.Proofs.Ytpgiobhpfolinaa.Pure
open Go.RowKit Go.Proofs.Ytpgiobhpfolinaa.PAll Go.Proofs.YtpgiobhpfolinaaW.PrintWords Go.Proofs.YtpgiobhpfolinaaW.PrintLast Go.Proofs.YtpgiobhpfolinaaW.PrintMore Go.Proofs.Ytpgiobhpfolinaa.Base

theorem FnExactTableValid : laws_FnExactTableValid.Pure := by
  intro l n h1 h2 h3 hn
  refine Ev.rounds ?_
  unfold laws_FnExactTableValid.f
  by_cases h : (l.length : Int) > 1048576
  · exact Ev.pos h (Ev.now _)
  · have hl : l.length ≤ 1048576 := by omega
    exact Ev.neg h (Ev.bind (toIntS_ev l hl) (Ev.bind (specTV l n) (Ev.bind (toIntS_ev l hl) (Ev.bindc (implTV l n) (Ev.neg (by simp) (Ev.bind (toIntS_ev l hl) (Ev.bind (eqIntS_self l (by omega)) (Ev.pos rfl (Ev.now _)))))))))
end Go.Proofs.Ytpgiobhpfolinaa.Pure
