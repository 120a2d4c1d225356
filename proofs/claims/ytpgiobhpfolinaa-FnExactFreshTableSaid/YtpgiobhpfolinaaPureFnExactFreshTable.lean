/- The law FnExactFreshTable answers true: the program's FreshTable is the reference's, and its result is new memory. No condition. -/
import Derived.Test.YtpgiobhpfolinaaPAllx3
import Derived.Test.YtpgiobhpfolinaaRun
namespace Go.Proofs.Ytpgiobhpfolinaa.Pure
open Go.RowKit Go.Proofs.Ytpgiobhpfolinaa.PAll Go.Proofs.YtpgiobhpfolinaaW.PrintWords Go.Proofs.YtpgiobhpfolinaaW.PrintLast Go.Proofs.YtpgiobhpfolinaaW.PrintMore Go.Proofs.Ytpgiobhpfolinaa.Base

theorem FnExactFreshTable : laws_FnExactFreshTable.Pure := by
  refine Ev.rounds ?_
  unfold laws_FnExactFreshTable.f
  have hl : fresh.length = 15 := rfl
  refine Ev.bind specFresh (Ev.bindc implFresh (Ev.bind (eqIntS_self fresh (by omega)) (Ev.pos rfl (Ev.bind (markIntS_ev fresh 1 (by omega)) ?_))))
  exact Ev.bind (heldIntS_ev 1 fresh.length (by omega)) (Ev.neg (by omega) (Ev.pos rfl (Ev.bindc implFresh (Ev.bind (eqIntS_self fresh (by omega)) (Ev.pos rfl (Ev.bind (heldIntS_ev 1 fresh.length (by omega)) (Ev.neg (by omega) (Ev.pos rfl (Ev.now _)))))))))
end Go.Proofs.Ytpgiobhpfolinaa.Pure
