/- For all fates and every count the law FnExactLostIn answers true: the program's LostIn is the reference's. No condition. -/
import Derived.Test.YtcgajgmcjgoipaaPAllx9
import Derived.Test.YtcgajgmcjgoipaaWireA
namespace Go.Proofs.Ytcgajgmcjgoipaa.Pure
open Go.RowKit Go.Proofs.Ytcgajgmcjgoipaa.PAll Go.Proofs.YtcgajgmcjgoipaaW.PrintWords Go.Proofs.YtcgajgmcjgoipaaW.PrintLast Go.Proofs.YtcgajgmcjgoipaaW.PrintMore Go.Proofs.Ytcgajgmcjgoipaa.Base

theorem FnExactLostIn : laws_FnExactLostIn.Pure := by
  intro l i h1 h2 h3 hi
  refine Ev.rounds ?_
  unfold laws_FnExactLostIn.f
  by_cases h : (l.length : Int) > 1048576
  · exact Ev.pos h (Ev.now _)
  · have hl : l.length ≤ 1048576 := by omega
    exact Ev.neg h (Ev.bind (toIntS_ev l hl) (Ev.bind (specLost l i (by omega)) (Ev.bind (toIntS_ev l hl) (Ev.bind (implLost l i) (Ev.pos rfl (Ev.bind (toIntS_ev l hl) (Ev.bind (eqIntS_self l (by omega)) (Ev.pos rfl (Ev.now _)))))))))
end Go.Proofs.Ytcgajgmcjgoipaa.Pure
