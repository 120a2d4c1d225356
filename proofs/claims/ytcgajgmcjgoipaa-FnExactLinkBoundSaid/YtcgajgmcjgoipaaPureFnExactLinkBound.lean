/- For every window and message count and all fates the law FnExactLinkBound answers true: the program's LinkBound is the reference's. No condition. -/
import Derived.Test.YtcgajgmcjgoipaaPAllx6
import Derived.Test.YtcgajgmcjgoipaaWireA
namespace Go.Proofs.Ytcgajgmcjgoipaa.Pure
open Go.RowKit Go.Proofs.Ytcgajgmcjgoipaa.PAll Go.Proofs.YtcgajgmcjgoipaaW.PrintWords Go.Proofs.YtcgajgmcjgoipaaW.PrintLast Go.Proofs.YtcgajgmcjgoipaaW.PrintMore Go.Proofs.Ytcgajgmcjgoipaa.Base

theorem FnExactLinkBound : laws_FnExactLinkBound.Pure := by
  intro w m l l' hw hm h1 h2 h3 h4 h5 h6
  refine Ev.rounds ?_
  unfold laws_FnExactLinkBound.f
  by_cases h : (l.length : Int) > 1048576
  · exact Ev.pos h (Ev.now _)
  · by_cases h' : (l'.length : Int) > 1048576
    · exact Ev.neg h (Ev.pos h' (Ev.now _))
    · have hl : l.length ≤ 1048576 := by omega
      have hl' : l'.length ≤ 1048576 := by omega
      exact Ev.neg h (Ev.neg h' (Ev.bind (toIntS_ev l hl) (Ev.bind (toIntS_ev l' hl') (Ev.bind (specBound w m l l' (by omega) (by omega)) (Ev.bind (toIntS_ev l hl) (Ev.bind (toIntS_ev l' hl') (Ev.bindc (implBound w m l l') (Ev.pos rfl (Ev.bind (toIntS_ev l hl) (Ev.bind (eqIntS_self l (by omega)) (Ev.pos rfl (Ev.bind (toIntS_ev l' hl') (Ev.bind (eqIntS_self l' (by omega)) (Ev.pos rfl (Ev.now _)))))))))))))))
end Go.Proofs.Ytcgajgmcjgoipaa.Pure
