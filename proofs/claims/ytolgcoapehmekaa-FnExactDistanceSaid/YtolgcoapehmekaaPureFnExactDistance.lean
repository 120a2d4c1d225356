/- For all bytes and bytes the law FnExactDistance answers true: the program's Distance is the reference's. No condition. -/
import Derived.Test.YtolgcoapehmekaaPAllx7
import Derived.Test.YtolgcoapehmekaaBitsP
namespace Go.Proofs.Ytolgcoapehmekaa.Pure
open Go.RowKit Go.Proofs.Ytolgcoapehmekaa.PAll Go.Proofs.YtolgcoapehmekaaW.PrintWords Go.Proofs.YtolgcoapehmekaaW.PrintLast Go.Proofs.YtolgcoapehmekaaW.PrintMore Go.Proofs.Ytolgcoapehmekaa.Base

theorem FnExactDistance : laws_FnExactDistance.Pure := by
  intro a b h1 h2 h3 k1 k2 k3
  refine Ev.rounds ?_
  unfold laws_FnExactDistance.f
  have ha := wf_bytes h3
  have hb := wf_bytes k3
  by_cases h : (a.length : Int) > 1048576
  · exact Ev.pos h (Ev.now _)
  · by_cases k : (b.length : Int) > 1048576
    · exact Ev.neg h (Ev.pos k (Ev.now _))
    · have hl : a.length ≤ 1048576 := by omega
      have kl : b.length ≤ 1048576 := by omega
      exact Ev.neg h (Ev.neg k (Ev.bind (toByteS_ev a hl) (Ev.bind (toByteS_ev b kl) (Ev.bind (specDist a b ha hb) (Ev.bind (toByteS_ev a hl) (Ev.bind (toByteS_ev b kl) (Ev.bind (implDist a b ha hb) (Ev.pos rfl (Ev.bind (toByteS_ev a hl) (Ev.bind (eqByteS_self a (by omega)) (Ev.pos rfl (Ev.bind (toByteS_ev b kl) (Ev.bind (eqByteS_self b (by omega)) (Ev.pos rfl (Ev.now _)))))))))))))))
end Go.Proofs.Ytolgcoapehmekaa.Pure
