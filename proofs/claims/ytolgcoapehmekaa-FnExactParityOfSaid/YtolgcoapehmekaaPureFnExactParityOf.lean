/- For all bytes the law FnExactParityOf answers true: the program's ParityOf is the reference's. No condition. -/
import Derived.Test.YtolgcoapehmekaaPAllx4
import Derived.Test.YtolgcoapehmekaaBitsP
namespace Go.Proofs.Ytolgcoapehmekaa.Pure
open Go.RowKit Go.Proofs.Ytolgcoapehmekaa.PAll Go.Proofs.YtolgcoapehmekaaW.PrintWords Go.Proofs.YtolgcoapehmekaaW.PrintLast Go.Proofs.YtolgcoapehmekaaW.PrintMore Go.Proofs.Ytolgcoapehmekaa.Base

theorem FnExactParityOf : laws_FnExactParityOf.Pure := by
  intro l h1 h2 h3
  refine Ev.rounds ?_
  unfold laws_FnExactParityOf.f
  have hb := wf_bytes h3
  by_cases h : (l.length : Int) > 1048576
  · exact Ev.pos h (Ev.now _)
  · have hl : l.length ≤ 1048576 := by omega
    exact Ev.neg h (Ev.bind (toByteS_ev l hl) (Ev.bind (specPar l hb) (Ev.bind (toByteS_ev l hl) (Ev.bind (implPar l hb) (Ev.pos rfl (Ev.bind (toByteS_ev l hl) (Ev.bind (eqByteS_self l (by omega)) (Ev.pos rfl (Ev.now _)))))))))
end Go.Proofs.Ytolgcoapehmekaa.Pure
