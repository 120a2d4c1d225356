/- For all bytes the law FnExactBitsOf answers true: the program's BitsOf is the reference's, its result is new memory, and what came in is untouched. No condition. -/
import Derived.Test.YtolgcoapehmekaaPAllx16
import Derived.Test.YtolgcoapehmekaaBits
import Derived.Test.YtolgcoapehmekaaLibM
namespace Go.Proofs.Ytolgcoapehmekaa.Pure
open Go.RowKit Go.Proofs.Ytolgcoapehmekaa.PAll Go.Proofs.YtolgcoapehmekaaW.PrintWords Go.Proofs.YtolgcoapehmekaaW.PrintLast Go.Proofs.YtolgcoapehmekaaW.PrintMore Go.Proofs.Ytolgcoapehmekaa.Base

theorem FnExactBitsOf : laws_FnExactBitsOf.Pure := by
  intro l h1 h2 h3
  refine Ev.rounds ?_
  unfold laws_FnExactBitsOf.f
  have hb := wf_bytes h3
  by_cases h : (l.length : Int) > 1048576
  · exact Ev.pos h (Ev.now _)
  · have hl : l.length ≤ 1048576 := by omega
    have hi := implBits l hb
    have hs := specBits l hb
    have hr := bitsI_len l
    generalize bitsI l = r at hi hs hr
    refine Ev.neg h (Ev.bind (toByteS_ev l hl) (Ev.bind hs (Ev.bind (toByteS_ev l hl) (Ev.bind hi (Ev.bind (eqIntS_self r (by omega)) (Ev.pos rfl (Ev.bind (toByteS_ev l hl) (Ev.bind (eqByteS_self l (by omega)) (Ev.pos rfl (Ev.bind (markByteS_ev l 1 (by omega)) (Ev.neg (by simp only; omega) (Ev.bind (eqIntS_self r (by omega)) ?_))))))))))))
    refine Ev.succ ?_
    simp only [laws_FnExactBitsOf.j0]
    exact Ev.neg (by simp) (Ev.bind (markIntS_ev r 1 (by omega)) (Ev.bind (heldIntS_ev 1 r.length (by omega)) (Ev.neg (by omega) (Ev.pos rfl (Ev.bind (toByteS_ev l hl) (Ev.bind hi (Ev.bind (eqIntS_self r (by omega)) (Ev.pos rfl (Ev.bind (heldIntS_ev 1 r.length (by omega)) (Ev.neg (by omega) (Ev.pos rfl (Ev.now _))))))))))))
end Go.Proofs.Ytolgcoapehmekaa.Pure
