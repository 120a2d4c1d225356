/- For all bytes the law FnExactEncodeBytes answers true: the program's EncodeBytes is the reference's, its result is new memory, and what came in is untouched. No condition but what the package variable 'rules' holds. -/
import Derived.Test.YtpifogfnafogaaaDoorPAllx7
import Derived.Test.YtpifogfnafogaaaDoorNibE
import Derived.Test.YtpifogfnafogaaaDoorLibM
namespace Go.Proofs.YtpifogfnafogaaaDoor.Pure
open Go.RowKit Go.Proofs.YtpifogfnafogaaaDoor.PAll Go.Proofs.YtpifogfnafogaaaDoorW.PrintWords Go.Proofs.YtpifogfnafogaaaDoorW.PrintLast Go.Proofs.YtpifogfnafogaaaDoorW.PrintMore Go.Proofs.YtpifogfnafogaaaDoor.Base

theorem FnExactEncodeBytes : laws_FnExactEncodeBytes.Pure := by
  intro l h1 h2 h3
  refine Ev.rounds ?_
  unfold laws_FnExactEncodeBytes.f
  have hb := wf_bytes h3
  by_cases h : (l.length : Int) > 1048576
  · exact Ev.pos h (Ev.now _)
  · have hl : l.length ≤ 1048576 := by omega
    have hi := implEncB l hb
    have hs := specEncB l hb
    have hr := encB_len l
    generalize encB l = r at hi hs hr
    refine Ev.neg h (Ev.bind (toByteS_ev l hl) (Ev.bind hs (Ev.bind (toByteS_ev l hl) (Ev.bind hi (Ev.bind (eqByteS_self r (by omega)) (Ev.pos rfl (Ev.bind (toByteS_ev l hl) (Ev.bind (eqByteS_self l (by omega)) (Ev.pos rfl (Ev.bind (markByteS_ev l 1 (by omega)) (Ev.neg (by simp only; omega) (Ev.bind (eqByteS_self r (by omega)) ?_))))))))))))
    refine Ev.succ ?_
    simp only [laws_FnExactEncodeBytes.j0]
    exact Ev.neg (by simp) (Ev.bind (markByteS_ev r 1 (by omega)) (Ev.bind (heldByteS_ev 1 r.length (by omega)) (Ev.neg (by omega) (Ev.pos rfl (Ev.bind (toByteS_ev l hl) (Ev.bind hi (Ev.bind (eqByteS_self r (by omega)) (Ev.pos rfl (Ev.bind (heldByteS_ev 1 r.length (by omega)) (Ev.neg (by omega) (Ev.pos rfl (Ev.now _))))))))))))
end Go.Proofs.YtpifogfnafogaaaDoor.Pure
