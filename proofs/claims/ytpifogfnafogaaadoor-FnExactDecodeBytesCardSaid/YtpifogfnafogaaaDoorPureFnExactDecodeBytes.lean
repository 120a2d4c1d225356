/- For all bytes the law FnExactDecodeBytes answers true: the program's DecodeBytes is the reference's, its result is new memory, and what came in is untouched. No condition but what the package variable 'rules' holds. -/
import Derived.Test.YtpifogfnafogaaaDoorPAllx6
import Derived.Test.YtpifogfnafogaaaDoorNibF
import Derived.Test.YtpifogfnafogaaaDoorLibM
namespace Go.Proofs.YtpifogfnafogaaaDoor.Pure
open Go.RowKit Go.Proofs.YtpifogfnafogaaaDoor.PAll Go.Proofs.YtpifogfnafogaaaDoorW.PrintWords Go.Proofs.YtpifogfnafogaaaDoorW.PrintLast Go.Proofs.YtpifogfnafogaaaDoorW.PrintMore Go.Proofs.YtpifogfnafogaaaDoor.Base

theorem FnExactDecodeBytes : laws_FnExactDecodeBytes.Pure := by
  intro l h1 h2 h3
  refine Ev.rounds ?_
  unfold laws_FnExactDecodeBytes.f
  have hb := wf_bytes h3
  by_cases h : (l.length : Int) > 1048576
  · exact Ev.pos h (Ev.now _)
  · have hl : l.length ≤ 1048576 := by omega
    have hi := implDecB l hb
    have hs := specDecB l hb
    have hr := decB_len l
    generalize decB l = r at hi hs hr
    refine Ev.neg h (Ev.bind (toByteS_ev l hl) (Ev.bind hs (Ev.bind (toByteS_ev l hl) (Ev.bindc hi (Ev.bind (eqByteS_self r.1 (by omega)) (Ev.pos rfl ?_))))))
    rw [bne_self_eq_false]
    refine Ev.succ ?_
    simp only [laws_FnExactDecodeBytes.j0]
    refine Ev.neg Bool.false_ne_true (Ev.bind (toByteS_ev l hl) (Ev.bind (eqByteS_self l (by omega)) (Ev.pos rfl (Ev.bind (markByteS_ev l 1 (by omega)) (Ev.neg (by simp only; omega) (Ev.bind (eqByteS_self r.1 (by omega)) (Ev.pos rfl ?_)))))))
    rw [bne_self_eq_false]
    refine Ev.succ ?_
    simp only [laws_FnExactDecodeBytes.j1]
    refine Ev.neg Bool.false_ne_true (Ev.bind (markByteS_ev r.1 1 (by omega)) (Ev.bind (heldByteS_ev 1 r.1.length (by omega)) (Ev.neg (by omega) (Ev.pos rfl (Ev.bind (toByteS_ev l hl) (Ev.bindc hi (Ev.bind (eqByteS_self r.1 (by omega)) (Ev.pos rfl ?_))))))))
    rw [bne_self_eq_false]
    refine Ev.succ ?_
    simp only [laws_FnExactDecodeBytes.j2]
    exact Ev.neg Bool.false_ne_true (Ev.bind (heldByteS_ev 1 r.1.length (by omega)) (Ev.neg (by omega) (Ev.pos rfl (Ev.now _))))
end Go.Proofs.YtpifogfnafogaaaDoor.Pure
