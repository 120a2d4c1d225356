/- For all kinds, sequence numbers and bytes the law FnExactPackLink answers true: the program's PackLink is the reference's, its result is new memory, and what came in is untouched. No condition. -/
import Derived.Test.YtpecdgjddffhjaaPAllx5
import Derived.Test.YtpecdgjddffhjaaChkP
import Derived.Test.YtpecdgjddffhjaaLibM
namespace Go.Proofs.Ytpecdgjddffhjaa.Pure
open Go.RowKit Go.Proofs.Ytpecdgjddffhjaa.PAll Go.Proofs.YtpecdgjddffhjaaW.PrintWords Go.Proofs.YtpecdgjddffhjaaW.PrintLast Go.Proofs.YtpecdgjddffhjaaW.PrintMore Go.Proofs.Ytpecdgjddffhjaa.Base

theorem FnExactPackLink : laws_FnExactPackLink.Pure := by
  intro kind seq l hk hq h1 h2 h3
  refine Ev.rounds ?_
  unfold laws_FnExactPackLink.f
  have hb := wf_bytes h3
  by_cases h : (l.length : Int) > 1048576
  · exact Ev.pos h (Ev.now _)
  · have hl : l.length ≤ 1048576 := by omega
    have hi := implPack kind seq l hb (by omega)
    have hs := specPack kind seq l hb (by omega)
    have hr := packI_len kind seq l
    generalize packI kind seq l = r at hi hs hr
    refine Ev.neg h (Ev.bind (toByteS_ev l hl) (Ev.bind hs (Ev.bind (toByteS_ev l hl) (Ev.bind hi (Ev.bind (eqByteS_self r.1 (by omega)) (Ev.pos rfl ?_))))))
    rw [bne_self_eq_false]
    refine Ev.succ ?_
    simp only [laws_FnExactPackLink.j0]
    refine Ev.neg Bool.false_ne_true (Ev.bind (toByteS_ev l hl) (Ev.bind (eqByteS_self l (by omega)) (Ev.pos rfl (Ev.bind (markByteS_ev l 1 (by omega)) (Ev.neg (by simp only; omega) (Ev.bind (eqByteS_self r.1 (by omega)) (Ev.pos rfl ?_)))))))
    rw [bne_self_eq_false]
    refine Ev.succ ?_
    simp only [laws_FnExactPackLink.j1]
    refine Ev.neg Bool.false_ne_true (Ev.bind (markByteS_ev r.1 1 (by omega)) (Ev.bind (heldByteS_ev 1 r.1.length (by omega)) (Ev.neg (by omega) (Ev.pos rfl (Ev.bind (toByteS_ev l hl) (Ev.bind hi (Ev.bind (eqByteS_self r.1 (by omega)) (Ev.pos rfl ?_))))))))
    rw [bne_self_eq_false]
    refine Ev.succ ?_
    simp only [laws_FnExactPackLink.j2]
    exact Ev.neg Bool.false_ne_true (Ev.bind (heldByteS_ev 1 r.1.length (by omega)) (Ev.neg (by omega) (Ev.pos rfl (Ev.now _))))
end Go.Proofs.Ytpecdgjddffhjaa.Pure
