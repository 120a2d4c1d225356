/- For all bytes the law FnExactAddCrc answers true: the program's AddCrc is the reference's, its result is new memory, and what came in is untouched. No condition. -/
import Derived.Test.YtpecdgjddffhjaaPAllx3
import Derived.Test.YtpecdgjddffhjaaChkP
import Derived.Test.YtpecdgjddffhjaaLibM
namespace Go.Proofs.Ytpecdgjddffhjaa.Pure
open Go.RowKit Go.Proofs.Ytpecdgjddffhjaa.PAll Go.Proofs.YtpecdgjddffhjaaW.PrintWords Go.Proofs.YtpecdgjddffhjaaW.PrintLast Go.Proofs.YtpecdgjddffhjaaW.PrintMore Go.Proofs.Ytpecdgjddffhjaa.Base

theorem FnExactAddCrc : laws_FnExactAddCrc.Pure := by
  intro l h1 h2 h3
  refine Ev.rounds ?_
  unfold laws_FnExactAddCrc.f
  have hb := wf_bytes h3
  by_cases h : (l.length : Int) > 1048576
  · exact Ev.pos h (Ev.now _)
  · have hl : l.length ≤ 1048576 := by omega
    have hi := implAdd l hb (by omega)
    have hs := specAdd l hb (by omega)
    have hr := addI_len l
    generalize addI l = r at hi hs hr
    refine Ev.neg h (Ev.bind (toByteS_ev l hl) (Ev.bind hs (Ev.bind (toByteS_ev l hl) (Ev.bind hi (Ev.bind (eqByteS_self r.1 (by omega)) (Ev.pos rfl ?_))))))
    rw [bne_self_eq_false]
    refine Ev.succ ?_
    simp only [laws_FnExactAddCrc.j0]
    refine Ev.neg Bool.false_ne_true (Ev.bind (toByteS_ev l hl) (Ev.bind (eqByteS_self l (by omega)) (Ev.pos rfl (Ev.bind (markByteS_ev l 1 (by omega)) (Ev.neg (by simp only; omega) (Ev.bind (eqByteS_self r.1 (by omega)) (Ev.pos rfl ?_)))))))
    rw [bne_self_eq_false]
    refine Ev.succ ?_
    simp only [laws_FnExactAddCrc.j1]
    refine Ev.neg Bool.false_ne_true (Ev.bind (markByteS_ev r.1 1 (by omega)) (Ev.bind (heldByteS_ev 1 r.1.length (by omega)) (Ev.neg (by omega) (Ev.pos rfl (Ev.bind (toByteS_ev l hl) (Ev.bind hi (Ev.bind (eqByteS_self r.1 (by omega)) (Ev.pos rfl ?_))))))))
    rw [bne_self_eq_false]
    refine Ev.succ ?_
    simp only [laws_FnExactAddCrc.j2]
    exact Ev.neg Bool.false_ne_true (Ev.bind (heldByteS_ev 1 r.1.length (by omega)) (Ev.neg (by omega) (Ev.pos rfl (Ev.now _))))
end Go.Proofs.Ytpecdgjddffhjaa.Pure
