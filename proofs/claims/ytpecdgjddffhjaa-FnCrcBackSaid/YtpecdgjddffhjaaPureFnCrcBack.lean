/- For all bytes that the law FnCrcBack draws data of, it answers true: what gets its check behind is cut again, and the check of both is 0. No condition. -/
import Derived.Test.YtpecdgjddffhjaaPAllx6
import Derived.Test.YtpecdgjddffhjaaChkP
namespace Go.Proofs.Ytpecdgjddffhjaa.Pure
open Go.RowKit Go.Proofs.Ytpecdgjddffhjaa.PAll Go.Proofs.YtpecdgjddffhjaaW.PrintWords Go.Proofs.YtpecdgjddffhjaaW.PrintLast Go.Proofs.YtpecdgjddffhjaaW.PrintMore Go.Proofs.Ytpecdgjddffhjaa.Base

theorem FnCrcBack : laws_FnCrcBack.Pure := by
  intro l h1 h2 h3
  refine Ev.rounds ?_
  unfold laws_FnCrcBack.f
  by_cases h : (l.length : Int) > 1048576
  · exact Ev.pos h (Ev.now _)
  · obtain ⟨b, hb, hbl, hd⟩ := drawAdd_ev l (wf_bytes h3)
    refine Ev.neg h (Ev.bind hd (Ev.bind (implAdd b hb (by omega)) (Ev.bind (specAdd b hb (by omega)) (Ev.neg (by simp) (Ev.pos rfl ?_)))))
    refine Ev.succ ?_
    simp only [laws_FnCrcBack.j0]
    by_cases h6 : b.length + 2 ≤ 600
    · have e : addI b = (withCrc b, true) := by unfold addI; rw [if_pos h6]
      have hg := good_with b hb h6
      have e2 : cutI (withCrc b) = (b, true) := by unfold cutI; rw [if_pos hg, take_with]
      rw [e]
      refine Ev.neg Bool.false_ne_true (Ev.bind (implCut _ (withCrc_bytes b hb)) ?_)
      rw [e2]
      refine Ev.pos rfl (Ev.pos rfl (Ev.bind (implCrc _ (withCrc_bytes b hb)) (Ev.eq (Ev.now _) ?_)))
      unfold crcI
      rw [if_pos hg.1, hg.2.2]
      rfl
    · have e : addI b = ([], false) := by unfold addI; rw [if_neg h6]
      rw [e]
      exact Ev.pos (by first | rfl | trivial) (Ev.pos (by first | rfl | trivial) (Ev.pos (by first | rfl | trivial) (Ev.now _)))
end Go.Proofs.Ytpecdgjddffhjaa.Pure
