/- For all bytes the law FnExactUnpackLink answers true: the program's UnpackLink is the reference's, its result is new memory, and what came in is untouched. No condition. -/
import Derived.Test.YtpecdgjddffhjaaPAllx9
import Derived.Test.YtpecdgjddffhjaaChkU
import Derived.Test.YtpecdgjddffhjaaLibM
namespace Go.Proofs.Ytpecdgjddffhjaa.Pure
open Go.RowKit Go.Proofs.Ytpecdgjddffhjaa.PAll Go.Proofs.YtpecdgjddffhjaaW.PrintWords Go.Proofs.YtpecdgjddffhjaaW.PrintLast Go.Proofs.YtpecdgjddffhjaaW.PrintMore Go.Proofs.Ytpecdgjddffhjaa.Base

theorem FnExactUnpackLink : laws_FnExactUnpackLink.Pure := by
  intro l h1 h2 h3
  refine Ev.rounds ?_
  unfold laws_FnExactUnpackLink.f
  have hb := wf_bytes h3
  by_cases h : (l.length : Int) > 1048576
  · exact Ev.pos h (Ev.now _)
  · have hl : l.length ≤ 1048576 := by omega
    have hi := implUnpack l hb
    have hs := specUnpack l hb
    have hr := unpackI_len l
    generalize unpackI l = r at hi hs hr
    refine Ev.neg h (Ev.bind (toByteS_ev l hl) (Ev.bind hs (Ev.bind (toByteS_ev l hl) (Ev.bind hi (Ev.pos rfl (Ev.pos rfl (Ev.bind (eqByteS_self r.2.2.1 (by omega)) (Ev.pos rfl ?_))))))))
    rw [bne_self_eq_false]
    refine Ev.succ ?_
    simp only [laws_FnExactUnpackLink.j0]
    refine Ev.neg Bool.false_ne_true (Ev.bind (toByteS_ev l hl) (Ev.bind (eqByteS_self l (by omega)) (Ev.pos rfl (Ev.bind (markByteS_ev l 1 (by omega)) (Ev.neg (by simp only; omega) (Ev.pos trivial (Ev.pos trivial (Ev.bind (eqByteS_self r.2.2.1 (by omega)) (Ev.pos rfl ?_)))))))))
    rw [bne_self_eq_false]
    refine Ev.succ ?_
    simp only [laws_FnExactUnpackLink.j1]
    refine Ev.neg Bool.false_ne_true (Ev.bind (markByteS_ev r.2.2.1 1 (by omega)) (Ev.bind (heldByteS_ev 1 r.2.2.1.length (by omega)) (Ev.neg (by omega) (Ev.pos rfl (Ev.bind (toByteS_ev l hl) (Ev.bind hi (Ev.pos rfl (Ev.pos rfl (Ev.bind (eqByteS_self r.2.2.1 (by omega)) (Ev.pos rfl ?_))))))))))
    rw [bne_self_eq_false]
    refine Ev.succ ?_
    simp only [laws_FnExactUnpackLink.j2]
    exact Ev.neg Bool.false_ne_true (Ev.bind (heldByteS_ev 1 r.2.2.1.length (by omega)) (Ev.neg (by omega) (Ev.pos rfl (Ev.now _))))
end Go.Proofs.Ytpecdgjddffhjaa.Pure
