/- For all numbers the law FnExactBytesOf answers true: the program's BytesOf is the reference's, its result is new memory, and what came in is untouched. No condition. -/
import Derived.Test.YtolgcoapehmekaaPAllx23
import Derived.Test.YtolgcoapehmekaaBitsB
import Derived.Test.YtolgcoapehmekaaLibM
namespace Go.Proofs.Ytolgcoapehmekaa.Pure
open Go.RowKit Go.Proofs.Ytolgcoapehmekaa.PAll Go.Proofs.YtolgcoapehmekaaW.PrintWords Go.Proofs.YtolgcoapehmekaaW.PrintLast Go.Proofs.YtolgcoapehmekaaW.PrintMore Go.Proofs.Ytolgcoapehmekaa.Base

theorem FnExactBytesOf : laws_FnExactBytesOf.Pure := by
  intro l h1 h2 h3
  refine Ev.rounds ?_
  unfold laws_FnExactBytesOf.f
  by_cases h : (l.length : Int) > 1048576
  · exact Ev.pos h (Ev.now _)
  · have hl : l.length ≤ 1048576 := by omega
    have hi := implBytes l
    have hs := specBytes l
    have hr := bytesOf_len l
    generalize bytesOf l = r at hi hs hr
    refine Ev.neg h (Ev.bind (toIntS_ev l hl) (Ev.bind hs (Ev.bind (toIntS_ev l hl) (Ev.bindc hi (Ev.bind (eqByteS_self r.1 (by omega)) (Ev.pos rfl ?_))))))
    rw [bne_self_eq_false]
    refine Ev.succ ?_
    simp only [laws_FnExactBytesOf.j0]
    refine Ev.neg Bool.false_ne_true (Ev.bind (toIntS_ev l hl) (Ev.bind (eqIntS_self l (by omega)) (Ev.pos rfl (Ev.bind (markIntS_ev l 1 (by omega)) (Ev.neg (by simp only; omega) (Ev.bind (eqByteS_self r.1 (by omega)) (Ev.pos rfl ?_)))))))
    rw [bne_self_eq_false]
    refine Ev.succ ?_
    simp only [laws_FnExactBytesOf.j1]
    refine Ev.neg Bool.false_ne_true (Ev.bind (markByteS_ev r.1 1 (by omega)) (Ev.bind (heldByteS_ev 1 r.1.length (by omega)) (Ev.neg (by omega) (Ev.pos rfl (Ev.bind (toIntS_ev l hl) (Ev.bindc hi (Ev.bind (eqByteS_self r.1 (by omega)) (Ev.pos rfl ?_))))))))
    rw [bne_self_eq_false]
    refine Ev.succ ?_
    simp only [laws_FnExactBytesOf.j2]
    exact Ev.neg Bool.false_ne_true (Ev.bind (heldByteS_ev 1 r.1.length (by omega)) (Ev.neg (by omega) (Ev.pos rfl (Ev.now _))))
end Go.Proofs.Ytolgcoapehmekaa.Pure
