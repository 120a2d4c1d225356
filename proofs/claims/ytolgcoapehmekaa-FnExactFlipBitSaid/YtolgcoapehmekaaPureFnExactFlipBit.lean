/- For all bytes and every number the law FnExactFlipBit answers true: the program's FlipBit is the reference's, its result is new memory, and what came in is untouched. No condition. -/
import Derived.Test.YtolgcoapehmekaaPAllx12
import Derived.Test.YtolgcoapehmekaaBitsD
import Derived.Test.YtolgcoapehmekaaLibM
namespace Go.Proofs.Ytolgcoapehmekaa.Pure
open Go.RowKit Go.Proofs.Ytolgcoapehmekaa.PAll Go.Proofs.YtolgcoapehmekaaW.PrintWords Go.Proofs.YtolgcoapehmekaaW.PrintLast Go.Proofs.YtolgcoapehmekaaW.PrintMore Go.Proofs.Ytolgcoapehmekaa.Base

theorem FnExactFlipBit : laws_FnExactFlipBit.Pure := by
  intro l i h1 h2 h3 _
  refine Ev.rounds ?_
  unfold laws_FnExactFlipBit.f
  have hb := wf_bytes h3
  by_cases h : (l.length : Int) > 1048576
  · exact Ev.pos h (Ev.now _)
  · have hl : l.length ≤ 1048576 := by omega
    have hi := implFlip l hb i
    have hs := specFlipBit l hb i
    have hr := flipI_len l i
    generalize flipI l i = r at hi hs hr
    refine Ev.neg h (Ev.bind (toByteS_ev l hl) (Ev.bindc hs (Ev.bind (toByteS_ev l hl) (Ev.bindc hi (Ev.bind (eqByteS_self r.1 (by omega)) (Ev.pos rfl ?_))))))
    rw [bne_self_eq_false]
    refine Ev.succ ?_
    simp only [laws_FnExactFlipBit.j0]
    refine Ev.neg Bool.false_ne_true (Ev.bind (toByteS_ev l hl) (Ev.bind (eqByteS_self l (by omega)) (Ev.pos rfl (Ev.bind (markByteS_ev l 1 (by omega)) (Ev.neg (by simp only; omega) (Ev.bind (eqByteS_self r.1 (by omega)) (Ev.pos rfl ?_)))))))
    rw [bne_self_eq_false]
    refine Ev.succ ?_
    simp only [laws_FnExactFlipBit.j1]
    refine Ev.neg Bool.false_ne_true (Ev.bind (markByteS_ev r.1 1 (by omega)) (Ev.bind (heldByteS_ev 1 r.1.length (by omega)) (Ev.neg (by omega) (Ev.pos rfl (Ev.bind (toByteS_ev l hl) (Ev.bindc hi (Ev.bind (eqByteS_self r.1 (by omega)) (Ev.pos rfl ?_))))))))
    rw [bne_self_eq_false]
    refine Ev.succ ?_
    simp only [laws_FnExactFlipBit.j2]
    exact Ev.neg Bool.false_ne_true (Ev.bind (heldByteS_ev 1 r.1.length (by omega)) (Ev.neg (by omega) (Ev.pos rfl (Ev.now _))))
end Go.Proofs.Ytolgcoapehmekaa.Pure
