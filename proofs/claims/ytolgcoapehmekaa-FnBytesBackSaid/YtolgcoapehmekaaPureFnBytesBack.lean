/- For all bytes drawn from the law FnBytesBack answers true: the program's BytesOf is the reference's, and the bits of its bytes are those that came in. No condition. -/
import Derived.Test.YtolgcoapehmekaaPAllx28
import Derived.Test.YtolgcoapehmekaaBitsB
namespace Go.Proofs.Ytolgcoapehmekaa.Pure
open Go.RowKit Go.Proofs.Ytolgcoapehmekaa.PAll Go.Proofs.YtolgcoapehmekaaW.PrintWords Go.Proofs.YtolgcoapehmekaaW.PrintLast Go.Proofs.YtolgcoapehmekaaW.PrintMore Go.Proofs.Ytolgcoapehmekaa.Base

theorem FnBytesBack : laws_FnBytesBack.Pure := by
  intro l h1 h2 h3
  refine Ev.rounds ?_
  unfold laws_FnBytesBack.f
  have hb := wf_bytes h3
  by_cases h : (l.length : Int) > 1048576
  · exact Ev.pos h (Ev.now _)
  · obtain ⟨b, hbl, hd⟩ := drawBytesOf_ev l hb
    refine Ev.neg h (Ev.bind hd (Ev.bindc (implBytes b) (Ev.bind (specBytes b) (Ev.neg (by simp) (Ev.pos rfl ?_)))))
    by_cases hc : b.length % 8 = 0 ∧ b.length ≤ 4800 ∧ b.all isBitB = true
    · have hB := bytesOf_bytes b
      have hbk := bits_of_bytes b hc
      have e : (bytesOf b).2 = true := by rw [bytesOf_yes' hc]
      rw [e]
      refine Ev.succ ?_
      simp only [laws_FnBytesBack.j0]
      refine Ev.neg (by simp) (Ev.bind (implBits _ hB) ?_)
      rw [hbk]
      exact Ev.bind (wnInts_self b (by omega)) (Ev.now _)
    · rw [bytesOf_no' hc]
      refine Ev.succ ?_
      simp only [laws_FnBytesBack.j0]
      exact Ev.pos rfl (Ev.pos (by simp) (Ev.pos trivial (Ev.now _)))
end Go.Proofs.Ytolgcoapehmekaa.Pure
