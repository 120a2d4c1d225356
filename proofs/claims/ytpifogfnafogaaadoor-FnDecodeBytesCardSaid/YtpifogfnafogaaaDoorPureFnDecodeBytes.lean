/- For all bytes that the codes are drawn of the law FnDecodeBytes answers true: the program's DecodeBytes is the reference's, and what is decoded is as far from its code as bits were mended. -/
import Derived.Test.YtpifogfnafogaaaDoorPAllx13
import Derived.Test.YtpifogfnafogaaaDoorNibH
namespace Go.Proofs.YtpifogfnafogaaaDoor.Pure
open Go.RowKit Go.Proofs.YtpifogfnafogaaaDoor.PAll Go.Proofs.YtpifogfnafogaaaDoorW.PrintWords Go.Proofs.YtpifogfnafogaaaDoorW.PrintLast Go.Proofs.YtpifogfnafogaaaDoorW.PrintMore Go.Proofs.YtpifogfnafogaaaDoor.Base

theorem FnDecodeBytes : laws_FnDecodeBytes.Pure := by
  intro l h1 h2 h3
  refine Ev.rounds ?_
  unfold laws_FnDecodeBytes.f
  by_cases h : (l.length : Int) > 1048576
  · exact Ev.pos h (Ev.now _)
  · obtain ⟨b, hb, hd⟩ := drawX l (wf_bytes h3)
    have hi := implDecB b hb
    have hs := specDecB b hb
    have out : Ev (fun k => laws_FnDecodeBytes.j0 k b (decB b).1 (decB b).2 (decB b).1 (decB b).2 true) true := by
      refine Ev.succ ?_
      simp only [laws_FnDecodeBytes.j0]
      exact Ev.pos trivial (Ev.pos trivial (Ev.eq (Ev.now _) (by simp)))
    refine Ev.neg h (Ev.bind hd (Ev.bindc hi (Ev.bind hs (Ev.pos rfl (Ev.pos rfl ?_)))))
    by_cases hn : (decB b).2 < 0
    · exact Ev.pos hn out
    · refine Ev.neg hn ?_
      by_cases hl : b.length ≤ 600
      · rw [decide_eq_false (by omega)]
        have hx : Bytes (decB b).1 := decB_bytes b hb
        have hf := far_same b hb hn hl
        refine Ev.succ ?_
        simp only [laws_FnDecodeBytes.j0]
        exact Ev.neg Bool.false_ne_true (Ev.bind (implEncB _ hx) (Ev.bind (implDist _ b (encB_bytes _ hx) hb) (Ev.eq (Ev.now _) (by rw [hf]; simp))))
      · rw [decide_eq_true (by omega)]
        exact out
end Go.Proofs.YtpifogfnafogaaaDoor.Pure
