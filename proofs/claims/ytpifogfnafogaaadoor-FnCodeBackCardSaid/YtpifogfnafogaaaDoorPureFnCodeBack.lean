/- For all bytes that the data is drawn of the law FnCodeBack answers true: data comes back from its code, also with one wrong bit in each half, and all of them are counted. -/
import Derived.Test.YtpifogfnafogaaaDoorPAllx8
import Derived.Test.YtpifogfnafogaaaDoorNibI
namespace Go.Proofs.YtpifogfnafogaaaDoor.Pure
open Go.RowKit Go.Proofs.YtpifogfnafogaaaDoor.PAll Go.Proofs.YtpifogfnafogaaaDoorW.PrintWords Go.Proofs.YtpifogfnafogaaaDoorW.PrintLast Go.Proofs.YtpifogfnafogaaaDoorW.PrintMore Go.Proofs.YtpifogfnafogaaaDoor.Base

theorem FnCodeBack : laws_FnCodeBack.Pure := by
  intro l h1 h2 h3
  refine Ev.rounds ?_
  unfold laws_FnCodeBack.f
  by_cases h : (l.length : Int) > 1048576
  · exact Ev.pos h (Ev.now _)
  · obtain ⟨b, hb, hbl, hd⟩ := drawB l (wf_bytes h3)
    have hi := implEncB b hb
    have hs := specEncB b hb
    refine Ev.neg h (Ev.bind hd (Ev.bind hi (Ev.bind hs (Ev.pos rfl ?_))))
    by_cases hl : b.length ≤ 600
    · rw [decide_eq_false (by omega)]
      have e : encB b = encL b b.length := if_pos hl
      have hk : ([] : List Int).length + (encL b b.length).length < 140737488355328 := by rw [encL_len]; simp; omega
      refine Ev.succ ?_
      simp only [laws_FnCodeBack.j0]
      rw [e]
      refine Ev.neg Bool.false_ne_true (Ev.bindc rfl (Ev.pos hk (Ev.bindc rfl ?_)))
      rw [List.nil_append, encL_len]
      exact back_loop b hb hl (2 * b.length) 0 (encL b b.length) (by omega) (encL_len _ _) (fun j hj => by omega) (fun j _ => rfl)
    · rw [decide_eq_true (by omega)]
      refine Ev.succ ?_
      simp only [laws_FnCodeBack.j0]
      exact Ev.pos trivial (Ev.bind hs (Ev.eq (Ev.now _) (by simp)))
end Go.Proofs.YtpifogfnafogaaaDoor.Pure
