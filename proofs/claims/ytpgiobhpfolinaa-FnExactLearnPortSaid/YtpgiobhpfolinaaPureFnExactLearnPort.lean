/- For every table, port count, station and port the law FnExactLearnPort answers true: the program's LearnPort is the reference's, its answer a slice of its own. No condition. -/
import Derived.Test.YtpgiobhpfolinaaPAllx11
import Derived.Test.YtpgiobhpfolinaaBridge
namespace Go.Proofs.Ytpgiobhpfolinaa.Pure
open Go.RowKit Go.Proofs.Ytpgiobhpfolinaa.PAll Go.Proofs.YtpgiobhpfolinaaW.PrintWords Go.Proofs.YtpgiobhpfolinaaW.PrintLast Go.Proofs.YtpgiobhpfolinaaW.PrintMore Go.Proofs.Ytpgiobhpfolinaa.Base

theorem FnExactLearnPort : laws_FnExactLearnPort.Pure := by
  intro l n s p h1 h2 h3 hn hs hp
  refine Ev.rounds ?_
  unfold laws_FnExactLearnPort.f
  by_cases h : (l.length : Int) > 1048576
  · exact Ev.pos h (Ev.now _)
  · have hl : l.length ≤ 1048576 := by omega
    have hb := learnI_len l n s p
    have hx : ((learnI l n s p).2 != (learnI l n s p).2) = false := by simp
    have hj2 : Ev (fun k => laws_FnExactLearnPort.j2 k (imarks 1 (learnI l n s p).1.length) ((1 + (learnI l n s p).1.length : Nat) : Int) ((learnI l n s p).2 != (learnI l n s p).2)) true := by
      refine Ev.succ ?_
      simp only [laws_FnExactLearnPort.j2]
      exact Ev.neg (by simp) (Ev.bind (heldIntS_ev 1 (learnI l n s p).1.length (by omega)) (Ev.neg (by omega) (Ev.pos rfl (Ev.now _))))
    have hj1 : Ev (fun k => laws_FnExactLearnPort.j1 k l n s p (learnI l n s p).1 (learnI l n s p).2 (learnI l n s p).1 ((learnI l n s p).2 != (learnI l n s p).2)) true := by
      rw [hx]
      refine Ev.succ ?_
      simp only [laws_FnExactLearnPort.j1]
      exact Ev.neg Bool.false_ne_true (Ev.bind (markIntS_ev (learnI l n s p).1 1 (by omega)) (Ev.bind (heldIntS_ev 1 (learnI l n s p).1.length (by omega)) (Ev.neg (by omega) (Ev.pos rfl (Ev.bind (toIntS_ev l hl) (Ev.bindc (implLearn l n s p) (Ev.bind (eqIntS_self (learnI l n s p).1 (by omega)) (Ev.pos rfl hj2))))))))
    have hj0 : Ev (fun k => laws_FnExactLearnPort.j0 k l n s p (learnI l n s p).1 (learnI l n s p).2 l (learnI l n s p).1 (learnI l n s p).2 ((learnI l n s p).2 != (learnI l n s p).2)) true := by
      refine Ev.succ ?_
      simp only [laws_FnExactLearnPort.j0]
      exact Ev.neg (by simp) (Ev.bind (toIntS_ev l hl) (Ev.bind (eqIntS_self l (by omega)) (Ev.pos rfl (Ev.bind (markIntS_ev l 1 (by omega)) (Ev.neg (by show ¬ ((1 + l.length : Nat) : Int) < 0; omega) (Ev.bind (eqIntS_self (learnI l n s p).1 (by omega)) (Ev.pos rfl hj1)))))))
    exact Ev.neg h (Ev.bind (toIntS_ev l hl) (Ev.bind (specLearn l n s p) (Ev.bind (toIntS_ev l hl) (Ev.bindc (implLearn l n s p) (Ev.bind (eqIntS_self (learnI l n s p).1 (by omega)) (Ev.pos rfl hj0))))))
end Go.Proofs.Ytpgiobhpfolinaa.Pure
